/- What a reading of an argument says of its cells, in the words of the printed texts: for whole numbers, bools, strings, structs and slices of these. No conditions. -/
import Derived.Test.YtogoblkehdmapaaDoorWWords
import Derived.WalkKit
import Derived.ProofKit
import Derived.OpenShut
import Derived.ShutString
import Derived.ChangeOld
import Derived.Deep.Slices
namespace Go.Proofs.YtogoblkehdmapaaDoor.Opn
open Go.RowKit Go.Proofs.YtogoblkehdmapaaDoorW.PrintWords

/-- What reads as data of type t is of kind k, and what is told of it. -/
def Opens (P : Program) (t : TypeId) {α : Type} (k : Kd α) (B : α → Prop) : Prop :=
  ∀ {H : Type} (enc : TypeId × Value → H) (w : World) (fuel : Nat) (cs : List Value) (x : DataW H × List MemPlace), DataW.trod enc P w 0 (fun _ => true) true fuel t cs = some x → ∃ a, k.K w a cs ∧ B a

theorem Opens.int {P : Program} {t : TypeId} {k : IntKind} (ht : P.underlying t = some (.int k)) : Opens P t (Kd.int k) (fun n => (Lit.int k n).wf = true) := by
  intro H enc w fuel cs x h
  obtain ⟨n, rfl, _, hw⟩ := DataW.trod_int ht h
  exact ⟨n, rfl, hw⟩
theorem Opens.bool {P : Program} {t : TypeId} (ht : P.underlying t = some .bool) : Opens P t Kd.bool (fun _ => True) := by
  intro H enc w fuel cs x h
  obtain ⟨n, rfl, _⟩ := DataW.trod_bool ht h
  exact ⟨n, rfl, trivial⟩
theorem Opens.string {P : Program} {t : TypeId} (ht : P.underlying t = some .string) : Opens P t Kd.string (fun s => s.size ≤ maxLen) := by
  intro H enc w fuel cs x h
  obtain ⟨n, rfl, _, hw⟩ := DataW.trod_string ht h
  exact ⟨n, rfl, hw⟩
theorem Opens.iso {P : Program} {t : TypeId} {α β : Type} {k : Kd α} {B : α → Prop} (h : Opens P t k B) (f : β → α) (g : α → β) (hg : ∀ a, f (g a) = a) : Opens P t (Kd.iso k f) (fun b => B (f b)) := by
  intro H enc w fuel cs x hx
  obtain ⟨a, ha, hb⟩ := h enc w fuel cs x hx
  exact ⟨g a, by show k.K w (f (g a)) cs; rw [hg]; exact ha, by show B (f (g a)); rw [hg]; exact hb⟩
theorem Opens.imp {P : Program} {t : TypeId} {α : Type} {k : Kd α} {B B' : α → Prop} (h : Opens P t k B) (hb : ∀ a, B a → B' a) : Opens P t k B' := by
  intro H enc w fuel cs x hx
  obtain ⟨a, ha, hb'⟩ := h enc w fuel cs x hx
  exact ⟨a, ha, hb a hb'⟩
theorem Opens.slice {P : Program} {t e : TypeId} {α : Type} [Inhabited α] {k : Kd α} {B : α → Prop} (ht : P.underlying t = some (.slice e)) (hs : P.cellsOf e = k.sz) (he : Opens P e k B) :
    Opens P t (Kd.slice e k) (fun l => l.length ≤ maxLen ∧ ∀ x ∈ l, B x) := by
  intro H enc w fuel cs x h
  rcases Go.Deep.open_slice ht h with ⟨rfl, rfl⟩ | ⟨a, len, cap, m, n, D, Pl, rfl, hb, hl, hm, hmm, rfl, hx⟩
  · exact ⟨[], ⟨none, 0, rfl, Nat.le_refl _, rfl, by simp, by simp⟩, by simp, by simp⟩
  · have hm' : m = cap := by simpa using hmm
    subst hm'
    have hall : ∀ i, i < len → ∃ y : α, (∃ cs', w.cells? 0 (a.add (i * P.cellsOf e)) (P.cellsOf e) = some cs' ∧ k.K w y cs') ∧ B y := by
      intro i hi
      obtain ⟨cs', h1, h2⟩ := hx i (by omega)
      obtain ⟨y, hy, hB⟩ := he enc w n cs' _ h2
      exact ⟨y, ⟨cs', h1, hy⟩, hB⟩
    obtain ⟨f, hf⟩ := Go.Deep.choose_lt hall
    refine ⟨(List.range len).map f, ⟨some a, m, by simp, by simpa using hl, by simp, ?_, ?_⟩, by simp; omega, ?_⟩
    · simp [maxLen] at hm ⊢; omega
    · intro hn
      refine ⟨a, rfl, fun j p hj => ?_⟩
      rw [List.getElem?_map] at hj
      obtain ⟨i, hi, rfl⟩ := Option.map_eq_some_iff.1 hj
      have hjl : j < len := by
        by_cases hlt : j < len
        · exact hlt
        · rw [List.getElem?_eq_none (by simp; omega)] at hi; cases hi
      rw [List.getElem?_range hjl] at hi
      cases hi
      obtain ⟨⟨cs', h1, h2⟩, _⟩ := hf j hjl
      obtain ⟨_, hlen, hcell⟩ := World.cells?_some h1
      refine ⟨cs', by rw [hlen, hs], h2, fun i u hu => ?_⟩
      have hi : i < cs'.length := by
        by_cases hlt : i < cs'.length
        · exact hlt
        · rw [List.getElem?_eq_none (by omega)] at hu; cases hu
      have := hcell i (by omega)
      rw [hu] at this
      rw [← hs, ← Go.Deep.add_add]
      exact this
    · intro y hy
      obtain ⟨i, hi, rfl⟩ := List.mem_map.1 hy
      exact (hf i (List.mem_range.1 hi)).2

/-- The fields from offset o on. -/
def OpensFrom (P : Program) (o : Nat) (fs : List Field) {α : Type} (k : Kd α) (B : α → Prop) : Prop :=
  ∀ {H : Type} (enc : TypeId × Value → H) (w : World) (n : Nat) (cs : List Value), (∀ f ∈ fs, ∃ y, DataW.trod enc P w 0 (fun _ => true) true n f.type ((cs.drop f.offset).take (P.cellsOf f.type)) = some y) → cs.length = o + k.sz → ∃ a, k.K w a (cs.drop o) ∧ B a
theorem OpensFrom.one {P : Program} {o : Nat} {f : Field} {α : Type} {k : Kd α} {B : α → Prop} (ho : f.offset = o) (hs : P.cellsOf f.type = k.sz) (h : Opens P f.type k B) : OpensFrom P o [f] k B := by
  intro H enc w n cs hf hl
  obtain ⟨y, hy⟩ := hf f (by simp)
  rw [ho, List.take_of_length_le (by rw [List.length_drop]; omega)] at hy
  exact h enc w n _ _ hy
theorem OpensFrom.cons {P : Program} {o : Nat} {f : Field} {fs : List Field} {α β : Type} {ka : Kd α} {kb : Kd β} {Ba : α → Prop} {Bb : β → Prop} (ho : f.offset = o) (hs : P.cellsOf f.type = ka.sz) (ha : Opens P f.type ka Ba)
    (hb : OpensFrom P (o + ka.sz) fs kb Bb) : OpensFrom P o (f :: fs) (Kd.pair ka kb) (fun x => Ba x.1 ∧ Bb x.2) := by
  intro H enc w n cs hf hl
  obtain ⟨y, hy⟩ := hf f (by simp)
  rw [ho] at hy
  obtain ⟨a, hka, hBa⟩ := ha enc w n _ _ hy
  obtain ⟨b, hkb, hBb⟩ := hb enc w n cs (fun g hg => hf g (by simp [hg])) (by rw [hl]; show o + (ka.sz + kb.sz) = _; omega)
  refine ⟨(a, b), ⟨_, _, ?_, hka, hkb⟩, hBa, hBb⟩
  rw [hs, ← List.drop_drop, List.take_append_drop]
theorem Opens.struct {P : Program} {t : TypeId} {fs : Array Field} {α : Type} {k : Kd α} {B : α → Prop} (ht : P.underlying t = some (.struct fs)) (hs : P.cellsOf t = k.sz) (h : OpensFrom P 0 fs.toList k B) : Opens P t k B := by
  intro H enc w fuel cs x hx
  obtain ⟨xs, n, _, _, hl, hlen, hf⟩ := DataW.trod_struct ht hx
  obtain ⟨a, hk, hB⟩ := h enc w n cs (fun f hfm => by
    obtain ⟨i, hi, he⟩ := List.getElem_of_mem hfm
    have hi' : i < fs.size := by simpa using hi
    have h1 := hf i f (by rw [Array.getElem?_eq_getElem hi', ← he]; simp)
    rw [List.getElem?_eq_getElem (by omega)] at h1
    exact ⟨_, h1⟩) (by rw [hl, hs]; omega)
  rw [List.drop_zero] at hk
  exact ⟨a, hk, hB⟩
end Go.Proofs.YtogoblkehdmapaaDoor.Opn
