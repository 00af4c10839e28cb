/- strings.Builder, strings.Join and join, as the hand contracts use them: a builder of the call's own holds a list of bytes. -/
import Derived.Lib.OthersKept
import Derived.Lib.BufferWrite
import Derived.Test.YtogoblkehdmapaaDoorShelf
import Derived.Test.YtogoblkehdmapaaDoorM0
namespace Go.Proofs.YtogoblkehdmapaaDoor.M
open Go.RowKit Go.Shelf Go.Proofs.YtogoblkehdmapaaDoorW.PrintWords Go.Proofs.YtogoblkehdmapaaDoorW.PrintLast Go.Proofs.YtogoblkehdmapaaDoorW.PrintMore
set_option linter.unusedVariables false
set_option linter.unusedSimpArgs false
namespace Bld
/-- Block b is a builder that holds the bytes l. -/
def Is (B b : Nat) (l : List UInt8) (w : World) : Prop := Lib.IsBuilderF 80 5 B b (Lib.byteCells l) w
theorem at_below {B b : Nat} {p : Value} {bs : List Value} {w w' : World} (h : Lib.BuilderAtF 80 5 B b p bs w) (hb : Below w.heap.size w w') : Lib.BuilderAtF 80 5 B b p bs w' := by
  obtain ⟨hB, v, hbk, hown, hne⟩ := h
  refine ⟨hB, v, (hb.block _ (blk_lt hbk)).trans hbk, hown.kept (grown_of_below hb none) ?_, hne⟩
  cases hv : v.ownBlock with
  | none => exact .inl rfl
  | some k => exact .inr (by simp)
theorem Is.below {B b : Nat} {l : List UInt8} {w w' : World} (h : Is B b l w) (hb : Below w.heap.size w w') : Is B b l w' :=
  h.elim (fun x => .inl (at_below x hb)) (fun x => .inr (at_below x hb))
theorem Is.alloc {B b : Nat} {l : List UInt8} {w : World} (h : Is B b l w) (o : Obj) : Is B b l (w.alloc o) := h.below ((Below.refl _ w).alloc (Nat.le_refl _) _)
theorem Is.drew {B b : Nat} {l : List UInt8} {w : World} (h : Is B b l w) : Is B b l w.drew := h
theorem Is.drewN {B b : Nat} {l : List UInt8} {w : World} (h : Is B b l w) (n : Nat) : Is B b l (w.drewN n) := h
theorem Is.lt {B b : Nat} {l : List UInt8} {w : World} (h : Is B b l w) : b < w.heap.size := h.elim (fun x => x.lt) (fun x => x.lt)
theorem Is.le {B b : Nat} {l : List UInt8} {w : World} (h : Is B b l w) : B ≤ b := h.elim (fun x => x.1) (fun x => x.1)
theorem Is.blk {B b : Nat} {l : List UInt8} {w : World} (h : Is B b l w) : ∃ cs, w.heap[b]? = some (.cells cs 80 (0, 0)) := by
  rcases h with ⟨_, v, hb, _⟩ | ⟨_, v, hb, _⟩ <;> exact ⟨_, hb⟩
theorem Is.far {B b : Nat} {l : List UInt8} {w : World} (h : Is B b l w) {g t : Nat} {cells : Array Value} (hb : w.heap[g]? = some (.cells cells t (0, 0))) (ht : t ≠ 80) (ht' : t ≠ 5) (j : Nat) (u : Value) : Is B b l (w.setCell ⟨g, j, none⟩ u) := by
  have key : ∀ {p : Value}, Lib.BuilderAtF 80 5 B b p (Lib.byteCells l) w → Lib.BuilderAtF 80 5 B b p (Lib.byteCells l) (w.setCell ⟨g, j, none⟩ u) := by
    rintro p ⟨hB, v, hbk, hown, hne⟩
    have hgb : b ≠ g := by
      rintro rfl
      rw [hbk] at hb
      injection hb with hb
      injection hb with _ hb
      exact ht hb.symm
    refine ⟨hB, v, blk_far (p := ⟨g, j, none⟩) hbk hgb u, hown.kept (Lib.grownBy_setCell w g j u) ?_, hne⟩
    by_cases hv : v.ownBlock = some g
    · obtain ⟨c, fz, hc⟩ := Lib.ownsRowF_kind hown g hv
      rw [hc] at hb
      injection hb with hb
      injection hb with _ hb
      exact absurd hb.symm ht'
    · exact .inr hv
  exact h.elim (fun x => .inl (key x)) (fun x => .inr (key x))
theorem fresh (w : World) : Is w.heap.size w.heap.size [] (w.alloc (.cells #[.pointer none, .slice none 0 0] 80)) := Lib.IsBuilderF.of (Lib.fresh_isBuilder _ _ w)
/-- What a write keeps besides: every other block but rows of bytes. -/
def Kp (b : Nat) (w w' : World) : Prop := Lib.OthersKept 5 (some b) w w'
theorem Kp.block {b : Nat} {w w' : World} (h : Kp b w w') {k t : Nat} {cs : Array Value} {fz : Nat × Nat} (hk : w.heap[k]? = some (.cells cs t fz)) (hb : k ≠ b) (ht : t ≠ 5) : w'.heap[k]? = some (.cells cs t fz) :=
  h k _ hk (by intro e; injection e with e; exact hb e) (by rintro c fz' e; injection e with _ e; exact ht e)
theorem write (B b : Nat) (l : List UInt8) (s : ByteArray) (w : World) (h : Is B b l w) (hlen : l.length + s.size ≤ 140737488355328) :
    Calls Tryd.prog 43 #[.pointer (some ⟨b, 0, none⟩), .string s] w fun e w' => e = .returned (.tuple #[.int .i64 s.size, .nilIface]) ∧ Is B b (l ++ s.data.toList) w' ∧ Below B w w' ∧ Kp b w w' := by
  refine (Any.Builder_WriteString_k (ρ := Tryd.lays156_ren) { Tryd.lays156 with } Tryd.Builder_Extra_156 B b (Lib.byteCells l) s w h (by rw [Lib.byteCells_length]; exact hlen) (Nat.le_trans h.le (Nat.le_of_lt h.lt))).mono ?_
  rintro e w' ⟨he, h1, h2, h3⟩
  refine ⟨he, ?_, h2, h3⟩
  have : Lib.byteCells l ++ Lib.strCells s = Lib.byteCells (l ++ s.data.toList) := by rw [Lib.strCells_eq]; unfold Lib.byteCells; rw [List.map_append]
  rw [this] at h1
  exact .inr h1
theorem string (B b : Nat) (l : List UInt8) (w : World) (h : Is B b l w) :
    Calls Tryd.prog 49 #[.pointer (some ⟨b, 0, none⟩)] w fun e w' => e = .returned (.string ⟨l.toArray⟩) ∧ Is B b l w' ∧ Below B w w' ∧ Kp b w w' := by
  refine (Any.Builder_String_any_k (ρ := Tryd.lays156_ren) { Tryd.lays156 with } Tryd.Builder_Extra_156 B b l w h (Nat.le_trans h.le (Nat.le_of_lt h.lt))).mono ?_
  rintro e w' ⟨he, h1, h2, h3⟩
  exact ⟨he, h1, h2, h3⟩
theorem join_empty (xs : List (List UInt8)) : Lib.join xs [] = xs.flatten := by
  unfold Lib.join
  induction xs with
  | nil => rfl
  | cons x xs ih => cases xs with
    | nil => simp [List.intercalate]
    | cons y ys => simp [List.intercalate, List.intersperse] at ih ⊢; exact ih
/-- The bytes of texts, one behind the other. -/
def cat (xs : List ByteArray) : List UInt8 := (xs.map (·.data.toList)).flatten
set_option maxHeartbeats 1000000 in
theorem join (bk o c : Nat) (xs : List ByteArray) (w : World) (hcells : ∀ (j : Nat) x, xs[j]? = some x → w.cell? ⟨bk, o + j, none⟩ = some (.string x)) (hbk : bk < w.heap.size) (hN : xs.length ≤ 140737488355328) (hcap : xs.length ≤ c) (hlen : (cat xs).length ≤ 140737488355328) :
    Calls Tryd.prog 44 #[.slice (some ⟨bk, o, none⟩) xs.length c] w fun e w' => e = .returned (.string ⟨(cat xs).toArray⟩) ∧ Below w.heap.size w w' := by
  have hj : Lib.join (xs.map (·.data.toList)) (⟨#[]⟩ : ByteArray).data.toList = cat xs := join_empty _
  have HC := Aside0.mk hcells
  have HJ := Aside0.mk hj
  clear hcells hj
  go_enter Tryd.func44, Tryd.ntmps44
  go_wp2_with fail
  refine (Tryd.strings_Join bk o c xs ⟨#[]⟩ _ HC.out hbk hN hcap (by rw [HJ.out]; exact hlen)).mono ?_
  rintro e w' ⟨he, hb⟩
  rw [HJ.out] at he
  subst he
  go_wp2_with fail
  go_ret
  exact ⟨rfl, hb⟩
theorem join2 (bk : Nat) (a b : ByteArray) (w : World) (h0 : w.cell? ⟨bk, 0, none⟩ = some (.string a)) (h1 : w.cell? ⟨bk, 1, none⟩ = some (.string b)) (hlen : a.size + b.size ≤ 140737488355328) :
    Calls Tryd.prog 44 #[.slice (some ⟨bk, 0, none⟩) 2 2] w fun e w' => e = .returned (.string ⟨(a.data.toList ++ b.data.toList).toArray⟩) ∧ Below w.heap.size w w' := by
  have hc : cat [a, b] = a.data.toList ++ b.data.toList := by simp [cat]
  have := join bk 0 2 [a, b] w (fun j x hx => by
    match j, hx with
    | 0, hx => cases hx; exact h0
    | 1, hx => cases hx; exact h1
    | j + 2, hx => simp at hx) (World.block_lt_of_cell? _ _ h0) (by simp) (by simp) (by rw [hc, List.length_append]; exact hlen)
  rw [hc] at this
  exact this
theorem join4 (bk : Nat) (a b c d : ByteArray) (w : World) (h0 : w.cell? ⟨bk, 0, none⟩ = some (.string a)) (h1 : w.cell? ⟨bk, 1, none⟩ = some (.string b)) (h2 : w.cell? ⟨bk, 2, none⟩ = some (.string c)) (h3 : w.cell? ⟨bk, 3, none⟩ = some (.string d)) (hlen : a.size + b.size + c.size + d.size ≤ 140737488355328) :
    Calls Tryd.prog 44 #[.slice (some ⟨bk, 0, none⟩) 4 4] w fun e w' => e = .returned (.string ⟨(a.data.toList ++ b.data.toList ++ c.data.toList ++ d.data.toList).toArray⟩) ∧ Below w.heap.size w w' := by
  have hc : cat [a, b, c, d] = a.data.toList ++ b.data.toList ++ c.data.toList ++ d.data.toList := by simp [cat]
  have := join bk 0 4 [a, b, c, d] w (fun j x hx => by
    match j, hx with
    | 0, hx => cases hx; exact h0
    | 1, hx => cases hx; exact h1
    | 2, hx => cases hx; exact h2
    | 3, hx => cases hx; exact h3
    | j + 4, hx => simp at hx) (World.block_lt_of_cell? _ _ h0) (by simp) (by simp) (by rw [hc, List.length_append, List.length_append, List.length_append]; exact hlen)
  rw [hc] at this
  exact this
end Bld
end Go.Proofs.YtogoblkehdmapaaDoor.M
