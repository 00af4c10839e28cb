/- Some of this seat's texts, joined by prune.py. -/
import Derived.Test.YtikbfjnbhogihaaGreatDoorM0
import Derived.Test.YtikbfjnbhogihaaGreatDoorS0
import Derived.Test.YtikbfjnbhogihaaGreatDoorWWords
import Derived.WalkKit
import Derived.ProofKit
import Derived.OpenShut
import Derived.ShutString
import Derived.ChangeOld
import Derived.Deep.Slices
import Derived.Lib.SmallJoins
import Derived.Test.YtikbfjnbhogihaaGreatDoorCan
/- Some of this seat's texts, joined by prune.py. -/
/- Some of this seat's texts, joined by prune.py. -/
-- By pp.py, a program of this repo, with the kit's printer: Lean checks it.
namespace Go.Proofs.YtikbfjnbhogihaaGreatDoor.M
open Go.RowKit Go.Proofs.YtikbfjnbhogihaaGreatDoorW.PrintWords Go.Proofs.YtikbfjnbhogihaaGreatDoorW.PrintLast Go.Proofs.YtikbfjnbhogihaaGreatDoorW.PrintMore
attribute [local go_sem] max2_int min2_int max_two min_two max_three min_three max_four min_four
set_option linter.unusedVariables false
set_option linter.unusedSimpArgs false
/-! ### impl_s8: function 161 -/
def impl_s8.f (a0 : ByteArray) : Option (ByteArray) := (impl_num.f 1 (a0.size : Int)).bind fun t262 => (if t262.size + a0.size ≤ 9223372036854775807 then (some (t262 ++ a0)) else (none))
set_option maxHeartbeats 8000000 in
set_option maxRecDepth 100000 in
theorem impl_s8.calls (a0 : ByteArray) (r : ByteArray) (w : World) (h : impl_s8.f a0 = some r) :
  Calls Tryz.prog 161 #[.string a0] w fun e w' => e = .returned (.string r) ∧ Below w.heap.size w w' := by
 have HB := Aside0.mk (Below.refl w.heap.size w)
 have H : ((impl_num.f 1 (a0.size : Int)).bind fun t262 => (if t262.size + a0.size ≤ 9223372036854775807 then (some (t262 ++ a0)) else (none))) = some r := h
 clear h
 replace H := Option.bind_eq_some_iff.mp H
 obtain ⟨t262, A20, H⟩ := H
 replace H : (if t262.size + a0.size ≤ 9223372036854775807 then (some (t262 ++ a0)) else (none)) = some r := H
 have A2 := Aside0.mk A20
 clear A20
 by_cases c3 : t262.size + a0.size ≤ 9223372036854775807
 ·rw [if_pos c3] at H
  have c3b0 := eq_true c3
  have c3b1 : decide (t262.size + a0.size ≤ 9223372036854775807) = true := decide_eq_true c3
  try have c3b2 : (9223372036854775807 < t262.size + a0.size) = False := eq_false (Nat.not_lt.2 c3)
  obtain rfl := Option.some.inj H
  go_enter Tryz.func161, Tryz.ntmps161
  go_wp2_with (first | ((with_reducible refine gate_callee (f := 160) rfl ?_); refine goesL_ (some 5) rfl rfl Tryz.func160 (by kernel_rfl) rfl #[.int .i64 1, .int .i64 (a0.size : Int)] rfl (by (try simp only [List.map_toArray, List.map_cons, List.map_nil]); first | done | rfl | (simp only [List.length_drop, List.length_take]; rfl)) ?_; (with_reducible refine (impl_num.calls 1 (a0.size : Int) t262 _ A2.out).mono ?_); rintro e w4 ⟨rfl, hb⟩; refine ⟨_, rfl, ?_⟩; have n0_ := Aside0.mk (below_step (by repeat (first | (with_reducible first | exact HB.out | apply below_alloc | apply pw_below_drewN | apply below_drew1) | exact HB.out)) hb); clear HB; have HB := n0_; clear n0_; (try clear hb); (try clear hb2); (try clear hk); (try clear hi)))
  go_ret
  exact ⟨by first | rfl | (simp [errW_none, errW_some] <;> rfl) | (simp [*, errW_none, errW_some] <;> rfl), by repeat (first | (with_reducible first | exact HB.out | apply below_alloc | apply pw_below_drewN | apply below_drew1) | exact HB.out)⟩
 ·rw [if_neg c3] at H
  exact absurd H (by simp)
end Go.Proofs.YtikbfjnbhogihaaGreatDoor.M
-- By pp.py, a program of this repo, with the kit's printer: Lean checks it.
namespace Go.Proofs.YtikbfjnbhogihaaGreatDoor.M
open Go.RowKit Go.Proofs.YtikbfjnbhogihaaGreatDoorW.PrintWords Go.Proofs.YtikbfjnbhogihaaGreatDoorW.PrintLast Go.Proofs.YtikbfjnbhogihaaGreatDoorW.PrintMore
attribute [local go_sem] max2_int min2_int max_two min_two max_three min_three max_four min_four
set_option linter.unusedVariables false
set_option linter.unusedSimpArgs false
/-! ### impl_s16: function 162 -/
def impl_s16.f (a0 : ByteArray) : Option (ByteArray) := (impl_num.f 2 (a0.size : Int)).bind fun t263 => (if t263.size + a0.size ≤ 9223372036854775807 then (some (t263 ++ a0)) else (none))
set_option maxHeartbeats 8000000 in
set_option maxRecDepth 100000 in
theorem impl_s16.calls (a0 : ByteArray) (r : ByteArray) (w : World) (h : impl_s16.f a0 = some r) :
  Calls Tryz.prog 162 #[.string a0] w fun e w' => e = .returned (.string r) ∧ Below w.heap.size w w' := by
 have HB := Aside0.mk (Below.refl w.heap.size w)
 have H : ((impl_num.f 2 (a0.size : Int)).bind fun t263 => (if t263.size + a0.size ≤ 9223372036854775807 then (some (t263 ++ a0)) else (none))) = some r := h
 clear h
 replace H := Option.bind_eq_some_iff.mp H
 obtain ⟨t263, A20, H⟩ := H
 replace H : (if t263.size + a0.size ≤ 9223372036854775807 then (some (t263 ++ a0)) else (none)) = some r := H
 have A2 := Aside0.mk A20
 clear A20
 by_cases c3 : t263.size + a0.size ≤ 9223372036854775807
 ·rw [if_pos c3] at H
  have c3b0 := eq_true c3
  have c3b1 : decide (t263.size + a0.size ≤ 9223372036854775807) = true := decide_eq_true c3
  try have c3b2 : (9223372036854775807 < t263.size + a0.size) = False := eq_false (Nat.not_lt.2 c3)
  obtain rfl := Option.some.inj H
  go_enter Tryz.func162, Tryz.ntmps162
  go_wp2_with (first | ((with_reducible refine gate_callee (f := 160) rfl ?_); refine goesL_ (some 5) rfl rfl Tryz.func160 (by kernel_rfl) rfl #[.int .i64 2, .int .i64 (a0.size : Int)] rfl (by (try simp only [List.map_toArray, List.map_cons, List.map_nil]); first | done | rfl | (simp only [List.length_drop, List.length_take]; rfl)) ?_; (with_reducible refine (impl_num.calls 2 (a0.size : Int) t263 _ A2.out).mono ?_); rintro e w4 ⟨rfl, hb⟩; refine ⟨_, rfl, ?_⟩; have n0_ := Aside0.mk (below_step (by repeat (first | (with_reducible first | exact HB.out | apply below_alloc | apply pw_below_drewN | apply below_drew1) | exact HB.out)) hb); clear HB; have HB := n0_; clear n0_; (try clear hb); (try clear hb2); (try clear hk); (try clear hi)))
  go_ret
  exact ⟨by first | rfl | (simp [errW_none, errW_some] <;> rfl) | (simp [*, errW_none, errW_some] <;> rfl), by repeat (first | (with_reducible first | exact HB.out | apply below_alloc | apply pw_below_drewN | apply below_drew1) | exact HB.out)⟩
 ·rw [if_neg c3] at H
  exact absurd H (by simp)
end Go.Proofs.YtikbfjnbhogihaaGreatDoor.M
/- What a reading of an argument says of its cells, in the words of the printed texts: for whole numbers, bools, strings, structs and slices of these. No conditions. -/
namespace Go.Proofs.YtikbfjnbhogihaaGreatDoor.Opn
open Go.RowKit Go.Proofs.YtikbfjnbhogihaaGreatDoorW.PrintWords
def Opens (P : Program) (t : TypeId) {α : Type} (k : Kd α) (B : α → Prop) : Prop :=
 ∀ {H : Type} (enc : TypeId × Value → H) (w : World) (fuel : Nat) (cs : List Value) (x : DataW H × List MemPlace), DataW.trod enc P w 0 (fun _ => true) true fuel t cs = some x → ∃ a, k.K w a cs ∧ B a
theorem Opens.int {P : Program} {t : TypeId} {k : IntKind} (ht : P.underlying t = some (.int k)) : Opens P t (Kd.int k) (fun n => (Lit.int k n).wf = true) := by
 intro H enc w fuel cs x h
 obtain ⟨n, rfl, _, hw⟩ := DataW.trod_int ht h
 exact ⟨n, rfl, hw⟩
theorem Opens.bool {P : Program} {t : TypeId} (ht : P.underlying t = some .bool) : Opens P t Kd.bool (fun _ => True) := by
 intro H enc w fuel cs x h
 obtain ⟨n, rfl, _⟩ := DataW.trod_bool ht h
 exact ⟨n, rfl, trivial⟩
theorem Opens.string {P : Program} {t : TypeId} (ht : P.underlying t = some .string) : Opens P t Kd.string (fun s => s.size ≤ maxLen) := by
 intro H enc w fuel cs x h
 obtain ⟨n, rfl, _, hw⟩ := DataW.trod_string ht h
 exact ⟨n, rfl, hw⟩
theorem Opens.iso {P : Program} {t : TypeId} {α β : Type} {k : Kd α} {B : α → Prop} (h : Opens P t k B) (f : β → α) (g : α → β) (hg : ∀ a, f (g a) = a) : Opens P t (Kd.iso k f) (fun b => B (f b)) := by
 intro H enc w fuel cs x hx
 obtain ⟨a, ha, hb⟩ := h enc w fuel cs x hx
 exact ⟨g a, by show k.K w (f (g a)) cs; rw [hg]; exact ha, by show B (f (g a)); rw [hg]; exact hb⟩
theorem Opens.imp {P : Program} {t : TypeId} {α : Type} {k : Kd α} {B B' : α → Prop} (h : Opens P t k B) (hb : ∀ a, B a → B' a) : Opens P t k B' := by
 intro H enc w fuel cs x hx
 obtain ⟨a, ha, hb'⟩ := h enc w fuel cs x hx
 exact ⟨a, ha, hb a hb'⟩
theorem Opens.slice {P : Program} {t e : TypeId} {α : Type} [Inhabited α] {k : Kd α} {B : α → Prop} (ht : P.underlying t = some (.slice e)) (hs : P.cellsOf e = k.sz) (he : Opens P e k B) :
  Opens P t (Kd.slice e k) (fun l => l.length ≤ maxLen ∧ ∀ x ∈ l, B x) := by
 intro H enc w fuel cs x h
 rcases Go.Deep.open_slice ht h with ⟨rfl, rfl⟩ | ⟨a, len, cap, m, n, D, Pl, rfl, hb, hl, hm, hmm, rfl, hx⟩
 ·exact ⟨[], ⟨none, 0, rfl, Nat.le_refl _, rfl, by simp, by simp⟩, by simp, by simp⟩
 ·have hm' : m = cap := by simpa using hmm
  subst hm'
  have hall : ∀ i, i < len → ∃ y : α, (∃ cs', w.cells? 0 (a.add (i * P.cellsOf e)) (P.cellsOf e) = some cs' ∧ k.K w y cs') ∧ B y := by
   intro i hi
   obtain ⟨cs', h1, h2⟩ := hx i (by omega)
   obtain ⟨y, hy, hB⟩ := he enc w n cs' _ h2
   exact ⟨y, ⟨cs', h1, hy⟩, hB⟩
  obtain ⟨f, hf⟩ := Go.Deep.choose_lt hall
  refine ⟨(List.range len).map f, ⟨some a, m, by simp, by simpa using hl, by simp, ?_, ?_⟩, by simp; omega, ?_⟩
  ·simp [maxLen] at hm ⊢; omega
  ·intro hn
   refine ⟨a, rfl, fun j p hj => ?_⟩
   rw [List.getElem?_map] at hj
   obtain ⟨i, hi, rfl⟩ := Option.map_eq_some_iff.1 hj
   have hjl : j < len := by
    by_cases hlt : j < len
    ·exact hlt
    ·rw [List.getElem?_eq_none (by simp; omega)] at hi; cases hi
   rw [List.getElem?_range hjl] at hi
   cases hi
   obtain ⟨⟨cs', h1, h2⟩, _⟩ := hf j hjl
   obtain ⟨_, hlen, hcell⟩ := World.cells?_some h1
   refine ⟨cs', by rw [hlen, hs], h2, fun i u hu => ?_⟩
   have hi : i < cs'.length := by
    by_cases hlt : i < cs'.length
    ·exact hlt
    ·rw [List.getElem?_eq_none (by omega)] at hu; cases hu
   have := hcell i (by omega)
   rw [hu] at this
   rw [← hs, ← Go.Deep.add_add]
   exact this
  ·intro y hy
   obtain ⟨i, hi, rfl⟩ := List.mem_map.1 hy
   exact (hf i (List.mem_range.1 hi)).2
def OpensFrom (P : Program) (o : Nat) (fs : List Field) {α : Type} (k : Kd α) (B : α → Prop) : Prop :=
 ∀ {H : Type} (enc : TypeId × Value → H) (w : World) (n : Nat) (cs : List Value), (∀ f ∈ fs, ∃ y, DataW.trod enc P w 0 (fun _ => true) true n f.type ((cs.drop f.offset).take (P.cellsOf f.type)) = some y) → cs.length = o + k.sz → ∃ a, k.K w a (cs.drop o) ∧ B a
theorem OpensFrom.one {P : Program} {o : Nat} {f : Field} {α : Type} {k : Kd α} {B : α → Prop} (ho : f.offset = o) (hs : P.cellsOf f.type = k.sz) (h : Opens P f.type k B) : OpensFrom P o [f] k B := by
 intro H enc w n cs hf hl
 obtain ⟨y, hy⟩ := hf f (by simp)
 rw [ho, List.take_of_length_le (by rw [List.length_drop]; omega)] at hy
 exact h enc w n _ _ hy
theorem OpensFrom.cons {P : Program} {o : Nat} {f : Field} {fs : List Field} {α β : Type} {ka : Kd α} {kb : Kd β} {Ba : α → Prop} {Bb : β → Prop} (ho : f.offset = o) (hs : P.cellsOf f.type = ka.sz) (ha : Opens P f.type ka Ba)
  (hb : OpensFrom P (o + ka.sz) fs kb Bb) : OpensFrom P o (f :: fs) (Kd.pair ka kb) (fun x => Ba x.1 ∧ Bb x.2) := by
 intro H enc w n cs hf hl
 obtain ⟨y, hy⟩ := hf f (by simp)
 rw [ho] at hy
 obtain ⟨a, hka, hBa⟩ := ha enc w n _ _ hy
 obtain ⟨b, hkb, hBb⟩ := hb enc w n cs (fun g hg => hf g (by simp [hg])) (by rw [hl]; show o + (ka.sz + kb.sz) = _; omega)
 refine ⟨(a, b), ⟨_, _, ?_, hka, hkb⟩, hBa, hBb⟩
 rw [hs, ← List.drop_drop, List.take_append_drop]
theorem Opens.struct {P : Program} {t : TypeId} {fs : Array Field} {α : Type} {k : Kd α} {B : α → Prop} (ht : P.underlying t = some (.struct fs)) (hs : P.cellsOf t = k.sz) (h : OpensFrom P 0 fs.toList k B) : Opens P t k B := by
 intro H enc w fuel cs x hx
 obtain ⟨xs, n, _, _, hl, hlen, hf⟩ := DataW.trod_struct ht hx
 obtain ⟨a, hk, hB⟩ := h enc w n cs (fun f hfm => by
  obtain ⟨i, hi, he⟩ := List.getElem_of_mem hfm
  have hi' : i < fs.size := by simpa using hi
  have h1 := hf i f (by rw [Array.getElem?_eq_getElem hi', ← he]; simp)
  rw [List.getElem?_eq_getElem (by omega)] at h1
  exact ⟨_, h1⟩) (by rw [hl, hs]; omega)
 rw [List.drop_zero] at hk
 exact ⟨a, hk, hB⟩
end Go.Proofs.YtikbfjnbhogihaaGreatDoor.Opn
/- Some of this seat's texts, joined by prune.py. -/
/- Some of this seat's texts, joined by prune.py. -/
/- (*source).num: the number that the next bytes give, high byte first; what is missing is short. -/
namespace Go.Proofs.YtikbfjnbhogihaaGreatDoor.M
open Go.RowKit Go.Proofs.YtikbfjnbhogihaaGreatDoorW.PrintWords Go.Proofs.YtikbfjnbhogihaaGreatDoorW.PrintLast Go.Proofs.YtikbfjnbhogihaaGreatDoorW.PrintMore
set_option linter.unusedVariables false
set_option linter.unusedSimpArgs false
namespace SrcNum
def upto (t : ByteArray) : Nat → Int
 | 0 => 0
 | k + 1 => Go.bits .or .i64 (wrap64 (upto t k * 256)) (wrap64 (bt t (k : Int)))
end SrcNum
def impl_source_num.f (s0_0 : ByteArray) (a1 : Int) : Option (Int × ByteArray) := (impl_source_text.f s0_0 a1).bind fun t => if t.1.size ≤ 9223372036854775807 then some (SrcNum.upto t.1 t.1.size, t.2) else none
open SrcNum in
set_option maxHeartbeats 2000000 in
set_option maxRecDepth 100000 in
theorem impl_source_num.calls (g : Nat) (s0_0 : ByteArray) (a1 : Int) (r1 : Int) (r2 : ByteArray) (w0 w : World) (hI : IsS189 w0 w g s0_0) (hB : Below w0.heap.size w0 w) (h : impl_source_num.f s0_0 a1 = some (r1, r2)) :
  Calls Tryz.prog 133 #[.pointer (some ⟨g, 0, none⟩), .int .i64 a1] w fun e w' => e = .returned (.int .i64 r1) ∧ IsS189 w0 w' g r2 ∧ Below w0.heap.size w0 w' ∧ KeepBut w w' g none := by
 unfold impl_source_num.f at h
 obtain ⟨⟨t1, t2⟩, ht, h⟩ := Option.bind_eq_some_iff.mp h
 have hz : t1.size ≤ 9223372036854775807 := by
  by_cases hz : t1.size ≤ 9223372036854775807
  ·exact hz
  ·rw [if_neg hz] at h; cases h
 rw [if_pos hz] at h
 obtain ⟨hr1, hr2⟩ := Prod.mk.inj (Option.some.inj h)
 have HR1 := Aside0.mk hr1
 dsimp only at hr2
 subst hr2
 clear h hr1
 have HT := Aside0.mk ht
 clear ht
 have HIw := Aside0.mk hI
 have HBw := Aside0.mk hB
 clear hI hB
 go_enter Tryz.func133, Tryz.ntmps133
 go_wp2_with fail
 refine (impl_source_text.calls g s0_0 a1 t1 t2 w0 w HIw.out HBw.out HT.out).mono ?_
 rintro e w1 ⟨rfl, hi, hb, hk⟩
 have HI := Aside0.mk hi
 have HB := Aside0.mk hb
 have HK := Aside0.mk hk
 clear hi hb hk
 have hcv := Lib.run_convert_string_bytes (P := Tryz.prog) w1 9 53 5 t1 Tryz.underlying9 Tryz.underlying53 Tryz.underlying5
 go_wp2_with fail
 have HC := Aside0.mk (bytes_reads w1 5 t1 hz)
 have HB2 := Aside0.mk (Joins.below_bytesWorld w1.heap.size w1 5 t1 (Nat.le_refl _))
 clear hcv
 generalize Lib.bytesWorld w1 5 t1 = W2 at HC HB2 ⊢
 go_loop [5, 13] (fun v i => ∃ k : Nat, k ≤ t1.size ∧ i = .int .i64 k ∧ v = .int .i64 (upto t1 k)) (fun _ i => t1.size - (intOf i).toNat)
 case atStart => exact ⟨0, by omega, by simp, rfl⟩
 case round =>
  obtain ⟨k, hk, rfl, rfl⟩ := hrel
  obtain hk5 | hk6 : t1.size ≤ k ∨ k < t1.size := by omega
  ·obtain rfl : k = t1.size := by omega
   go_wp2
   go_ret
   exact ⟨by rw [← HR1.out]; rfl, HI.out.below HB2.out, below_then HB.out HB.out.size HB2.out, KeepBut.trans HK.out (KeepBut.of_below HB2.out g none) (.inl rfl)⟩
  ·obtain ⟨ad, e, hcell⟩ := HC.out.at_ (k : Int) (by omega) (by omega)
   obtain rfl : (⟨w1.heap.size, 0, none⟩ : Addr) = ad := by injection e
   rw [rd_bytesOf, add_plain, Int.toNat_natCast] at hcell
   clear e
   go_wp2
   go_round
   case rel => exact ⟨k + 1, by omega, by go_num, rfl⟩
   case measure => simp [intOf]; omega
end Go.Proofs.YtikbfjnbhogihaaGreatDoor.M
/- Some of this seat's texts, joined by prune.py. -/
/- Texts as bytes: plain. -/
namespace Go.Proofs.YtikbfjnbhogihaaGreatDoor.M
open Go.RowKit Go.Proofs.YtikbfjnbhogihaaGreatDoorW.PrintWords Go.Proofs.YtikbfjnbhogihaaGreatDoorW.PrintLast Go.Proofs.YtikbfjnbhogihaaGreatDoorW.PrintMore
namespace Enc
def nL (m : Nat) (v : Int) : List UInt8 := (Num.bytes m v).data.toList
theorem num_size (m : Nat) (v : Int) : (Num.bytes m v).size = m := by
 unfold Num.bytes
 rw [strOfNums_size]
 simp [Num.nums8]
theorem nL_length (m : Nat) (v : Int) : (nL m v).length = m := num_size m v
def s8L (s : ByteArray) : List UInt8 := nL 1 s.size ++ s.data.toList
def s16L (s : ByteArray) : List UInt8 := nL 2 s.size ++ s.data.toList
theorem len_ (s : ByteArray) : s.data.toList.length = s.size := rfl
theorem s8L_length (s : ByteArray) : (s8L s).length = 1 + s.size := by unfold s8L; rw [List.length_append, nL_length, len_]
theorem s16L_length (s : ByteArray) : (s16L s).length = 2 + s.size := by unfold s16L; rw [List.length_append, nL_length, len_]
def s8B (s : ByteArray) : ByteArray := Num.bytes 1 s.size ++ s
def s16B (s : ByteArray) : ByteArray := Num.bytes 2 s.size ++ s
theorem app_ (a b : ByteArray) : (a ++ b).data.toList = a.data.toList ++ b.data.toList := by
 rw [show (a ++ b).data = a.data ++ b.data from ByteArray.data_append]; simp
theorem s8B_list (s : ByteArray) : (s8B s).data.toList = s8L s := app_ _ _
theorem s16B_list (s : ByteArray) : (s16B s).data.toList = s16L s := app_ _ _
end Enc
end Go.Proofs.YtikbfjnbhogihaaGreatDoor.M
-- By pp.py, a program of this repo, with the kit's printer: Lean checks it.
namespace Go.Proofs.YtikbfjnbhogihaaGreatDoor.M
open Go.RowKit Go.Proofs.YtikbfjnbhogihaaGreatDoorW.PrintWords Go.Proofs.YtikbfjnbhogihaaGreatDoorW.PrintLast Go.Proofs.YtikbfjnbhogihaaGreatDoorW.PrintMore
attribute [local go_sem] max2_int min2_int max_two min_two max_three min_three max_four min_four
set_option linter.unusedVariables false
set_option linter.unusedSimpArgs false
/-! ### impl_between: function 55 -/
def impl_between.f (a0 : Int) (a1 : Int) (a2 : Int) : Option (Bool) := if a0 ≥ a1 then (some (decide (a0 ≤ a2))) else (some false)
set_option maxHeartbeats 8000000 in
set_option maxRecDepth 100000 in
theorem impl_between.calls (a0 : Int) (a1 : Int) (a2 : Int) (r : Bool) (w : World) (h : impl_between.f a0 a1 a2 = some r) :
  Calls Tryz.prog 55 #[.int .i64 a0, .int .i64 a1, .int .i64 a2] w fun e w' => e = .returned (.bool r) ∧ Drawn0 w w' := by
 have H : (if a0 ≥ a1 then (some (decide (a0 ≤ a2))) else (some false)) = some r := h
 clear h
 by_cases c4 : a0 ≥ a1
 ·rw [if_pos c4] at H
  have c4b0 : decide (a1 ≤ a0) = true := decide_eq_true c4
  clear c4
  obtain rfl := Option.some.inj H
  go_enter Tryz.func55, Tryz.ntmps55
  go_wp2
  go_ret
  exact ⟨by first | rfl | (simp; done) | (simp [*]; done), by repeat (first | exact Drawn0.refl _ | apply Drawn0.step)⟩
 ·rw [if_neg c4] at H
  have c4b0 : decide (a1 ≤ a0) = false := decide_eq_false c4
  clear c4
  obtain rfl := Option.some.inj H
  go_enter Tryz.func55, Tryz.ntmps55
  go_wp2
  go_ret
  exact ⟨by first | rfl | (simp; done) | (simp [*]; done), by repeat (first | exact Drawn0.refl _ | apply Drawn0.step)⟩
end Go.Proofs.YtikbfjnbhogihaaGreatDoor.M
/- Some of this seat's texts, joined by prune.py. -/
-- By pp.py, a program of this repo, with the kit's printer: Lean checks it.
namespace Go.Proofs.YtikbfjnbhogihaaGreatDoor.M
open Go.RowKit Go.Proofs.YtikbfjnbhogihaaGreatDoorW.PrintWords Go.Proofs.YtikbfjnbhogihaaGreatDoorW.PrintLast Go.Proofs.YtikbfjnbhogihaaGreatDoorW.PrintMore
attribute [local go_sem] max2_int min2_int max_two min_two max_three min_three max_four min_four
set_option linter.unusedVariables false
set_option linter.unusedSimpArgs false
/-! ### spec_l2S8: function 95 -/
def spec_l2S8.f (k : Nat) (a0 : ByteArray) : Option (ByteArray) := (spec_l2Num.f k 1 (a0.size : Int)).bind fun t137 => (if t137.size + a0.size ≤ 9223372036854775807 then (some (t137 ++ a0)) else (none))
theorem spec_l2S8.mono : ∀ a0 k, LeO (spec_l2S8.f k a0) (spec_l2S8.f (k + 1) a0) := by
 intro a0 k
 unfold spec_l2S8.f
 repeat' first
   | (with_reducible exact spec_l2Num.mono _ _ _)
   | (with_reducible exact LeO.refl _)
   | (with_reducible exact LeO.none _)
   | (with_reducible refine LeO.ite ?_ ?_)
   | (with_reducible refine LeO.bind ?_ (fun _ => ?_))
   | exact spec_l2Num.mono _ _ _
   | exact LeO.none _
   | refine LeO.ite ?_ ?_
   | refine LeO.bind ?_ (fun _ => ?_)
set_option maxHeartbeats 8000000 in
set_option maxRecDepth 100000 in
theorem spec_l2S8.calls (k : Nat) (a0 : ByteArray) (r : ByteArray) (w : World) (h : spec_l2S8.f k a0 = some r) :
  Calls Tryz.prog 95 #[.string a0] w fun e w' => e = .returned (.string r) ∧ Below w.heap.size w w' := by
 have HB := Aside0.mk (Below.refl w.heap.size w)
 have H : ((spec_l2Num.f k 1 (a0.size : Int)).bind fun t137 => (if t137.size + a0.size ≤ 9223372036854775807 then (some (t137 ++ a0)) else (none))) = some r := h
 clear h
 replace H := Option.bind_eq_some_iff.mp H
 obtain ⟨t137, A20, H⟩ := H
 replace H : (if t137.size + a0.size ≤ 9223372036854775807 then (some (t137 ++ a0)) else (none)) = some r := H
 have A2 := Aside0.mk A20
 clear A20
 by_cases c3 : t137.size + a0.size ≤ 9223372036854775807
 ·rw [if_pos c3] at H
  have c3b0 := eq_true c3
  have c3b1 : decide (t137.size + a0.size ≤ 9223372036854775807) = true := decide_eq_true c3
  try have c3b2 : (9223372036854775807 < t137.size + a0.size) = False := eq_false (Nat.not_lt.2 c3)
  obtain rfl := Option.some.inj H
  go_enter Tryz.func95, Tryz.ntmps95
  go_wp2_with (first | ((with_reducible refine gate_callee (f := 94) rfl ?_); refine goesL_ (some 5) rfl rfl Tryz.func94 (by kernel_rfl) rfl #[.int .i64 1, .int .i64 (a0.size : Int)] rfl (by (try simp only [List.map_toArray, List.map_cons, List.map_nil]); first | done | rfl | (simp only [List.length_drop, List.length_take]; rfl)) ?_; (with_reducible refine (spec_l2Num.calls k 1 (a0.size : Int) t137 _ A2.out).mono ?_); rintro e w4 ⟨rfl, hb⟩; refine ⟨_, rfl, ?_⟩; have n0_ := Aside0.mk (below_step (by repeat (first | (with_reducible first | exact HB.out | apply below_alloc | apply pw_below_drewN | apply below_drew1) | exact HB.out)) hb); clear HB; have HB := n0_; clear n0_; (try clear hb); (try clear hb2); (try clear hk); (try clear hi)))
  go_ret
  exact ⟨by first | rfl | (simp [errW_none, errW_some] <;> rfl) | (simp [*, errW_none, errW_some] <;> rfl), by repeat (first | (with_reducible first | exact HB.out | apply below_alloc | apply pw_below_drewN | apply below_drew1) | exact HB.out)⟩
 ·rw [if_neg c3] at H
  exact absurd H (by simp)
end Go.Proofs.YtikbfjnbhogihaaGreatDoor.M
-- By pp.py, a program of this repo, with the kit's printer: Lean checks it.
namespace Go.Proofs.YtikbfjnbhogihaaGreatDoor.M
open Go.RowKit Go.Proofs.YtikbfjnbhogihaaGreatDoorW.PrintWords Go.Proofs.YtikbfjnbhogihaaGreatDoorW.PrintLast Go.Proofs.YtikbfjnbhogihaaGreatDoorW.PrintMore
attribute [local go_sem] max2_int min2_int max_two min_two max_three min_three max_four min_four
set_option linter.unusedVariables false
set_option linter.unusedSimpArgs false
/-! ### spec_l2S16: function 96 -/
def spec_l2S16.f (k : Nat) (a0 : ByteArray) : Option (ByteArray) := (spec_l2Num.f k 2 (a0.size : Int)).bind fun t138 => (if t138.size + a0.size ≤ 9223372036854775807 then (some (t138 ++ a0)) else (none))
theorem spec_l2S16.mono : ∀ a0 k, LeO (spec_l2S16.f k a0) (spec_l2S16.f (k + 1) a0) := by
 intro a0 k
 unfold spec_l2S16.f
 repeat' first
   | (with_reducible exact spec_l2Num.mono _ _ _)
   | (with_reducible exact LeO.refl _)
   | (with_reducible exact LeO.none _)
   | (with_reducible refine LeO.ite ?_ ?_)
   | (with_reducible refine LeO.bind ?_ (fun _ => ?_))
   | exact spec_l2Num.mono _ _ _
   | exact LeO.none _
   | refine LeO.ite ?_ ?_
   | refine LeO.bind ?_ (fun _ => ?_)
set_option maxHeartbeats 8000000 in
set_option maxRecDepth 100000 in
theorem spec_l2S16.calls (k : Nat) (a0 : ByteArray) (r : ByteArray) (w : World) (h : spec_l2S16.f k a0 = some r) :
  Calls Tryz.prog 96 #[.string a0] w fun e w' => e = .returned (.string r) ∧ Below w.heap.size w w' := by
 have HB := Aside0.mk (Below.refl w.heap.size w)
 have H : ((spec_l2Num.f k 2 (a0.size : Int)).bind fun t138 => (if t138.size + a0.size ≤ 9223372036854775807 then (some (t138 ++ a0)) else (none))) = some r := h
 clear h
 replace H := Option.bind_eq_some_iff.mp H
 obtain ⟨t138, A20, H⟩ := H
 replace H : (if t138.size + a0.size ≤ 9223372036854775807 then (some (t138 ++ a0)) else (none)) = some r := H
 have A2 := Aside0.mk A20
 clear A20
 by_cases c3 : t138.size + a0.size ≤ 9223372036854775807
 ·rw [if_pos c3] at H
  have c3b0 := eq_true c3
  have c3b1 : decide (t138.size + a0.size ≤ 9223372036854775807) = true := decide_eq_true c3
  try have c3b2 : (9223372036854775807 < t138.size + a0.size) = False := eq_false (Nat.not_lt.2 c3)
  obtain rfl := Option.some.inj H
  go_enter Tryz.func96, Tryz.ntmps96
  go_wp2_with (first | ((with_reducible refine gate_callee (f := 94) rfl ?_); refine goesL_ (some 5) rfl rfl Tryz.func94 (by kernel_rfl) rfl #[.int .i64 2, .int .i64 (a0.size : Int)] rfl (by (try simp only [List.map_toArray, List.map_cons, List.map_nil]); first | done | rfl | (simp only [List.length_drop, List.length_take]; rfl)) ?_; (with_reducible refine (spec_l2Num.calls k 2 (a0.size : Int) t138 _ A2.out).mono ?_); rintro e w4 ⟨rfl, hb⟩; refine ⟨_, rfl, ?_⟩; have n0_ := Aside0.mk (below_step (by repeat (first | (with_reducible first | exact HB.out | apply below_alloc | apply pw_below_drewN | apply below_drew1) | exact HB.out)) hb); clear HB; have HB := n0_; clear n0_; (try clear hb); (try clear hb2); (try clear hk); (try clear hi)))
  go_ret
  exact ⟨by first | rfl | (simp [errW_none, errW_some] <;> rfl) | (simp [*, errW_none, errW_some] <;> rfl), by repeat (first | (with_reducible first | exact HB.out | apply below_alloc | apply pw_below_drewN | apply below_drew1) | exact HB.out)⟩
 ·rw [if_neg c3] at H
  exact absurd H (by simp)
end Go.Proofs.YtikbfjnbhogihaaGreatDoor.M
