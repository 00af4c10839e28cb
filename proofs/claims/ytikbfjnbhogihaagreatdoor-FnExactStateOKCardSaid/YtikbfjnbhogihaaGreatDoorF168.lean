/- Some of this seat's texts, joined by prune.py. -/
import Derived.Test.YtikbfjnbhogihaaGreatDoorM0
import Derived.Test.YtikbfjnbhogihaaGreatDoorCan
import Derived.Test.YtikbfjnbhogihaaGreatDoorF161
import Derived.Test.YtikbfjnbhogihaaGreatDoorS0
import Derived.WalkKit
import Derived.Laws.RangeAny
import Derived.Test.YtikbfjnbhogihaaGreatDoorShelf
/- Some of this seat's texts, joined by prune.py. -/
-- By pp.py, a program of this repo, with the kit's printer: Lean checks it.
namespace Go.Proofs.YtikbfjnbhogihaaGreatDoor.M
open Go.RowKit Go.Proofs.YtikbfjnbhogihaaGreatDoorW.PrintWords Go.Proofs.YtikbfjnbhogihaaGreatDoorW.PrintLast Go.Proofs.YtikbfjnbhogihaaGreatDoorW.PrintMore
attribute [local go_sem] max2_int min2_int max_two min_two max_three min_three max_four min_four
set_option linter.unusedVariables false
set_option linter.unusedSimpArgs false
/-! ### spec_l2Get: function 168 -/
def spec_l2Get.l0 : Nat → ByteArray → Int → Int → Int → Int → Option (Int)
 | 0, _, _, _, _, _ => none
 | k + 1, x0, x1, x2, x7, x8 => if x8 < x2 then (if 0 ≤ (wrap64 (x1 + x8)) then (if (wrap64 (x1 + x8)) < (x0.size : Int) then (spec_l2Get.l0 k x0 x1 x2 (wrap64 ((wrap64 (x7 * 256)) + (wrap64 (bt x0 (wrap64 (x1 + x8)))))) (wrap64 (x8 + 1))) else (none)) else (none)) else (some x7)
def spec_l2Get.f (k : Nat) (a0 : ByteArray) (a1 : Int) (a2 : Int) : Option (Int) := spec_l2Get.l0 k a0 a1 a2 0 0
theorem spec_l2Get.mono_l : ∀ k, (∀ y0 y1 y2 y3 y4, LeO (spec_l2Get.l0 k y0 y1 y2 y3 y4) (spec_l2Get.l0 (k + 1) y0 y1 y2 y3 y4))
 | 0 => fun _ _ _ _ _ r h => by simp [spec_l2Get.l0] at h
 | k + 1 => by
  have ih0 := spec_l2Get.mono_l k
  ·intro y0 y1 y2 y3 y4
   unfold spec_l2Get.l0
   repeat' first
   | (with_reducible exact ih0 _ _ _ _ _)
   | (with_reducible exact LeO.refl _)
   | (with_reducible exact LeO.none _)
   | (with_reducible refine LeO.ite ?_ ?_)
   | (with_reducible refine LeO.bind ?_ (fun _ => ?_))
   | exact ih0 _ _ _ _ _
   | exact LeO.none _
   | refine LeO.ite ?_ ?_
   | refine LeO.bind ?_ (fun _ => ?_)
theorem spec_l2Get.mono : ∀ a0 a1 a2 k, LeO (spec_l2Get.f k a0 a1 a2) (spec_l2Get.f (k + 1) a0 a1 a2) := by
 intro a0 a1 a2 k
 have ih0 := spec_l2Get.mono_l k
 unfold spec_l2Get.f
 repeat' first
   | (with_reducible exact ih0 _ _ _ _ _)
   | (with_reducible exact LeO.refl _)
   | (with_reducible exact LeO.none _)
   | (with_reducible refine LeO.ite ?_ ?_)
   | (with_reducible refine LeO.bind ?_ (fun _ => ?_))
   | exact ih0 _ _ _ _ _
   | exact LeO.none _
   | refine LeO.ite ?_ ?_
   | refine LeO.bind ?_ (fun _ => ?_)
set_option maxHeartbeats 8000000 in
set_option maxRecDepth 100000 in
theorem spec_l2Get.calls (k : Nat) (a0 : ByteArray) (a1 : Int) (a2 : Int) (r : Int) (w : World) (h : spec_l2Get.f k a0 a1 a2 = some r) :
  Calls Tryz.prog 168 #[.string a0, .int .i64 a1, .int .i64 a2] w fun e w' => e = .returned (.int .i64 r) ∧ Drawn0 w w' := by
 have H : (spec_l2Get.l0 k a0 a1 a2 0 0) = some r := h
 clear h
 have H' := Aside0.mk H
 clear H
 go_enter Tryz.func168, Tryz.ntmps168
 go_wp2
 go_loopg [7, 8] k (fun kq v7 v8 w' => ∃ (x7_1 : Int) (x8_1 : Int), v7 = .int .i64 x7_1 ∧ v8 = .int .i64 x8_1 ∧ Aside0 (spec_l2Get.l0 kq a0 a1 a2 x7_1 x8_1 = some r) ∧ Aside0 (kq ≤ k) ∧ Drawn0 w w')
 case atStart => exact ⟨(0), (0), (by first | rfl | (simp; done) | (simp [*]; done)), (by first | rfl | (simp; done) | (simp [*]; done)), H', ⟨Nat.le_refl _⟩, by repeat (first | exact Drawn0.refl _ | apply Drawn0.step)⟩
 case round =>
  clear H'
  try clear c1
  try clear p2
  obtain ⟨x7_1, x8_1, rfl, rfl, HA, HK1, ⟨m1, rfl⟩⟩ := hrel
  cases gk with
  | zero => exact absurd HA.out (by simp [spec_l2Get.l0])
  | succ k1 =>
   have H := HA.out
   clear HA
   simp only [spec_l2Get.l0] at H
   by_cases c4 : x8_1 < a2
   ·rw [if_pos c4] at H
    have c4b0 : decide (x8_1 < a2) = true := decide_eq_true c4
    clear c4
    obtain ⟨ji5, hji5⟩ : ∃ j_ : Int, (wrap64 (a1 + x8_1)) = j_ := ⟨_, rfl⟩
    replace H : (if 0 ≤ (ji5) then (if (ji5) < (a0.size : Int) then (spec_l2Get.l0 k1 a0 a1 a2 (wrap64 ((wrap64 (x7_1 * 256)) + (wrap64 (bt a0 (ji5))))) (wrap64 (x8_1 + 1))) else (none)) else (none)) = some r := by first | (rw [hji5] at H; exact H) | (simp only [hji5] at H ⊢; exact H)
    have hji5w : (IntKind.i64.wrap (a1 + x8_1)) = ji5 := (i64_w _).trans hji5
    by_cases c6 : 0 ≤ (ji5)
    ·rw [if_pos c6] at H
     have c6b0 : decide (0 ≤ (ji5)) = true := decide_eq_true c6
     clear c6
     by_cases c7 : (ji5) < (a0.size : Int)
     ·rw [if_pos c7] at H
      have c7b0 : decide ((ji5) < (a0.size : Int)) = true := decide_eq_true c7
      clear c7
      have H' := Aside0.mk H
      clear H
      have p8 : 0 ≤ ((ji5) : Int) := of_decide_eq_true (by first | (with_reducible assumption) | assumption)
      have q8 : (ji5) < (a0.size : Int) := of_decide_eq_true (by first | (with_reducible assumption) | assumption)
      have hx8 := bt_at a0 (ji5)
      replace p8 := eq_true p8
      replace q8 := eq_true q8
      go_wp2
      go_roundg k1
      case measure => have := HK1.out; omega
      case rel => exact ⟨(wrap64 ((wrap64 (x7_1 * 256)) + (wrap64 (bt a0 (ji5))))), (wrap64 (x8_1 + 1)), (by first | rfl | (simp; done) | (simp only [← hji5] <;> (first | rfl | simp)) | (simp [*]; done)), (by first | rfl | (simp; done) | (simp [*]; done)), H', ⟨by have := HK1.out; omega⟩, by repeat (first | exact Drawn0.refl _ | apply Drawn0.step)⟩
     ·rw [if_neg c7] at H
      exact absurd H (by simp)
    ·rw [if_neg c6] at H
     exact absurd H (by simp)
   ·rw [if_neg c4] at H
    have c4b0 : decide (x8_1 < a2) = false := decide_eq_false c4
    clear c4
    obtain rfl := Option.some.inj H
    go_wp2
    go_ret
    exact ⟨by first | rfl | (simp; done) | (simp [*]; done), by repeat (first | exact Drawn0.refl _ | apply Drawn0.step)⟩
end Go.Proofs.YtikbfjnbhogihaaGreatDoor.M
/- Some of this seat's texts, joined by prune.py. -/
/- Some of this seat's texts, joined by prune.py. -/
/- How long a canonical form is: plain. -/
namespace Go.Proofs.YtikbfjnbhogihaaGreatDoor.LabLaws
open Go.Proofs.YtikbfjnbhogihaaGreatDoor.M Go.Proofs.YtikbfjnbhogihaaGreatDoor.Loops Go.Proofs.YtikbfjnbhogihaaGreatDoorW.PrintWords Go.Proofs.YtikbfjnbhogihaaGreatDoorW.PrintLast Go.RowKit
abbrev LO := S141
theorem fold_count : ∀ (k acc : List LO), (k.foldl CanSort.ins acc).length = acc.length + k.length
 | [], acc => rfl
 | x :: k, acc => by rw [List.foldl_cons, fold_count k, (CanSort.ins_perm acc x).length_eq, List.length_cons, List.length_cons]; omega
theorem order_count (k : List LO) : (CanSort.order k).length = k.length := by unfold CanSort.order; rw [fold_count]; simp
theorem can_len (l : List LO) : (Can.can l).1.length ≤ 16 := by
 unfold Can.can
 split
 ·exact Nat.zero_le _
 ·split
  ·exact Nat.zero_le _
  ·split
   ·exact Nat.zero_le _
   ·split
    ·show (CanSort.order _).length ≤ 16
     rw [order_count]
     exact Nat.le_trans (List.length_filter_le _ _) (by omega)
    ·exact Nat.zero_le _
end Go.Proofs.YtikbfjnbhogihaaGreatDoor.LabLaws
/- Some of this seat's texts, joined by prune.py. -/
/- Labels as bytes: plain. -/
namespace Go.Proofs.YtikbfjnbhogihaaGreatDoor.M
open Go.RowKit Go.Proofs.YtikbfjnbhogihaaGreatDoorW.PrintWords Go.Proofs.YtikbfjnbhogihaaGreatDoorW.PrintLast Go.Proofs.YtikbfjnbhogihaaGreatDoorW.PrintMore
namespace Enc
abbrev Lb := S141
def labL (x : Lb) : List UInt8 := s8L x.f0 ++ s16L x.f1
def labsL (l : List Lb) : List UInt8 := l.flatMap labL
def LabOK (x : Lb) : Prop := x.f0.size ≤ 255 ∧ x.f1.size ≤ 65535
end Enc
end Go.Proofs.YtikbfjnbhogihaaGreatDoor.M
-- By pp.py, a program of this repo, with the kit's printer: Lean checks it.
namespace Go.Proofs.YtikbfjnbhogihaaGreatDoor.M
open Go.RowKit Go.Proofs.YtikbfjnbhogihaaGreatDoorW.PrintWords Go.Proofs.YtikbfjnbhogihaaGreatDoorW.PrintLast Go.Proofs.YtikbfjnbhogihaaGreatDoorW.PrintMore
attribute [local go_sem] max2_int min2_int max_two min_two max_three min_three max_four min_four
set_option linter.unusedVariables false
set_option linter.unusedSimpArgs false
theorem eqA141 (d : Nat) (w : World) (x0 y0 : ByteArray) (x1 y1 : ByteArray) :
  (Op.equalIn (d + 2) 141 (.agg #[.string x0, .string x1]) (.agg #[.string y0, .string y1])).run Tryz.prog w = .ok (x0.toList == y0.toList && (x1.toList == y1.toList)) w := by
 refine eqA_of Tryz.underlying141 (by kernel_rfl) ?_
 refine eqf_cons (by rfl) (by go_simp; rfl) (by go_simp; rfl) (by go_simp) ?_
 exact eqf_last (by rfl) (by go_simp; rfl) (by go_simp; rfl) (by go_simp)
end Go.Proofs.YtikbfjnbhogihaaGreatDoor.M
/- The reference's l2Num gives the lowest bytes of a number, as the program's num does. -/
namespace Go.Proofs.YtikbfjnbhogihaaGreatDoor.NumPlain
open Go.Proofs.YtikbfjnbhogihaaGreatDoor.M Go.Proofs.YtikbfjnbhogihaaGreatDoor.M.Num Go.Proofs.YtikbfjnbhogihaaGreatDoorW.PrintWords Go.Proofs.YtikbfjnbhogihaaGreatDoorW.PrintLast Go.RowKit
theorem l1_loop (v : Int) (xs : List Int) (i : Nat) (hi : i < 8) (r : ByteArray) (d : Nat) : ∀ j, j + d = i →
  (∃ k, spec_l2Num.l1 k v xs i (v / 256 ^ i) i = some r) → ∃ k, spec_l2Num.l1 k v xs i (v / 256 ^ j) j = some r := by
 induction d with
 | zero =>
  intro j hj h
  obtain rfl : j = i := by omega
  exact h
 | succ d ih =>
  intro j hj h
  obtain ⟨k, hk⟩ := ih (j + 1) (by omega) h
  refine ⟨k + 1, ?_⟩
  simp only [spec_l2Num.l1]
  have e2 : wrap64 ((j : Int) + 1) = ((j + 1 : Nat) : Int) := by unfold wrap64; omega
  rw [if_pos (by omega), arr8_div, e2]
  exact hk
def first (m : Nat) (v : Int) (n : Nat) : List Int := (List.range n).map fun p => byte8 v (8 - m + p)
theorem l0_loop (v : Int) (m : Nat) (hm : m ≤ 8) (d : Nat) : ∀ n, n + d = m →
  ∃ k, spec_l2Num.l0 k v (first m v n) ((m : Int) - 1 - n) = some (Num.bytes m v) := by
 induction d with
 | zero =>
  intro n hn
  obtain rfl : n = m := by omega
  refine ⟨1, ?_⟩
  simp only [spec_l2Num.l0]
  rw [if_neg (by omega)]
  rfl
 | succ d ih =>
  intro n hn
  obtain ⟨k, hk⟩ := ih (n + 1) (by omega)
  obtain ⟨k2, hk2⟩ := l1_loop v (first m v n) (m - 1 - n) (by omega) (Num.bytes m v) (m - 1 - n) 0 (by omega) ⟨k + 1, by
   simp only [spec_l2Num.l1]
   have e1 : wrap64 (((m - 1 - n : Nat) : Int) - 1) = (m : Int) - 1 - ((n + 1 : Nat) : Int) := by unfold wrap64; omega
   have e2 : first m v n ++ [v / 256 ^ (m - 1 - n) % 256] = first m v (n + 1) := by
    unfold first
    rw [List.range_succ, List.map_append]
    simp only [List.map_cons, List.map_nil, byte8]
    rw [show 7 - (8 - m + n) = m - 1 - n by omega]
   rw [if_neg (by omega), if_pos (by unfold first; rw [List.length_map, List.length_range]; omega), e1, e2]
   exact hk⟩
  refine ⟨k2 + 1, ?_⟩
  simp only [spec_l2Num.l0]
  rw [if_pos (by omega)]
  rw [show (m : Int) - 1 - (n : Int) = ((m - 1 - n : Nat) : Int) by omega]
  simpa using hk2
theorem spec_num (v : Int) (m : Nat) (hm : m ≤ 8) : Ev (fun k => spec_l2Num.f k m v) (Num.bytes m v) := by
 obtain ⟨k, hk⟩ := l0_loop v m hm m 0 (by omega)
 refine Ev.of (spec_l2Num.mono _ _) (k := k) ?_
 unfold spec_l2Num.f
 have e : wrap64 ((m : Int) - 1) = (m : Int) - 1 - ((0 : Nat) : Int) := by unfold wrap64; omega
 rw [e]
 exact hk
theorem bytes_size (m : Nat) (v : Int) : (Num.bytes m v).size = m := by
 unfold Num.bytes
 rw [strOfNums_size]
 simp [nums8]
end Go.Proofs.YtikbfjnbhogihaaGreatDoor.NumPlain
/- impl.valueFault: a range over a text's runes. -/
namespace Go.Proofs.YtikbfjnbhogihaaGreatDoor.M
open Go.RowKit Go.Proofs.YtikbfjnbhogihaaGreatDoorW.PrintWords Go.Proofs.YtikbfjnbhogihaaGreatDoorW.PrintLast Go.Proofs.YtikbfjnbhogihaaGreatDoorW.PrintMore
set_option linter.unusedVariables false
set_option linter.unusedSimpArgs false
def Tabs (w : World) : Prop := Lib.Utf8Tabs (Tryz.lays197_ren.g 3) (Tryz.lays197_ren.g 4) w
theorem Tabs.below {w w' : World} (h : Tabs w) (hb : Below w.heap.size w w') : Tabs w' := by
 have up : ∀ {a : Addr} {v : Value}, w.cell? a = some v → w'.cell? a = some v := fun hc => (hb.cell (World.block_lt_of_cell? w _ hc)).trans hc
 exact ⟨fun c hc => up (h.1 c hc), fun i hi => ⟨up (h.2 i hi).1, up (h.2 i hi).2⟩⟩
namespace Vf
open Utf
theorem get_cut (s : ByteArray) (pos k : Nat) (h : pos ≤ s.size) : (s.extract pos s.size).get! k = s.get! (pos + k) := by
 have hz : (s.extract pos s.size).size = s.size - pos := by rw [ByteArray.size_extract]; omega
 by_cases hk : pos + k < s.size
 ·rw [Utf8W.get!_of_lt _ k (by omega), Utf8W.get!_of_lt s (pos + k) hk, ByteArray.getElem_extract]
 ·have e1 : (s.extract pos s.size).get! k = default := by
   cases hs : s.extract pos s.size with
   | mk d =>
    have : ¬ k < d.size := by rw [hs] at hz; have : d.size = s.size - pos := hz; omega
    exact getElem!_neg d k this
  have e2 : s.get! (pos + k) = default := by
   cases s with
   | mk d => exact getElem!_neg d (pos + k) hk
  rw [e1, e2]
theorem decode_cut (s : ByteArray) (pos : Nat) (h : pos < s.size) : Lib.decodeGo (s.extract pos s.size) = Utf8.decode s pos := by
 have hz : (s.extract pos s.size).size = s.size - pos := by rw [ByteArray.size_extract]; omega
 unfold Lib.decodeGo
 rw [if_neg (by omega), Lib.decode_at, Lib.decode_at, hz, get_cut s pos _ (by omega), get_cut s pos _ (by omega), get_cut s pos _ (by omega), get_cut s pos _ (by omega), Nat.sub_zero, Nat.add_zero]
section
variable {P : Program}
theorem next_at (W : World) (g : Nat) (s : ByteArray) (pos : Nat) (hb : W.heap[g]? = some (.stringIter s pos)) (h : pos < s.size) (ty : TypeId) :
  (Instr.next (.pointer (some ⟨g, 0, none⟩)) true ty).run P W = .ok (.tuple #[.bool true, .int .i64 pos, .int .i32 (Utf8.decode s pos).1]) { W with heap := W.heap.setIfInBounds g (.stringIter s (pos + (Utf8.decode s pos).2)) } := by
 simp only [Instr.next, getObj, setObj, Sem.run_bind, Sem.run, hb, Result.andThen, h, if_true]
 simp [goInt]
theorem next_end (W : World) (g : Nat) (s : ByteArray) (pos : Nat) (hb : W.heap[g]? = some (.stringIter s pos)) (h : ¬ pos < s.size) (ty : TypeId) :
  (Instr.next (.pointer (some ⟨g, 0, none⟩)) true ty).run P W = .ok (.tuple #[.bool false]) W := by
 simp [Instr.next, getObj, Sem.run, hb, h]
end
theorem ctl_int (r : Nat) : ctl r = (decide ((r : Int) < 32) || (decide ((127 : Int) ≤ (r : Int)) && decide ((r : Int) ≤ 159))) := by
 unfold ctl
 rw [Bool.eq_iff_iff]
 simp only [Bool.or_eq_true, Bool.and_eq_true, decide_eq_true_eq]
 omega
theorem moved {w W : World} {g : Nat} {o o' : Obj} (hb : W.heap[g]? = some o) (hB : Below w.heap.size w W) (hg : w.heap.size ≤ g) :
  ({ W with heap := W.heap.setIfInBounds g o' } : World).heap[g]? = some o' ∧ Below w.heap.size w { W with heap := W.heap.setIfInBounds g o' } := by
 have hlt := blk_lt hb
 refine ⟨by simp [Array.getElem?_setIfInBounds, hlt], ⟨hB.os, hB.tape, hB.output, by simpa using hB.size, fun k hk => ?_⟩⟩
 show (W.heap.setIfInBounds g o')[k]? = _
 rw [Array.getElem?_setIfInBounds, if_neg (by omega)]
 exact hB.block k hk
set_option maxHeartbeats 8000000 in
set_option maxRecDepth 100000 in
theorem walk (s : ByteArray) (w : World) (hz : s.size ≤ 4611686018427387904) (hT : Tabs w) :
  Calls Tryz.prog 112 #[.string s] w fun e w' => e = .returned (.int .i64 (vf s)) ∧ Below w.heap.size w w' := by
 have HT := Aside0.mk hT
 clear hT
 go_enter Tryz.func112, Tryz.ntmps112
 go_wp2
 have hx0 : Aside0 ((w.iter s 0).heap[w.heap.size]? = some (.stringIter s 0)) := ⟨World.iter_heap w s 0⟩
 have hB0 : Aside0 (Below w.heap.size w (w.iter s 0)) := ⟨below_alloc (Below.refl _ w) _⟩
 go_loopw [3, 4] (fun n c wr => ∃ (pos b k : Nat) (cc : Bool), n = .int .i64 k ∧ c = .bool cc ∧ Aside0 (wr.heap[w.heap.size]? = some (.stringIter s pos)) ∧ Aside0 (Below w.heap.size w wr) ∧ Aside0 (fin k cc (scan s b pos) = vf s) ∧ Aside0 (s.size ≤ pos + b) ∧ Aside0 (k ≤ pos))
  (fun _ _ wr => s.size - wr.iterPos w.heap.size)
 case atStart => exact ⟨0, s.size, 0, false, rfl, rfl, hx0, hB0, ⟨rfl⟩, ⟨by omega⟩, ⟨Nat.le_refl _⟩⟩
 case round =>
  obtain ⟨pos, b, k, cc, rfl, rfl, HX, HB, HV, HS, HK⟩ := hrel
  by_cases hp : pos < s.size
  ·have hw := width_pos s pos hp
   obtain ⟨r, hr⟩ : ∃ r, r = (Utf8.decode s pos).1 := ⟨_, rfl⟩
   obtain ⟨d, hd⟩ : ∃ d, d = (Utf8.decode s pos).2 := ⟨_, rfl⟩
   obtain ⟨hx1, hb1⟩ := moved (o' := .stringIter s (pos + d)) HX.out HB.out (Nat.le_refl _)
   obtain ⟨W1, hW1⟩ : ∃ W1, ({ wr with heap := wr.heap.setIfInBounds w.heap.size (.stringIter s (pos + d)) } : World) = W1 := ⟨_, rfl⟩
   rw [hW1] at hx1 hb1
   have hnx : ∀ ty, (Instr.next (.pointer (some ⟨w.heap.size, 0, none⟩)) true ty).run Tryz.prog wr = .ok (.tuple #[.bool true, .int .i64 pos, .int .i32 r]) W1 := fun ty => by
    have := next_at (P := Tryz.prog) wr w.heap.size s pos HX.out hp ty
    rw [← hr, ← hd, hW1] at this
    exact this
   rw [← hd] at hw
   have hip : wr.iterPos w.heap.size = pos := by unfold World.iterPos; rw [HX.out]
   have HX1 := Aside0.mk hx1
   have HB1 := Aside0.mk hb1
   have HR := Aside0.mk hr
   have HD := Aside0.mk hd
   have HIP := Aside0.mk hip
   have HW := Aside0.mk hw
   clear hx1 hb1 hr hd hip hw hW1
   obtain ⟨b, rfl⟩ : ∃ b', b = b' + 1 := ⟨b - 1, by have := HS.out; omega⟩
   have hkw : wrap64 ((k : Int) + 1) = ((k + 1 : Nat) : Int) := by have := HK.out; unfold wrap64; omega
   have HKW := Aside0.mk hkw
   clear hkw
   have h0 : (0 : Int) ≤ (pos : Int) := Int.natCast_nonneg pos
   have h1 : (pos : Int) ≤ (s.size : Int) := by omega
   have done : ∀ (W2 : World) (cc' : Bool), W2.heap[w.heap.size]? = some (.stringIter s (pos + d)) → Below w.heap.size w W2 → cc' = (cc || ctl r) → ¬ bad s pos →
     (∃ (pos' b' k' : Nat) (c2 : Bool), Value.int .i64 (wrap64 ((k : Int) + 1)) = .int .i64 k' ∧ Value.bool cc' = .bool c2 ∧ Aside0 (W2.heap[w.heap.size]? = some (.stringIter s pos')) ∧ Aside0 (Below w.heap.size w W2) ∧ Aside0 (fin k' c2 (scan s b' pos') = vf s) ∧ Aside0 (s.size ≤ pos' + b') ∧ Aside0 (k' ≤ pos')) ∧ s.size - W2.iterPos w.heap.size < s.size - wr.iterPos w.heap.size := by
    intro W2 cc' hx hb hc hbad
    have hv := HV.out
    rw [scan_step s b pos hp hbad, fin_map, ← HR.out, ← HD.out, ← hc] at hv
    refine ⟨⟨pos + d, b, k + 1, cc', by rw [HKW.out], rfl, ⟨hx⟩, ⟨hb⟩, ⟨hv⟩, ⟨by have := HS.out; have := HW.out; omega⟩, ⟨by have := HK.out; have := HW.out; omega⟩⟩, ?_⟩
    rw [HIP.out, show W2.iterPos w.heap.size = pos + d by unfold World.iterPos; rw [hx]]
    have := HW.out
    omega
   have HDone := Aside0.mk done
   clear done
   by_cases hr5 : r = 65533
   ·have hr5' : (r : Int) = 65533 := by omega
    have HR5 := Aside0.mk hr5
    clear hr5
    go_wp2_with fail
    refine (Tryz.utf8_DecodeRuneInString (s.extract pos s.size) W1 (Tabs.below HT.out HB1.out)).mono ?_
    rintro e w2 ⟨rfl, hb2⟩
    rw [decode_cut s pos hp, ← HR.out, ← HD.out]
    have HX2 := Aside0.mk ((hb2.block _ (blk_lt HX1.out)).trans HX1.out)
    have HB2 := Aside0.mk (below_then HB1.out HB1.out.size hb2)
    clear hb2
    by_cases hd1 : d = 1
    ·have hd1' : (d : Int) = 1 := by omega
     have hv := HV.out
     rw [scan_bad s b pos hp ⟨by rw [← HR.out]; exact HR5.out, by rw [← HD.out]; exact hd1⟩, fin_none] at hv
     have HV2 := Aside0.mk hv
     clear hv hd1
     go_wp2
     go_ret
     exact ⟨by rw [← HV2.out]; rfl, HB2.out⟩
    ·have hd1' : ¬ (d : Int) = 1 := by omega
     have hbad : ¬ bad s pos := fun h => hd1 (HD.out.trans h.2)
     have hctl : ctl r = false := by rw [HR5.out]; rfl
     cases cc with
     | true =>
      go_wp2
      go_round
      case rel => exact (HDone.out _ _ HX2.out HB2.out rfl hbad).1
      case measure => exact (HDone.out _ true HX2.out HB2.out rfl hbad).2
     | false =>
      have HC := Aside0.mk hctl
      clear hctl
      go_wp2
      go_round
      case rel => exact (HDone.out _ _ HX2.out HB2.out (by rw [HC.out]; rfl) hbad).1
      case measure => exact (HDone.out _ false HX2.out HB2.out (by rw [HC.out]; rfl) hbad).2
   ·have hr5' : ¬ (r : Int) = 65533 := by omega
    have hbad : ¬ bad s pos := fun h => hr5 (HR.out.trans h.1)
    have HBad := Aside0.mk hbad
    clear hbad hr5
    cases cc with
    | true =>
     obtain h32 | h32 : (r : Int) < 32 ∨ ¬ (r : Int) < 32 := by omega
     all_goals obtain h127 | h127 : (127 : Int) ≤ (r : Int) ∨ ¬ (127 : Int) ≤ (r : Int) := by omega
     all_goals obtain h159 | h159 : (r : Int) ≤ 159 ∨ ¬ (r : Int) ≤ 159 := by omega
     all_goals first | (exfalso; omega) | skip
     all_goals go_wp2
     all_goals go_round
     all_goals first | exact (HDone.out _ true HX1.out HB1.out rfl HBad.out).1 | exact (HDone.out _ true HX1.out HB1.out rfl HBad.out).2
    | false =>
     obtain h32 | h32 : (r : Int) < 32 ∨ ¬ (r : Int) < 32 := by omega
     all_goals obtain h127 | h127 : (127 : Int) ≤ (r : Int) ∨ ¬ (127 : Int) ≤ (r : Int) := by omega
     all_goals obtain h159 | h159 : (r : Int) ≤ 159 ∨ ¬ (r : Int) ≤ 159 := by omega
     all_goals first | (exfalso; omega) | skip
     all_goals (have hctl := ctl_int r)
     all_goals (have HC := Aside0.mk hctl; clear hctl)
     all_goals go_wp2
     all_goals go_round
     all_goals first | exact (HDone.out _ (false || ctl r) HX1.out HB1.out rfl HBad.out).2 | exact (HDone.out _ _ HX1.out HB1.out (by rw [HC.out]; simp [h32, h127, h159]) HBad.out).1
  ·have hnx : ∀ ty, (Instr.next (.pointer (some ⟨w.heap.size, 0, none⟩)) true ty).run Tryz.prog wr = _ := fun ty => next_end wr w.heap.size s pos HX.out hp ty
   have hv := HV.out
   rw [scan_end s b pos (by omega)] at hv
   have hv2 : (if 128 < k then (43 : Int) else if cc = true then 44 else 0) = vf s := by rw [← hv]; simp [fin]
   have HV2 := Aside0.mk hv2
   clear hv hv2
   by_cases hk : 128 < k
   ·go_wp2
    go_ret
    exact ⟨by rw [← HV2.out, if_pos hk]; rfl, HB.out⟩
   ·cases cc
    ·go_wp2
     go_ret
     exact ⟨by rw [← HV2.out, if_neg hk]; rfl, HB.out⟩
    ·go_wp2
     go_ret
     exact ⟨by rw [← HV2.out, if_neg hk]; rfl, HB.out⟩
end Vf
def impl_valueFault.f (a0 : ByteArray) : Option Int := if a0.size ≤ 4611686018427387904 then some (Utf.vf a0) else none
theorem impl_valueFault.calls (a0 : ByteArray) (r : Int) (w : World) (h : impl_valueFault.f a0 = some r) (hT : Tabs w) :
  Calls Tryz.prog 112 #[.string a0] w fun e w' => e = .returned (.int .i64 r) ∧ Below w.heap.size w w' := by
 unfold impl_valueFault.f at h
 by_cases hz : a0.size ≤ 4611686018427387904
 ·rw [if_pos hz] at h
  obtain rfl := Option.some.inj h
  exact Vf.walk a0 w hz hT
 ·rw [if_neg hz] at h; cases h
end Go.Proofs.YtikbfjnbhogihaaGreatDoor.M
