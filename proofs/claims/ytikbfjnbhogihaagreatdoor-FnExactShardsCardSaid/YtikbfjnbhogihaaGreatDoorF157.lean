import Derived.Test.YtikbfjnbhogihaaGreatDoorM0
import Derived.Test.YtikbfjnbhogihaaGreatDoorMkT
namespace Go.Proofs.YtikbfjnbhogihaaGreatDoor.M
open Go.RowKit Go.Proofs.YtikbfjnbhogihaaGreatDoorW.PrintWords Go.Proofs.YtikbfjnbhogihaaGreatDoorW.PrintLast Go.Proofs.YtikbfjnbhogihaaGreatDoorW.PrintMore
attribute [local go_sem] max2_int min2_int max_two min_two max_three min_three max_four min_four
set_option linter.unusedVariables false
set_option linter.unusedSimpArgs false
/-! ### impl_source_text: function 157 -/
def impl_source_text.f (s0_0 : ByteArray) (a1 : Int) : Option (ByteArray × ByteArray) := if 0 ≤ (mn a1 (s0_0.size : Int)) then (if (mn a1 (s0_0.size : Int)) ≤ (s0_0.size : Int) then (some (s0_0.extract 0 ((mn a1 (s0_0.size : Int)) : Int).toNat, s0_0.extract ((mn a1 (s0_0.size : Int)) : Int).toNat s0_0.size)) else (none)) else (none)
set_option maxHeartbeats 8000000 in
set_option maxRecDepth 100000 in
theorem impl_source_text.calls (g : Nat) (s0_0 : ByteArray) (a1 : Int) (r1 : ByteArray) (r2 : ByteArray) (w0 w : World) (hI : IsS189 w0 w g s0_0) (hB : Below w0.heap.size w0 w) (h : impl_source_text.f s0_0 a1 = some (r1, r2)) :
  Calls Tryz.prog 157 #[.pointer (some ⟨g, 0, none⟩), .int .i64 a1] w fun e w' => e = .returned (.string r1) ∧ IsS189 w0 w' g r2 ∧ Below w0.heap.size w0 w' ∧ KeepBut w w' g none := by
 have HI0 := Aside0.mk hI
 have HK := Aside0.mk (KeepBut.refl w g none)
 have HL := Aside0.mk hB.size
 clear hI
 have HW0 := Aside0.mk hB.size
 have HB := Aside0.mk hB
 clear hB
 have H : (if 0 ≤ (mn a1 (s0_0.size : Int)) then (if (mn a1 (s0_0.size : Int)) ≤ (s0_0.size : Int) then (some (s0_0.extract 0 ((mn a1 (s0_0.size : Int)) : Int).toNat, s0_0.extract ((mn a1 (s0_0.size : Int)) : Int).toNat s0_0.size)) else (none)) else (none)) = some (r1, r2) := h
 clear h
 obtain ⟨ji3, hji3⟩ : ∃ j_ : Int, (mn a1 (s0_0.size : Int)) = j_ := ⟨_, rfl⟩
 replace H : (if 0 ≤ (ji3) then (if (ji3) ≤ (s0_0.size : Int) then (some (s0_0.extract 0 ((ji3) : Int).toNat, s0_0.extract ((ji3) : Int).toNat s0_0.size)) else (none)) else (none)) = some (r1, r2) := by first | (rw [hji3] at H; exact H) | (simp only [hji3] at H ⊢; exact H)
 have hji3_ : (if (s0_0.size : Int) < a1 then (s0_0.size : Int) else a1) = ji3 := hji3
 by_cases c4 : 0 ≤ (ji3)
 ·rw [if_pos c4] at H
  have c4b0 := eq_true c4
  have c4b1 : decide (0 ≤ (ji3)) = true := decide_eq_true c4
  clear c4
  by_cases c5 : (ji3) ≤ (s0_0.size : Int)
  ·rw [if_pos c5] at H
   have c5b0 := eq_true c5
   have c5b1 : decide ((ji3) ≤ (s0_0.size : Int)) = true := decide_eq_true c5
   clear c5
   have c6b0 := eq_true (of_decide_eq_true (by first | (with_reducible assumption) | assumption) : 0 ≤ (ji3))
   have c7b0 := eq_true (of_decide_eq_true (by first | (with_reducible assumption) | assumption) : (ji3) ≤ (s0_0.size : Int))
   simp only [Option.some.injEq, Prod.mk.injEq] at H
   obtain ⟨rfl, rfl⟩ := H
   obtain ⟨HGz8, hgz8⟩ := HI0.out
   have hcz8_0 := cellS189_0 HGz8
   have hfz8_0 := blk_frozen HGz8 0
   clear HGz8 hgz8
   go_enter Tryz.func157, Tryz.ntmps157
   go_wp2
   go_ret
   exact ⟨by first | rfl | (simp [errW_none, errW_some] <;> rfl) | (simp only [← hji3]; first | rfl | (simp [errW_none, errW_some] <;> rfl)) | (simp [*, errW_none, errW_some] <;> rfl), by repeat (first | (with_reducible first | exact HI0.out | apply IsS189.alloc | apply IsS189.drewN | apply IsS189.drew | apply IsS189.set_0) | exact HI0.out), by repeat (first | (with_reducible first | exact HB.out | apply below_alloc | apply pw_below_drewN | apply below_drew1 | refine below_set ?_ (IsS189.ge HI0.out)) | exact HB.out), by repeat (first | (with_reducible first | exact HK.out | apply KeepBut.set_ | apply keep_drewN | apply keep_drew | apply keep_alloc) | exact HK.out)⟩
  ·rw [if_neg c5] at H
   exact absurd H (by simp)
 ·rw [if_neg c4] at H
  exact absurd H (by simp)
/-! ### impl_Hash64: function 115 -/
def impl_Hash64.l0 : Nat → ByteArray → Int → Int → Int → Option (Int)
 | 0, _, _, _, _ => none
 | k + 1, x0, x3, x6, x7 => if x7 < x6 then (if 0 ≤ x7 then (if x7 < (x0.size : Int) then (impl_Hash64.l0 k x0 (IntKind.u64.wrap ((Go.bits .xor .u64 x3 (IntKind.u64.wrap (bt x0 x7))) * 1099511628211)) x6 (wrap64 (x7 + 1))) else (none)) else (none)) else (some (wrap64 (x3)))
def impl_Hash64.f (k : Nat) (a0 : ByteArray) : Option (Int) := impl_Hash64.l0 k a0 14695981039346656037 (a0.size : Int) 0
set_option maxHeartbeats 8000000 in
set_option maxRecDepth 100000 in
theorem impl_Hash64.calls (k : Nat) (a0 : ByteArray) (r : Int) (w : World) (h : impl_Hash64.f k a0 = some r) :
  Calls Tryz.prog 115 #[.string a0] w fun e w' => e = .returned (.int .i64 r) ∧ Drawn0 w w' := by
 have H : (impl_Hash64.l0 k a0 14695981039346656037 (a0.size : Int) 0) = some r := h
 clear h
 have H' := Aside0.mk H
 clear H
 go_enter Tryz.func115, Tryz.ntmps115
 go_wp2
 go_loopg [3, 7] k (fun kq v3 v7 w' => ∃ (x3_1 : Int) (x7_1 : Int), v3 = .int .u64 x3_1 ∧ v7 = .int .i64 x7_1 ∧ Aside0 (impl_Hash64.l0 kq a0 x3_1 (a0.size : Int) x7_1 = some r) ∧ Aside0 (kq ≤ k) ∧ Drawn0 w w')
 case atStart => exact ⟨(14695981039346656037), (0), (by first | rfl | (simp; done) | (simp [*]; done)), (by first | rfl | (simp; done) | (simp [*]; done)), H', ⟨Nat.le_refl _⟩, by repeat (first | exact Drawn0.refl _ | apply Drawn0.step)⟩
 case round =>
  clear H'
  try clear c1
  obtain ⟨x3_1, x7_1, rfl, rfl, HA, HK1, ⟨m1, rfl⟩⟩ := hrel
  cases gk with
  | zero => exact absurd HA.out (by simp [impl_Hash64.l0])
  | succ k1 =>
   have H := HA.out
   clear HA
   simp only [impl_Hash64.l0] at H
   by_cases c2 : x7_1 < (a0.size : Int)
   ·rw [if_pos c2] at H
    have c2b0 : decide (x7_1 < (a0.size : Int)) = true := decide_eq_true c2
    clear c2
    by_cases c3 : 0 ≤ x7_1
    ·rw [if_pos c3] at H
     have c3b0 : decide (0 ≤ x7_1) = true := decide_eq_true c3
     clear c3
     by_cases c4 : x7_1 < (a0.size : Int)
     ·rw [if_pos c4] at H
      have c4b0 : decide (x7_1 < (a0.size : Int)) = true := decide_eq_true c4
      clear c4
      have H' := Aside0.mk H
      clear H
      have p5 : 0 ≤ (x7_1 : Int) := of_decide_eq_true (by first | (with_reducible assumption) | assumption)
      have q5 : x7_1 < (a0.size : Int) := of_decide_eq_true (by first | (with_reducible assumption) | assumption)
      have hx5 := bt_at a0 x7_1
      replace p5 := eq_true p5
      replace q5 := eq_true q5
      go_wp2
      go_roundg k1
      case measure => have := HK1.out; omega
      case rel => exact ⟨(IntKind.u64.wrap ((Go.bits .xor .u64 x3_1 (IntKind.u64.wrap (bt a0 x7_1))) * 1099511628211)), (wrap64 (x7_1 + 1)), (by first | rfl | (simp; done) | (simp [*]; done)), (by first | rfl | (simp; done) | (simp [*]; done)), H', ⟨by have := HK1.out; omega⟩, by repeat (first | exact Drawn0.refl _ | apply Drawn0.step)⟩
     ·rw [if_neg c4] at H
      exact absurd H (by simp)
    ·rw [if_neg c3] at H
     exact absurd H (by simp)
   ·rw [if_neg c2] at H
    have c2b0 : decide (x7_1 < (a0.size : Int)) = false := decide_eq_false c2
    clear c2
    obtain rfl := Option.some.inj H
    go_wp2
    go_ret
    exact ⟨by first | rfl | (simp; done) | (simp [*]; done), by repeat (first | exact Drawn0.refl _ | apply Drawn0.step)⟩
/-! ### spec_l2Get: function 168 -/
def spec_l2Get.l0 : Nat → ByteArray → Int → Int → Int → Int → Option (Int)
 | 0, _, _, _, _, _ => none
 | k + 1, x0, x1, x2, x7, x8 => if x8 < x2 then (if 0 ≤ (wrap64 (x1 + x8)) then (if (wrap64 (x1 + x8)) < (x0.size : Int) then (spec_l2Get.l0 k x0 x1 x2 (wrap64 ((wrap64 (x7 * 256)) + (wrap64 (bt x0 (wrap64 (x1 + x8)))))) (wrap64 (x8 + 1))) else (none)) else (none)) else (some x7)
def spec_l2Get.f (k : Nat) (a0 : ByteArray) (a1 : Int) (a2 : Int) : Option (Int) := spec_l2Get.l0 k a0 a1 a2 0 0
set_option maxHeartbeats 8000000 in
set_option maxRecDepth 100000 in
theorem spec_l2Get.calls (k : Nat) (a0 : ByteArray) (a1 : Int) (a2 : Int) (r : Int) (w : World) (h : spec_l2Get.f k a0 a1 a2 = some r) :
  Calls Tryz.prog 168 #[.string a0, .int .i64 a1, .int .i64 a2] w fun e w' => e = .returned (.int .i64 r) ∧ Drawn0 w w' := by
 have H : (spec_l2Get.l0 k a0 a1 a2 0 0) = some r := h
 clear h
 have H' := Aside0.mk H
 clear H
 go_enter Tryz.func168, Tryz.ntmps168
 go_wp2
 go_loopg [7, 8] k (fun kq v7 v8 w' => ∃ (x7_1 : Int) (x8_1 : Int), v7 = .int .i64 x7_1 ∧ v8 = .int .i64 x8_1 ∧ Aside0 (spec_l2Get.l0 kq a0 a1 a2 x7_1 x8_1 = some r) ∧ Aside0 (kq ≤ k) ∧ Drawn0 w w')
 case atStart => exact ⟨(0), (0), (by rfl), (by rfl), H', ⟨Nat.le_refl _⟩, by repeat (exact Drawn0.refl _)⟩
 case round =>
  clear H'
  obtain ⟨x7_1, x8_1, rfl, rfl, HA, HK1, ⟨m1, rfl⟩⟩ := hrel
  cases gk with
  | zero => exact absurd HA.out (by simp [spec_l2Get.l0])
  | succ k1 =>
   have H := HA.out
   clear HA
   simp only [spec_l2Get.l0] at H
   by_cases c4 : x8_1 < a2
   ·rw [if_pos c4] at H
    have c4b0 : decide (x8_1 < a2) = true := decide_eq_true c4
    clear c4
    obtain ⟨ji5, hji5⟩ : ∃ j_ : Int, (wrap64 (a1 + x8_1)) = j_ := ⟨_, rfl⟩
    replace H : (if 0 ≤ (ji5) then (if (ji5) < (a0.size : Int) then (spec_l2Get.l0 k1 a0 a1 a2 (wrap64 ((wrap64 (x7_1 * 256)) + (wrap64 (bt a0 (ji5))))) (wrap64 (x8_1 + 1))) else (none)) else (none)) = some r := by (rw [hji5] at H; exact H)
    have hji5w : (IntKind.i64.wrap (a1 + x8_1)) = ji5 := (i64_w _).trans hji5
    by_cases c6 : 0 ≤ (ji5)
    ·rw [if_pos c6] at H
     have c6b0 : decide (0 ≤ (ji5)) = true := decide_eq_true c6
     clear c6
     by_cases c7 : (ji5) < (a0.size : Int)
     ·rw [if_pos c7] at H
      have c7b0 : decide ((ji5) < (a0.size : Int)) = true := decide_eq_true c7
      clear c7
      have H' := Aside0.mk H
      clear H
      have p8 : 0 ≤ ((ji5) : Int) := of_decide_eq_true (by (with_reducible assumption))
      have q8 : (ji5) < (a0.size : Int) := of_decide_eq_true (by (with_reducible assumption))
      have hx8 := bt_at a0 (ji5)
      replace p8 := eq_true p8
      replace q8 := eq_true q8
      go_wp2
      go_roundg k1
      case measure => have := HK1.out; omega
      case rel => exact ⟨(wrap64 ((wrap64 (x7_1 * 256)) + (wrap64 (bt a0 (ji5))))), (wrap64 (x8_1 + 1)), (by rfl), (by rfl), H', ⟨by have := HK1.out; omega⟩, by repeat (first | exact Drawn0.refl _ | apply Drawn0.step)⟩
     ·rw [if_neg c7] at H
      exact absurd H (by simp)
    ·rw [if_neg c6] at H
     exact absurd H (by simp)
   ·rw [if_neg c4] at H
    have c4b0 : decide (x8_1 < a2) = false := decide_eq_false c4
    clear c4
    obtain rfl := Option.some.inj H
    go_wp2
    go_ret
    exact ⟨by rfl, by repeat (first | exact Drawn0.refl _ | apply Drawn0.step)⟩
end Go.Proofs.YtikbfjnbhogihaaGreatDoor.M
/- num: the lowest 1, 2, 4 or 8 bytes of a whole number, high byte first. -/
namespace Go.Proofs.YtikbfjnbhogihaaGreatDoor.M
open Go.RowKit Go.Proofs.YtikbfjnbhogihaaGreatDoorW.PrintWords Go.Proofs.YtikbfjnbhogihaaGreatDoorW.PrintLast Go.Proofs.YtikbfjnbhogihaaGreatDoorW.PrintMore
set_option linter.unusedVariables false
set_option linter.unusedSimpArgs false
namespace Num
def byte8 (N : Int) (p : Nat) : Int := (N / 256 ^ (7 - p)) % 256
def arr8 (N : Int) (j : Nat) : Array Value := ((List.range 8).map fun p => Value.int .u8 (if 8 - j ≤ p then byte8 N p else 0)).toArray
theorem arr8_old (N : Int) (j : Nat) (h : j < 8) : (arr8 N j)[7 - j]? = some (.int .u8 0) := by
 rw [arr8, List.getElem?_toArray, List.getElem?_map, List.getElem?_range (by omega)]
 simp; omega
theorem arr8_set (N : Int) (j : Nat) (h : j < 8) : (arr8 N j).setIfInBounds (7 - j) (.int .u8 (N / 256 ^ j % 256)) = arr8 N (j + 1) := by
 have : j = 0 ∨ j = 1 ∨ j = 2 ∨ j = 3 ∨ j = 4 ∨ j = 5 ∨ j = 6 ∨ j = 7 := by omega
 rcases this with rfl | rfl | rfl | rfl | rfl | rfl | rfl | rfl <;> rfl
theorem arr8_div (N : Int) (j : Nat) : N / 256 ^ j / 256 = N / 256 ^ (j + 1) := by
 rw [Int.pow_succ, Int.ediv_ediv_of_nonneg]
 exact Int.pow_nonneg (by decide)
def nums8 (m : Nat) (N : Int) : List Int := (List.range m).map fun p => byte8 N (8 - m + p)
def bytes (m : Nat) (N : Int) : ByteArray := strOfNums (nums8 m N)
theorem conv (w : World) (N : Int) (m : Nat) (hm : m ≤ 8) : (convert 53 9 (.slice (some ⟨w.heap.size, 8 - m, none⟩) m m)).run Tryz.prog (w.alloc (.cells (arr8 N 8) 236)) = .ok (.string (bytes m N)) (w.alloc (.cells (arr8 N 8) 236)) := by
 refine run_convert_bytes_arg _ 53 5 Tryz.underlying53 Tryz.underlying5 w.heap.size (8 - m) m m (nums8 m N) (by simp [nums8]) (fun i hi => ?_) 9 Tryz.underlying9
 rw [World.cell?_alloc_mark]
 simp only [arr8, nums8]
 rw [List.getElem?_toArray, List.getElem?_map, List.getElem?_range (by omega)]
 simp [List.getD, List.getElem?_map, List.getElem?_range hi]
end Num
def impl_num.f (a0 : Int) (a1 : Int) : Option (ByteArray) := if a0 = 1 then some (Num.bytes 1 a1) else if a0 = 2 then some (Num.bytes 2 a1) else if a0 = 4 then some (Num.bytes 4 a1) else if a0 = 8 then some (Num.bytes 8 a1) else none
open Num in
set_option maxHeartbeats 1000000 in
set_option maxRecDepth 100000 in
theorem impl_num.calls (a0 : Int) (a1 : Int) (r : ByteArray) (w : World) (h : impl_num.f a0 a1 = some r) :
  Calls Tryz.prog 160 #[.int .i64 a0, .int .i64 a1] w fun e w' => e = .returned (.string r) ∧ Below w.heap.size w w' := by
 have hc : ∃ m : Nat, (m = 1 ∨ m = 2 ∨ m = 4 ∨ m = 8) ∧ a0 = (m : Int) ∧ r = Num.bytes m a1 := by
  unfold impl_num.f at h
  split at h
  ·rename_i e; exact ⟨1, by omega, e, (Option.some.inj h).symm⟩
  split at h
  ·rename_i e; exact ⟨2, by omega, e, (Option.some.inj h).symm⟩
  split at h
  ·rename_i e; exact ⟨4, by omega, e, (Option.some.inj h).symm⟩
  split at h
  ·rename_i e; exact ⟨8, by omega, e, (Option.some.inj h).symm⟩
  ·cases h
 clear h
 obtain ⟨m, hm, rfl, rfl⟩ := hc
 have hconv := conv w a1 m (by omega)
 have hb : Below w.heap.size w (w.alloc (.cells (arr8 a1 8) 236)) := (Below.refl _ _).alloc (Nat.le_refl _) _
 have HB := Aside0.mk hb
 clear hb
 rcases hm with rfl | rfl | rfl | rfl
 all_goals
  simp only [Nat.reduceSub] at hconv
  go_enter Tryz.func160, Tryz.ntmps160
  go_wp2
  go_loopw [1, 6] (fun n i wr => ∃ j : Nat, j ≤ 8 ∧ i = .int .i64 (7 - j) ∧ n = .int .i64 (a1 / 256 ^ j) ∧ wr = w.alloc (.cells (arr8 a1 j) 236)) (fun _ i _ => (intOf i + 1).toNat)
  case atStart => exact ⟨0, by omega, by simp, by simp, by simp [arr8, List.range, List.range.loop]⟩
  case round =>
   obtain ⟨j, hj, rfl, rfl, rfl⟩ := hrel
   obtain rfl | hj8 : j = 8 ∨ j < 8 := by omega
   ·go_wp2
    go_ret
    exact ⟨rfl, HB.out⟩
   ·have hg : (0 : Int) ≤ 7 - (j : Int) := by omega
    have ho := arr8_old a1 j hj8
    go_wp2
    refine ⟨⟨j + 1, by omega, ?_, ?_, ?_⟩, ?_⟩
    ·congr 1; omega
    ·rw [arr8_div]
    ·rw [arr8_set a1 j hj8]
    ·simp [intOf]; omega
end Go.Proofs.YtikbfjnbhogihaaGreatDoor.M
namespace Go.Proofs.YtikbfjnbhogihaaGreatDoor.M
open Go.RowKit Go.Proofs.YtikbfjnbhogihaaGreatDoorW.PrintWords Go.Proofs.YtikbfjnbhogihaaGreatDoorW.PrintLast Go.Proofs.YtikbfjnbhogihaaGreatDoorW.PrintMore
attribute [local go_sem] max2_int min2_int max_two min_two max_three min_three max_four min_four
set_option linter.unusedVariables false
set_option linter.unusedSimpArgs false
/-! ### impl_Config_shard: function 69 -/
def impl_Config_shard.f (k : Nat) (a0_0 : Int) (a0_1 : Int) (a0_2 : Int) (a0_3 : Int) (a0_4 : Int) (a0_5 : Int) (a1 : ByteArray) : Option (Int) := if a0_4 = 0 then ((impl_Hash64.f k a1).bind fun t453 => (if (IntKind.u64.wrap (a0_3)) = 0 then (none) else (some (wrap64 (Int.tmod (IntKind.u64.wrap (t453)) (IntKind.u64.wrap (a0_3))))))) else (if a0_4 = 2 then (if a0_3 = 0 then (none) else (some ((a1.size : Int) % a0_3))) else (some 0))
set_option maxHeartbeats 8000000 in
set_option maxRecDepth 100000 in
theorem impl_Config_shard.calls (k : Nat) (a0_0 : Int) (a0_1 : Int) (a0_2 : Int) (a0_3 : Int) (a0_4 : Int) (a0_5 : Int) (a1 : ByteArray) (r : Int) (w : World) (h : impl_Config_shard.f k a0_0 a0_1 a0_2 a0_3 a0_4 a0_5 a1 = some r) :
  Calls Tryz.prog 69 #[.agg #[.int .i64 a0_0, .int .i64 a0_1, .int .i64 a0_2, .int .i64 a0_3, .int .i64 a0_4, .int .i64 a0_5], .string a1] w fun e w' => e = .returned (.int .i64 r) ∧ Below w.heap.size w w' := by
 have HB := Aside0.mk (Below.refl w.heap.size w)
 have H : (if a0_4 = 0 then ((impl_Hash64.f k a1).bind fun t453 => (if (IntKind.u64.wrap (a0_3)) = 0 then (none) else (some (wrap64 (Int.tmod (IntKind.u64.wrap (t453)) (IntKind.u64.wrap (a0_3))))))) else (if a0_4 = 2 then (if a0_3 = 0 then (none) else (some ((a1.size : Int) % a0_3))) else (some 0))) = some r := h
 clear h
 by_cases c3 : a0_4 = 0
 ·rw [if_pos c3] at H
  have c3b0 : (a0_4 == 0) = true := beq_iff_eq.mpr c3
  clear c3
  replace H := Option.bind_eq_some_iff.mp H
  obtain ⟨t453, A40, H⟩ := H
  replace H : (if (IntKind.u64.wrap (a0_3)) = 0 then (none) else (some (wrap64 (Int.tmod (IntKind.u64.wrap (t453)) (IntKind.u64.wrap (a0_3)))))) = some r := H
  have A4 := Aside0.mk A40
  clear A40
  by_cases c5 : (IntKind.u64.wrap (a0_3)) = 0
  ·rw [if_pos c5] at H
   exact absurd H (by simp)
  ·rw [if_neg c5] at H
   obtain rfl := Option.some.inj H
   go_enter Tryz.func69, Tryz.ntmps69
   go_wp2_with (((with_reducible refine gate_dst (N := 2) rfl ?_); refine box_event ?hg (N := 2) ?hd (cs := #[.int .i64 a0_0, .int .i64 a0_1, .int .i64 a0_2, .int .i64 a0_3, .int .i64 a0_4, .int .i64 a0_5]) (t := 29) ?hr ?_; (case hd => rfl); (case hg => rfl); (case hr => (go_simp; done)); intro gb452 hg w6 hbox hb; have n0_ := Aside0.mk (below_step (by repeat ((with_reducible exact HB.out))) hb); have n1_ := Aside0.mk (hbox); clear HB; have HB := n0_; have BK452 := n1_; clear n0_ n1_; clear hb hbox hg; have hcz7_3 : w6.cell? ⟨gb452, 3, none⟩ = some (.int .i64 a0_3) := (blk_cell BK452.out 3).trans rfl; have hcz7_4 : w6.cell? ⟨gb452, 4, none⟩ = some (.int .i64 a0_4) := (blk_cell BK452.out 4).trans rfl))
   repeat (go_quiet ((go_at_call 115; (with_reducible refine (impl_Hash64.calls k a1 t453 _ A4.out).mono ?_); rintro e w' ⟨rfl, ⟨nd, rfl⟩⟩; (try exact ⟨rfl, _, World.drewN_drewN _ _ _⟩))); try go_wp2_with (first | ((with_reducible refine gate_dst (N := 2) rfl ?_); refine box_event ?hg (N := 2) ?hd (cs := #[.int .i64 a0_0, .int .i64 a0_1, .int .i64 a0_2, .int .i64 a0_3, .int .i64 a0_4, .int .i64 a0_5]) (t := 29) ?hr ?_; (case hd => rfl); (case hg => rfl); (case hr => first | (go_simp; done) | (go_simp; rfl)); intro gb452 hg w6 hbox hb; have n0_ := Aside0.mk (below_step (by repeat (first | (with_reducible first | exact HB.out | apply below_alloc | apply pw_below_drewN | apply below_drew1) | exact HB.out)) hb); have n1_ := Aside0.mk (hbox); have n2_ := Aside0.mk ((by rw [hg]; exact (below_size (by repeat (first | (with_reducible first | exact HB.out | apply below_alloc | apply pw_below_drewN | apply below_drew1) | exact HB.out))) : w.heap.size ≤ gb452)); have n3_ := Aside0.mk ((by rw [hg]; exact (below_size (by repeat (first | (with_reducible first | exact HB.out | apply below_alloc | apply pw_below_drewN | apply below_drew1) | exact HB.out))) : w.heap.size ≤ gb452)); clear HB; have HB := n0_; have BK452 := n1_; have GW452 := n2_; have GE452 := n3_; clear n0_ n1_ n2_ n3_; clear hb hbox hg; have hcz7_0 : w6.cell? ⟨gb452, 0, none⟩ = some (.int .i64 a0_0) := (blk_cell BK452.out 0).trans rfl; have hcz7_1 : w6.cell? ⟨gb452, 1, none⟩ = some (.int .i64 a0_1) := (blk_cell BK452.out 1).trans rfl; have hcz7_2 : w6.cell? ⟨gb452, 2, none⟩ = some (.int .i64 a0_2) := (blk_cell BK452.out 2).trans rfl; have hcz7_3 : w6.cell? ⟨gb452, 3, none⟩ = some (.int .i64 a0_3) := (blk_cell BK452.out 3).trans rfl; have hcz7_4 : w6.cell? ⟨gb452, 4, none⟩ = some (.int .i64 a0_4) := (blk_cell BK452.out 4).trans rfl; have hcz7_5 : w6.cell? ⟨gb452, 5, none⟩ = some (.int .i64 a0_5) := (blk_cell BK452.out 5).trans rfl; have hfz7_0 := blk_frozen BK452.out 0; have hfz7_1 := blk_frozen BK452.out 1; have hfz7_2 := blk_frozen BK452.out 2; have hfz7_3 := blk_frozen BK452.out 3; have hfz7_4 := blk_frozen BK452.out 4; have hfz7_5 := blk_frozen BK452.out 5) | (go_at_call 115; (with_reducible refine (impl_Hash64.calls k a1 t453 _ A4.out).mono ?_); rintro e w' ⟨rfl, ⟨nd, rfl⟩⟩)))
   go_ret
   exact ⟨by rfl, by repeat ((with_reducible first | exact HB.out | apply pw_below_drewN))⟩
 ·rw [if_neg c3] at H
  have c3b0 : (a0_4 == 0) = false := beq_eq_false_iff_ne.mpr c3
  by_cases c8 : a0_4 = 2
  ·rw [if_pos c8] at H
   have c8b0 : (a0_4 == 2) = true := beq_iff_eq.mpr c8
   clear c8
   by_cases c9 : a0_3 = 0
   ·rw [if_pos c9] at H
    exact absurd H (by simp)
   ·rw [if_neg c9] at H
    obtain rfl := Option.some.inj H
    go_enter Tryz.func69, Tryz.ntmps69
    go_wp2_with (((with_reducible refine gate_dst (N := 2) rfl ?_); refine box_event ?hg (N := 2) ?hd (cs := #[.int .i64 a0_0, .int .i64 a0_1, .int .i64 a0_2, .int .i64 a0_3, .int .i64 a0_4, .int .i64 a0_5]) (t := 29) ?hr ?_; (case hd => rfl); (case hg => rfl); (case hr => (go_simp; done)); intro gb452 hg w10 hbox hb; have n0_ := Aside0.mk (below_step (by repeat ((with_reducible exact HB.out))) hb); have n1_ := Aside0.mk (hbox); clear HB; have HB := n0_; have BK452 := n1_; clear n0_ n1_; clear hb hbox hg; have hcz11_3 : w10.cell? ⟨gb452, 3, none⟩ = some (.int .i64 a0_3) := (blk_cell BK452.out 3).trans rfl; have hcz11_4 : w10.cell? ⟨gb452, 4, none⟩ = some (.int .i64 a0_4) := (blk_cell BK452.out 4).trans rfl))
    repeat (go_quiet (first | ((with_reducible refine gate_dst (N := 2) rfl ?_); refine box_event ?hg (N := 2) ?hd (cs := #[.int .i64 a0_0, .int .i64 a0_1, .int .i64 a0_2, .int .i64 a0_3, .int .i64 a0_4, .int .i64 a0_5]) (t := 29) ?hr ?_; (case hd => rfl); (case hg => rfl); (case hr => first | (go_simp; done) | (go_simp; rfl)); intro gb452 hg w10 hbox hb; have n0_ := Aside0.mk (below_step (by repeat (first | (with_reducible first | exact HB.out | apply below_alloc | apply pw_below_drewN | apply below_drew1) | exact HB.out)) hb); have n1_ := Aside0.mk (hbox); have n2_ := Aside0.mk ((by rw [hg]; exact (below_size (by repeat (first | (with_reducible first | exact HB.out | apply below_alloc | apply pw_below_drewN | apply below_drew1) | exact HB.out))) : w.heap.size ≤ gb452)); have n3_ := Aside0.mk ((by rw [hg]; exact (below_size (by repeat (first | (with_reducible first | exact HB.out | apply below_alloc | apply pw_below_drewN | apply below_drew1) | exact HB.out))) : w.heap.size ≤ gb452)); clear HB; have HB := n0_; have BK452 := n1_; have GW452 := n2_; have GE452 := n3_; clear n0_ n1_ n2_ n3_; clear hb hbox hg; have hcz11_0 : w10.cell? ⟨gb452, 0, none⟩ = some (.int .i64 a0_0) := (blk_cell BK452.out 0).trans rfl; have hcz11_1 : w10.cell? ⟨gb452, 1, none⟩ = some (.int .i64 a0_1) := (blk_cell BK452.out 1).trans rfl; have hcz11_2 : w10.cell? ⟨gb452, 2, none⟩ = some (.int .i64 a0_2) := (blk_cell BK452.out 2).trans rfl; have hcz11_3 : w10.cell? ⟨gb452, 3, none⟩ = some (.int .i64 a0_3) := (blk_cell BK452.out 3).trans rfl; have hcz11_4 : w10.cell? ⟨gb452, 4, none⟩ = some (.int .i64 a0_4) := (blk_cell BK452.out 4).trans rfl; have hcz11_5 : w10.cell? ⟨gb452, 5, none⟩ = some (.int .i64 a0_5) := (blk_cell BK452.out 5).trans rfl; have hfz11_0 := blk_frozen BK452.out 0; have hfz11_1 := blk_frozen BK452.out 1; have hfz11_2 := blk_frozen BK452.out 2; have hfz11_3 := blk_frozen BK452.out 3; have hfz11_4 := blk_frozen BK452.out 4; have hfz11_5 := blk_frozen BK452.out 5)))
    go_ret
    exact ⟨by rfl, by repeat ((with_reducible exact HB.out))⟩
  ·rw [if_neg c8] at H
   have c8b0 : (a0_4 == 2) = false := beq_eq_false_iff_ne.mpr c8
   obtain rfl := Option.some.inj H
   go_enter Tryz.func69, Tryz.ntmps69
   go_wp2_with (((with_reducible refine gate_dst (N := 2) rfl ?_); refine box_event ?hg (N := 2) ?hd (cs := #[.int .i64 a0_0, .int .i64 a0_1, .int .i64 a0_2, .int .i64 a0_3, .int .i64 a0_4, .int .i64 a0_5]) (t := 29) ?hr ?_; (case hd => rfl); (case hg => rfl); (case hr => (go_simp; done)); intro gb452 hg w12 hbox hb; have n0_ := Aside0.mk (below_step (by repeat ((with_reducible exact HB.out))) hb); have n1_ := Aside0.mk (hbox); clear HB; have HB := n0_; have BK452 := n1_; clear n0_ n1_; clear hb hbox hg; have hcz13_4 : w12.cell? ⟨gb452, 4, none⟩ = some (.int .i64 a0_4) := (blk_cell BK452.out 4).trans rfl))
   repeat (go_quiet (first | ((with_reducible refine gate_dst (N := 2) rfl ?_); refine box_event ?hg (N := 2) ?hd (cs := #[.int .i64 a0_0, .int .i64 a0_1, .int .i64 a0_2, .int .i64 a0_3, .int .i64 a0_4, .int .i64 a0_5]) (t := 29) ?hr ?_; (case hd => rfl); (case hg => rfl); (case hr => first | (go_simp; done) | (go_simp; rfl)); intro gb452 hg w12 hbox hb; have n0_ := Aside0.mk (below_step (by repeat (first | (with_reducible first | exact HB.out | apply below_alloc | apply pw_below_drewN | apply below_drew1) | exact HB.out)) hb); have n1_ := Aside0.mk (hbox); have n2_ := Aside0.mk ((by rw [hg]; exact (below_size (by repeat (first | (with_reducible first | exact HB.out | apply below_alloc | apply pw_below_drewN | apply below_drew1) | exact HB.out))) : w.heap.size ≤ gb452)); have n3_ := Aside0.mk ((by rw [hg]; exact (below_size (by repeat (first | (with_reducible first | exact HB.out | apply below_alloc | apply pw_below_drewN | apply below_drew1) | exact HB.out))) : w.heap.size ≤ gb452)); clear HB; have HB := n0_; have BK452 := n1_; have GW452 := n2_; have GE452 := n3_; clear n0_ n1_ n2_ n3_; clear hb hbox hg; have hcz13_0 : w12.cell? ⟨gb452, 0, none⟩ = some (.int .i64 a0_0) := (blk_cell BK452.out 0).trans rfl; have hcz13_1 : w12.cell? ⟨gb452, 1, none⟩ = some (.int .i64 a0_1) := (blk_cell BK452.out 1).trans rfl; have hcz13_2 : w12.cell? ⟨gb452, 2, none⟩ = some (.int .i64 a0_2) := (blk_cell BK452.out 2).trans rfl; have hcz13_3 : w12.cell? ⟨gb452, 3, none⟩ = some (.int .i64 a0_3) := (blk_cell BK452.out 3).trans rfl; have hcz13_4 : w12.cell? ⟨gb452, 4, none⟩ = some (.int .i64 a0_4) := (blk_cell BK452.out 4).trans rfl; have hcz13_5 : w12.cell? ⟨gb452, 5, none⟩ = some (.int .i64 a0_5) := (blk_cell BK452.out 5).trans rfl; have hfz13_0 := blk_frozen BK452.out 0; have hfz13_1 := blk_frozen BK452.out 1; have hfz13_2 := blk_frozen BK452.out 2; have hfz13_3 := blk_frozen BK452.out 3; have hfz13_4 := blk_frozen BK452.out 4; have hfz13_5 := blk_frozen BK452.out 5)))
   go_ret
   exact ⟨by rfl, by repeat ((with_reducible exact HB.out))⟩
end Go.Proofs.YtikbfjnbhogihaaGreatDoor.M
/- The reference's l2Num gives the lowest bytes of a number, as the program's num does. -/
namespace Go.Proofs.YtikbfjnbhogihaaGreatDoor.NumPlain
open Go.Proofs.YtikbfjnbhogihaaGreatDoor.M Go.Proofs.YtikbfjnbhogihaaGreatDoor.M.Num Go.Proofs.YtikbfjnbhogihaaGreatDoorW.PrintWords Go.Proofs.YtikbfjnbhogihaaGreatDoorW.PrintLast Go.RowKit
theorem l1_loop (v : Int) (xs : List Int) (i : Nat) (hi : i < 8) (r : ByteArray) (d : Nat) : ∀ j, j + d = i →
  (∃ k, spec_l2Num.l1 k v xs i (v / 256 ^ i) i = some r) → ∃ k, spec_l2Num.l1 k v xs i (v / 256 ^ j) j = some r := by
 induction d with
 | zero =>
  intro j hj h
  obtain rfl : j = i := by omega
  exact h
 | succ d ih =>
  intro j hj h
  obtain ⟨k, hk⟩ := ih (j + 1) (by omega) h
  refine ⟨k + 1, ?_⟩
  simp only [spec_l2Num.l1]
  have e2 : wrap64 ((j : Int) + 1) = ((j + 1 : Nat) : Int) := by unfold wrap64; omega
  rw [if_pos (by omega), arr8_div, e2]
  exact hk
def first (m : Nat) (v : Int) (n : Nat) : List Int := (List.range n).map fun p => byte8 v (8 - m + p)
theorem l0_loop (v : Int) (m : Nat) (hm : m ≤ 8) (d : Nat) : ∀ n, n + d = m →
  ∃ k, spec_l2Num.l0 k v (first m v n) ((m : Int) - 1 - n) = some (Num.bytes m v) := by
 induction d with
 | zero =>
  intro n hn
  obtain rfl : n = m := by omega
  refine ⟨1, ?_⟩
  simp only [spec_l2Num.l0]
  rw [if_neg (by omega)]
  rfl
 | succ d ih =>
  intro n hn
  obtain ⟨k, hk⟩ := ih (n + 1) (by omega)
  obtain ⟨k2, hk2⟩ := l1_loop v (first m v n) (m - 1 - n) (by omega) (Num.bytes m v) (m - 1 - n) 0 (by omega) ⟨k + 1, by
   simp only [spec_l2Num.l1]
   have e1 : wrap64 (((m - 1 - n : Nat) : Int) - 1) = (m : Int) - 1 - ((n + 1 : Nat) : Int) := by unfold wrap64; omega
   have e2 : first m v n ++ [v / 256 ^ (m - 1 - n) % 256] = first m v (n + 1) := by
    unfold first
    rw [List.range_succ, List.map_append]
    simp only [List.map_cons, List.map_nil, byte8]
    rw [show 7 - (8 - m + n) = m - 1 - n by omega]
   rw [if_neg (by omega), if_pos (by unfold first; rw [List.length_map, List.length_range]; omega), e1, e2]
   exact hk⟩
  refine ⟨k2 + 1, ?_⟩
  simp only [spec_l2Num.l0]
  rw [if_pos (by omega)]
  rw [show (m : Int) - 1 - (n : Int) = ((m - 1 - n : Nat) : Int) by omega]
  simpa using hk2
theorem spec_num (v : Int) (m : Nat) (hm : m ≤ 8) : Ev (fun k => spec_l2Num.f k m v) (Num.bytes m v) := by
 obtain ⟨k, hk⟩ := l0_loop v m hm m 0 (by omega)
 refine Ev.of (spec_l2Num.mono _ _) (k := k) ?_
 unfold spec_l2Num.f
 have e : wrap64 ((m : Int) - 1) = (m : Int) - 1 - ((0 : Nat) : Int) := by unfold wrap64; omega
 rw [e]
 exact hk
theorem bytes_size (m : Nat) (v : Int) : (Num.bytes m v).size = m := by
 unfold Num.bytes
 rw [strOfNums_size]
 simp [nums8]
end Go.Proofs.YtikbfjnbhogihaaGreatDoor.NumPlain
namespace Go.Proofs.YtikbfjnbhogihaaGreatDoor.M
open Go.RowKit Go.Proofs.YtikbfjnbhogihaaGreatDoorW.PrintWords Go.Proofs.YtikbfjnbhogihaaGreatDoorW.PrintLast Go.Proofs.YtikbfjnbhogihaaGreatDoorW.PrintMore
attribute [local go_sem] max2_int min2_int max_two min_two max_three min_three max_four min_four
set_option linter.unusedVariables false
set_option linter.unusedSimpArgs false
/-! ### spec_l2S8: function 95 -/
def spec_l2S8.f (k : Nat) (a0 : ByteArray) : Option (ByteArray) := (spec_l2Num.f k 1 (a0.size : Int)).bind fun t137 => (if t137.size + a0.size ≤ 9223372036854775807 then (some (t137 ++ a0)) else (none))
set_option maxHeartbeats 8000000 in
set_option maxRecDepth 100000 in
theorem spec_l2S8.calls (k : Nat) (a0 : ByteArray) (r : ByteArray) (w : World) (h : spec_l2S8.f k a0 = some r) :
  Calls Tryz.prog 95 #[.string a0] w fun e w' => e = .returned (.string r) ∧ Below w.heap.size w w' := by
 have HB := Aside0.mk (Below.refl w.heap.size w)
 have H : ((spec_l2Num.f k 1 (a0.size : Int)).bind fun t137 => (if t137.size + a0.size ≤ 9223372036854775807 then (some (t137 ++ a0)) else (none))) = some r := h
 clear h
 replace H := Option.bind_eq_some_iff.mp H
 obtain ⟨t137, A20, H⟩ := H
 replace H : (if t137.size + a0.size ≤ 9223372036854775807 then (some (t137 ++ a0)) else (none)) = some r := H
 have A2 := Aside0.mk A20
 clear A20
 by_cases c3 : t137.size + a0.size ≤ 9223372036854775807
 ·rw [if_pos c3] at H
  have c3b0 := eq_true c3
  have c3b1 : decide (t137.size + a0.size ≤ 9223372036854775807) = true := decide_eq_true c3
  try have c3b2 : (9223372036854775807 < t137.size + a0.size) = False := eq_false (Nat.not_lt.2 c3)
  obtain rfl := Option.some.inj H
  go_enter Tryz.func95, Tryz.ntmps95
  go_wp2_with (first | ((with_reducible refine gate_callee (f := 94) rfl ?_); refine goesL_ (some 5) rfl rfl Tryz.func94 (by kernel_rfl) rfl #[.int .i64 1, .int .i64 (a0.size : Int)] rfl (by (try simp only [List.map_toArray, List.map_cons, List.map_nil]); first | done | rfl | (simp only [List.length_drop, List.length_take]; rfl)) ?_; (with_reducible refine (spec_l2Num.calls k 1 (a0.size : Int) t137 _ A2.out).mono ?_); rintro e w4 ⟨rfl, hb⟩; refine ⟨_, rfl, ?_⟩; have n0_ := Aside0.mk (below_step (by repeat (first | (with_reducible first | exact HB.out | apply below_alloc | apply pw_below_drewN | apply below_drew1) | exact HB.out)) hb); clear HB; have HB := n0_; clear n0_; (try clear hb); (try clear hb2); (try clear hk); (try clear hi)))
  go_ret
  exact ⟨by first | rfl | (simp [errW_none, errW_some] <;> rfl) | (simp [*, errW_none, errW_some] <;> rfl), by repeat (first | (with_reducible first | exact HB.out | apply below_alloc | apply pw_below_drewN | apply below_drew1) | exact HB.out)⟩
 ·rw [if_neg c3] at H
  exact absurd H (by simp)
/-! ### spec_l2S16: function 96 -/
def spec_l2S16.f (k : Nat) (a0 : ByteArray) : Option (ByteArray) := (spec_l2Num.f k 2 (a0.size : Int)).bind fun t138 => (if t138.size + a0.size ≤ 9223372036854775807 then (some (t138 ++ a0)) else (none))
set_option maxHeartbeats 8000000 in
set_option maxRecDepth 100000 in
theorem spec_l2S16.calls (k : Nat) (a0 : ByteArray) (r : ByteArray) (w : World) (h : spec_l2S16.f k a0 = some r) :
  Calls Tryz.prog 96 #[.string a0] w fun e w' => e = .returned (.string r) ∧ Below w.heap.size w w' := by
 have HB := Aside0.mk (Below.refl w.heap.size w)
 have H : ((spec_l2Num.f k 2 (a0.size : Int)).bind fun t138 => (if t138.size + a0.size ≤ 9223372036854775807 then (some (t138 ++ a0)) else (none))) = some r := h
 clear h
 replace H := Option.bind_eq_some_iff.mp H
 obtain ⟨t138, A20, H⟩ := H
 replace H : (if t138.size + a0.size ≤ 9223372036854775807 then (some (t138 ++ a0)) else (none)) = some r := H
 have A2 := Aside0.mk A20
 clear A20
 by_cases c3 : t138.size + a0.size ≤ 9223372036854775807
 ·rw [if_pos c3] at H
  have c3b0 := eq_true c3
  have c3b1 : decide (t138.size + a0.size ≤ 9223372036854775807) = true := decide_eq_true c3
  try have c3b2 : (9223372036854775807 < t138.size + a0.size) = False := eq_false (Nat.not_lt.2 c3)
  obtain rfl := Option.some.inj H
  go_enter Tryz.func96, Tryz.ntmps96
  go_wp2_with (first | ((with_reducible refine gate_callee (f := 94) rfl ?_); refine goesL_ (some 5) rfl rfl Tryz.func94 (by kernel_rfl) rfl #[.int .i64 2, .int .i64 (a0.size : Int)] rfl (by (try simp only [List.map_toArray, List.map_cons, List.map_nil]); first | done | rfl | (simp only [List.length_drop, List.length_take]; rfl)) ?_; (with_reducible refine (spec_l2Num.calls k 2 (a0.size : Int) t138 _ A2.out).mono ?_); rintro e w4 ⟨rfl, hb⟩; refine ⟨_, rfl, ?_⟩; have n0_ := Aside0.mk (below_step (by repeat (first | (with_reducible first | exact HB.out | apply below_alloc | apply pw_below_drewN | apply below_drew1) | exact HB.out)) hb); clear HB; have HB := n0_; clear n0_; (try clear hb); (try clear hb2); (try clear hk); (try clear hi)))
  go_ret
  exact ⟨by first | rfl | (simp [errW_none, errW_some] <;> rfl) | (simp [*, errW_none, errW_some] <;> rfl), by repeat (first | (with_reducible first | exact HB.out | apply below_alloc | apply pw_below_drewN | apply below_drew1) | exact HB.out)⟩
 ·rw [if_neg c3] at H
  exact absurd H (by simp)
/-! ### laws_szSeries: function 167 -/
def laws_szSeries.f (a0_0 : ByteArray) (a0_1 : Int) (a1 : Int) : Option (Int) := if (wrap64 (a1 - (a0_0.size : Int))) < 0 then (some (-1)) else (some (wrap64 (a1 - (a0_0.size : Int))))
set_option maxHeartbeats 8000000 in
set_option maxRecDepth 100000 in
theorem laws_szSeries.calls (a0_0 : ByteArray) (a0_1 : Int) (a1 : Int) (r : Int) (w : World) (h : laws_szSeries.f a0_0 a0_1 a1 = some r) :
  Calls Tryz.prog 167 #[.agg #[.string a0_0, .int .i64 a0_1], .int .i64 a1] w fun e w' => e = .returned (.int .i64 r) ∧ Below w.heap.size w w' := by
 have HB := Aside0.mk (Below.refl w.heap.size w)
 have H : (if (wrap64 (a1 - (a0_0.size : Int))) < 0 then (some (-1)) else (some (wrap64 (a1 - (a0_0.size : Int))))) = some r := h
 clear h
 by_cases c3 : (wrap64 (a1 - (a0_0.size : Int))) < 0
 ·rw [if_pos c3] at H
  have c3b0 : decide ((wrap64 (a1 - (a0_0.size : Int))) < 0) = true := decide_eq_true c3
  clear c3
  obtain rfl := Option.some.inj H
  go_enter Tryz.func167, Tryz.ntmps167
  go_wp2_with (((with_reducible refine gate_dst (N := 2) rfl ?_); refine box_event ?hg (N := 2) ?hd (cs := #[.string a0_0, .int .i64 a0_1]) (t := 225) ?hr ?_; (case hd => rfl); (case hg => rfl); (case hr => (go_simp; done)); intro gb104 hg w4 hbox hb; have n0_ := Aside0.mk (below_step (by repeat ((with_reducible exact HB.out))) hb); have n1_ := Aside0.mk (hbox); clear HB; have HB := n0_; have BK104 := n1_; clear n0_ n1_; clear hb hbox hg; have hcz5_0 : w4.cell? ⟨gb104, 0, none⟩ = some (.string a0_0) := (blk_cell BK104.out 0).trans rfl))
  go_ret
  exact ⟨by rfl, by repeat ((with_reducible exact HB.out))⟩
 ·rw [if_neg c3] at H
  have c3b0 : decide ((wrap64 (a1 - (a0_0.size : Int))) < 0) = false := decide_eq_false c3
  clear c3
  obtain rfl := Option.some.inj H
  go_enter Tryz.func167, Tryz.ntmps167
  go_wp2_with (((with_reducible refine gate_dst (N := 2) rfl ?_); refine box_event ?hg (N := 2) ?hd (cs := #[.string a0_0, .int .i64 a0_1]) (t := 225) ?hr ?_; (case hd => rfl); (case hg => rfl); (case hr => (go_simp; done)); intro gb104 hg w6 hbox hb; have n0_ := Aside0.mk (below_step (by repeat ((with_reducible exact HB.out))) hb); have n1_ := Aside0.mk (hbox); clear HB; have HB := n0_; have BK104 := n1_; clear n0_ n1_; clear hb hbox hg; have hcz7_0 : w6.cell? ⟨gb104, 0, none⟩ = some (.string a0_0) := (blk_cell BK104.out 0).trans rfl))
  go_ret
  exact ⟨by rfl, by repeat ((with_reducible exact HB.out))⟩
end Go.Proofs.YtikbfjnbhogihaaGreatDoor.M
