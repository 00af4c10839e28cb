import Derived.Test.YtikbfjnbhogihaaGreatDoorM0
import Derived.Test.YtikbfjnbhogihaaGreatDoorF51
import Derived.Test.YtikbfjnbhogihaaGreatDoorF157
import Derived.Test.YtikbfjnbhogihaaGreatDoorKp
import Derived.Test.YtikbfjnbhogihaaGreatDoorXSrcNum
import Derived.Test.YtikbfjnbhogihaaGreatDoorCan
import Derived.Test.YtikbfjnbhogihaaGreatDoorMkSS
namespace Go.Proofs.YtikbfjnbhogihaaGreatDoor.M
open Go.RowKit Go.Proofs.YtikbfjnbhogihaaGreatDoorW.PrintWords Go.Proofs.YtikbfjnbhogihaaGreatDoorW.PrintLast Go.Proofs.YtikbfjnbhogihaaGreatDoorW.PrintMore
attribute [local go_sem] max2_int min2_int max_two min_two max_three min_three max_four min_four
set_option linter.unusedVariables false
set_option linter.unusedSimpArgs false
attribute [local go_sem high] eqA141
/-! ### spec_l3Same: function 93 -/
def spec_l3Same.l0 : Nat → List (S141) → List (S141) → Int → Int → Option (Bool)
 | 0, _, _, _, _ => none
 | k + 1, x0, x1, x12, x13 => if x13 < x12 then (if 0 ≤ x13 then (if x13 < (x0.length : Int) then (if x13 < (x1.length : Int) then (if (!((((rd_T141 x0 x13).f0).toList) == (((rd_T141 x1 x13).f0).toList)) || (!((((rd_T141 x0 x13).f1).toList) == (((rd_T141 x1 x13).f1).toList)))) = true then (some false) else (spec_l3Same.l0 k x0 x1 x12 (wrap64 (x13 + 1)))) else (none)) else (none)) else (none)) else (some true)
def spec_l3Same.f (k : Nat) (l0 : List (S141)) (l1 : List (S141)) : Option (Bool) := if (l0.length : Int) = (l1.length : Int) then (spec_l3Same.l0 k l0 l1 (l0.length : Int) 0) else (some false)
set_option maxHeartbeats 8000000 in
set_option maxRecDepth 100000 in
theorem spec_l3Same.calls (k : Nat) (A0 : Option Addr) (c0 : Nat) (l0 : List (S141)) (A1 : Option Addr) (c1 : Nat) (l1 : List (S141)) (r : Bool) (w : World) (hr0 : Kd.C k141 w A0 l0.length l0) (hc0 : l0.length ≤ c0) (hr1 : Kd.C k141 w A1 l1.length l1) (hc1 : l1.length ≤ c1) (h : spec_l3Same.f k l0 l1 = some r) :
  Calls Tryz.prog 93 #[.slice A0 l0.length c0, .slice A1 l1.length c1] w fun e w' => e = .returned (.bool r) ∧ Drawn0 w w' := by
 have hu141 := Tryz.underlying141
 have HR0 := Aside0.mk hr0
 have HC0 := Aside0.mk hc0
 clear hr0 hc0
 have HR1 := Aside0.mk hr1
 have HC1 := Aside0.mk hc1
 clear hr1 hc1
 have H : (if (l0.length : Int) = (l1.length : Int) then (spec_l3Same.l0 k l0 l1 (l0.length : Int) 0) else (some false)) = some r := h
 clear h
 by_cases c3 : (l0.length : Int) = (l1.length : Int)
 ·rw [if_pos c3] at H
  have c3b0 : ((l0.length : Int) == (l1.length : Int)) = true := beq_iff_eq.mpr c3
  have c3b1 : ((l0.length : Int) != (l1.length : Int)) = false := bne_eq_false_iff_eq.mpr c3
  have c3b2 : (l0.length == l1.length) = true := by first | simpa using c3 | (simp at c3 ⊢; omega)
  clear c3
  have H' := Aside0.mk H
  clear H
  go_enter Tryz.func93, Tryz.ntmps93
  go_wp2
  repeat (go_quiet (fail); try go_wp2)
  go_loopg [13] k (fun kq v13 w' => ∃ (x13_1 : Int), v13 = .int .i64 x13_1 ∧ Aside0 (spec_l3Same.l0 kq l0 l1 (l0.length : Int) x13_1 = some r) ∧ Aside0 (kq ≤ k) ∧ Drawn0 w w')
  case atStart => exact ⟨(0), (by first | rfl | (simp; done) | (simp [*]; done)), H', ⟨Nat.le_refl _⟩, by repeat (first | exact Drawn0.refl _ | apply Drawn0.step)⟩
  case round =>
   clear H'
   try clear c1
   try clear p2
   try clear c3
   try clear c3b0
   try clear c3b1
   try clear c3b2
   obtain ⟨x13_1, rfl, HA, HK1, ⟨m1, rfl⟩⟩ := hrel
   cases gk with
   | zero => exact absurd HA.out (by simp [spec_l3Same.l0])
   | succ k1 =>
    have H := HA.out
    clear HA
    simp only [spec_l3Same.l0] at H
    by_cases c4 : x13_1 < (l0.length : Int)
    ·rw [if_pos c4] at H
     have c4b0 : decide (x13_1 < (l0.length : Int)) = true := decide_eq_true c4
     clear c4
     by_cases c5 : 0 ≤ x13_1
     ·rw [if_pos c5] at H
      have c5b0 : decide (0 ≤ x13_1) = true := decide_eq_true c5
      clear c5
      by_cases c6 : x13_1 < (l0.length : Int)
      ·rw [if_pos c6] at H
       have c6b0 : decide (x13_1 < (l0.length : Int)) = true := decide_eq_true c6
       clear c6
       by_cases c7 : x13_1 < (l1.length : Int)
       ·rw [if_pos c7] at H
        have c7b0 : decide (x13_1 < (l1.length : Int)) = true := decide_eq_true c7
        clear c7
        by_cases c8 : (!((((rd_T141 l0 x13_1).f0).toList) == (((rd_T141 l1 x13_1).f0).toList)) || (!((((rd_T141 l0 x13_1).f1).toList) == (((rd_T141 l1 x13_1).f1).toList)))) = true
        ·rw [if_pos c8] at H
         have c8b0 : (!((((rd_T141 l0 x13_1).f0).toList) == (((rd_T141 l1 x13_1).f0).toList)) || (!((((rd_T141 l0 x13_1).f1).toList) == (((rd_T141 l1 x13_1).f1).toList)))) = true := c8
         clear c8
         obtain rfl := Option.some.inj H
         have p129 : 0 ≤ (x13_1 : Int) := of_decide_eq_true (by first | (with_reducible assumption) | assumption)
         have q129 : x13_1 < (l0.length : Int) := of_decide_eq_true (by first | (with_reducible assumption) | assumption)
         obtain ⟨ad129, e129, hx129_0, hx129_1⟩ := at_T141 HR0.out x13_1 p129 q129
         cases e129
         replace p129 := eq_true p129
         replace q129 := eq_true q129
         have p130 : 0 ≤ (x13_1 : Int) := of_decide_eq_true (by first | (with_reducible assumption) | assumption)
         have q130 : x13_1 < (l1.length : Int) := of_decide_eq_true (by first | (with_reducible assumption) | assumption)
         obtain ⟨ad130, e130, hx130_0, hx130_1⟩ := at_T141 HR1.out x13_1 p130 q130
         cases e130
         replace p130 := eq_true p130
         replace q130 := eq_true q130
         go_wp2
         repeat (go_quiet (fail); try go_wp2)
         go_ret
         exact ⟨by first | rfl | (simp; done) | (simp [*]; done), by repeat (first | exact Drawn0.refl _ | apply Drawn0.step)⟩
        ·rw [if_neg c8] at H
         have c8b0 : (!((((rd_T141 l0 x13_1).f0).toList) == (((rd_T141 l1 x13_1).f0).toList)) || (!((((rd_T141 l0 x13_1).f1).toList) == (((rd_T141 l1 x13_1).f1).toList)))) = false := by simpa using c8
         clear c8
         have H' := Aside0.mk H
         clear H
         have p129 : 0 ≤ (x13_1 : Int) := of_decide_eq_true (by first | (with_reducible assumption) | assumption)
         have q129 : x13_1 < (l0.length : Int) := of_decide_eq_true (by first | (with_reducible assumption) | assumption)
         obtain ⟨ad129, e129, hx129_0, hx129_1⟩ := at_T141 HR0.out x13_1 p129 q129
         cases e129
         replace p129 := eq_true p129
         replace q129 := eq_true q129
         have p130 : 0 ≤ (x13_1 : Int) := of_decide_eq_true (by first | (with_reducible assumption) | assumption)
         have q130 : x13_1 < (l1.length : Int) := of_decide_eq_true (by first | (with_reducible assumption) | assumption)
         obtain ⟨ad130, e130, hx130_0, hx130_1⟩ := at_T141 HR1.out x13_1 p130 q130
         cases e130
         replace p130 := eq_true p130
         replace q130 := eq_true q130
         go_wp2
         repeat (go_quiet (fail); try go_wp2)
         go_roundg k1
         case measure => have := HK1.out; omega
         case rel => exact ⟨(wrap64 (x13_1 + 1)), (by first | rfl | (simp; done) | (simp [*]; done)), H', ⟨by have := HK1.out; omega⟩, by repeat (first | exact Drawn0.refl _ | apply Drawn0.step)⟩
       ·rw [if_neg c7] at H
        exact absurd H (by simp)
      ·rw [if_neg c6] at H
       exact absurd H (by simp)
     ·rw [if_neg c5] at H
      exact absurd H (by simp)
    ·rw [if_neg c4] at H
     have c4b0 : decide (x13_1 < (l0.length : Int)) = false := decide_eq_false c4
     clear c4
     obtain rfl := Option.some.inj H
     go_wp2
     repeat (go_quiet (fail); try go_wp2)
     go_ret
     exact ⟨by first | rfl | (simp; done) | (simp [*]; done), by repeat (first | exact Drawn0.refl _ | apply Drawn0.step)⟩
 ·rw [if_neg c3] at H
  have c3b0 : ((l0.length : Int) == (l1.length : Int)) = false := beq_eq_false_iff_ne.mpr c3
  have c3b1 : ((l0.length : Int) != (l1.length : Int)) = true := bne_iff_ne.mpr c3
  have c3b2 : (l0.length == l1.length) = false := by first | simpa using c3 | (simp at c3 ⊢; omega)
  obtain rfl := Option.some.inj H
  go_enter Tryz.func93, Tryz.ntmps93
  go_wp2
  repeat (go_quiet (fail); try go_wp2)
  go_ret
  exact ⟨by first | rfl | (simp; done) | (simp [*]; done), by repeat (first | exact Drawn0.refl _ | apply Drawn0.step)⟩
end Go.Proofs.YtikbfjnbhogihaaGreatDoor.M
namespace Go.Proofs.YtikbfjnbhogihaaGreatDoor.M
open Go.RowKit Go.Proofs.YtikbfjnbhogihaaGreatDoorW.PrintWords Go.Proofs.YtikbfjnbhogihaaGreatDoorW.PrintLast Go.Proofs.YtikbfjnbhogihaaGreatDoorW.PrintMore
attribute [local go_sem] max2_int min2_int max_two min_two max_three min_three max_four min_four
set_option linter.unusedVariables false
set_option linter.unusedSimpArgs false
/-! ### spec_l3Part: function 148 -/
def spec_l3Part.j0 : Nat → ByteArray → Int → Int → Bool → Option (ByteArray × Int)
 | 0, _, _, _, _ => none
 | k + 1, x0, x1, x2, x18 => if x18 = true then (some ((⟨#[]⟩ : ByteArray), (-1))) else ((spec_l2Get.f k x0 x1 x2).bind fun t150 => (if (wrap64 ((wrap64 (x1 + x2)) + t150)) > (x0.size : Int) then (some ((⟨#[]⟩ : ByteArray), (-1))) else (if 0 ≤ (wrap64 (x1 + x2)) then (if (wrap64 (x1 + x2)) ≤ (wrap64 ((wrap64 (x1 + x2)) + t150)) then (if (wrap64 ((wrap64 (x1 + x2)) + t150)) ≤ (x0.size : Int) then (some (x0.extract ((wrap64 (x1 + x2)) : Int).toNat ((wrap64 ((wrap64 (x1 + x2)) + t150)) : Int).toNat, wrap64 ((wrap64 (x1 + x2)) + t150))) else (none)) else (none)) else (none))))
def spec_l3Part.f (k : Nat) (a0 : ByteArray) (a1 : Int) (a2 : Int) : Option (ByteArray × Int) := if a1 < 0 then (spec_l3Part.j0 k a0 a1 a2 true) else (spec_l3Part.j0 k a0 a1 a2 (decide ((wrap64 (a1 + a2)) > (a0.size : Int))))
set_option maxHeartbeats 8000000 in
set_option maxRecDepth 100000 in
theorem spec_l3Part.calls (k : Nat) (a0 : ByteArray) (a1 : Int) (a2 : Int) (r1 : ByteArray) (r2 : Int) (w : World) (h : spec_l3Part.f k a0 a1 a2 = some (r1, r2)) :
  Calls Tryz.prog 148 #[.string a0, .int .i64 a1, .int .i64 a2] w fun e w' => e = .returned (.tuple #[.string r1, .int .i64 r2]) ∧ Drawn0 w w' := by
 have H : (if a1 < 0 then (spec_l3Part.j0 k a0 a1 a2 true) else (spec_l3Part.j0 k a0 a1 a2 (decide ((wrap64 (a1 + a2)) > (a0.size : Int))))) = some (r1, r2) := h
 clear h
 have HC4 := Aside0.mk H
 clear H
 go_enter Tryz.func148, Tryz.ntmps148
 go_upto_region 1 with (fail)
 go_cut [18] (fun v18 wc => ∃ (kq : Nat) (x18_3 : Bool), v18 = .bool x18_3 ∧ Aside0 (spec_l3Part.j0 kq a0 a1 a2 x18_3 = some (r1, r2)) ∧ Aside0 (kq ≤ k) ∧ Drawn0 w wc)
 case first =>
  have H := HC4.out
  clear HC4
  by_cases c5 : a1 < 0
  ·rw [if_pos c5] at H
   have c5b0 : decide (a1 < 0) = true := decide_eq_true c5
   clear c5
   (first | rw [c5b0] | (simp only [i64_w, i32_w]; rw [c5b0]) | skip)
   have H' := Aside0.mk H
   clear H
   go_wp2
   go_meet
   case rel => exact ⟨_, (true), (by first | rfl | (simp; done) | (simp [*]; done)), H', ⟨by first | omega | exact Nat.le_refl _⟩, by repeat (first | exact Drawn0.refl _ | apply Drawn0.step)⟩
  ·rw [if_neg c5] at H
   have c5b0 : decide (a1 < 0) = false := decide_eq_false c5
   clear c5
   (first | rw [c5b0] | (simp only [i64_w, i32_w]; rw [c5b0]) | skip)
   have H' := Aside0.mk H
   clear H
   go_wp2
   go_meet
   case rel => exact ⟨_, (decide ((wrap64 (a1 + a2)) > (a0.size : Int))), (by first | rfl | (simp; done) | (simp [*]; done)), H', ⟨by first | omega | exact Nat.le_refl _⟩, by repeat (first | exact Drawn0.refl _ | apply Drawn0.step)⟩
 case rest =>
  clear HC4
  try clear c1
  try clear p2
  try clear c5
  try clear c5b0
  obtain ⟨kq, x18_3, rfl, HA, HJ3, ⟨mc3, rfl⟩⟩ := hcut
  cases kq with
  | zero => exact absurd HA.out (by simp [spec_l3Part.j0])
  | succ kj3 =>
   have H := HA.out
   clear HA
   simp only [spec_l3Part.j0] at H
   by_cases c6 : x18_3 = true
   ·subst c6
    have H1 : (some ((⟨#[]⟩ : ByteArray), (-1))) = some (r1, r2) := by rw [if_pos rfl] at H; exact H
    clear H
    have H := H1
    clear H1
    simp only [Option.some.injEq, Prod.mk.injEq] at H
    obtain ⟨rfl, rfl⟩ := H
    go_wp2
    go_ret2
    exact ⟨by first | rfl | (simp; done) | (simp [*]; done), by repeat (first | exact Drawn0.refl _ | apply Drawn0.step)⟩
   ·replace c6 := Bool.eq_false_iff.mpr c6
    subst c6
    have H1 : ((spec_l2Get.f kj3 a0 a1 a2).bind fun t150 => (if (wrap64 ((wrap64 (a1 + a2)) + t150)) > (a0.size : Int) then (some ((⟨#[]⟩ : ByteArray), (-1))) else (if 0 ≤ (wrap64 (a1 + a2)) then (if (wrap64 (a1 + a2)) ≤ (wrap64 ((wrap64 (a1 + a2)) + t150)) then (if (wrap64 ((wrap64 (a1 + a2)) + t150)) ≤ (a0.size : Int) then (some (a0.extract ((wrap64 (a1 + a2)) : Int).toNat ((wrap64 ((wrap64 (a1 + a2)) + t150)) : Int).toNat, wrap64 ((wrap64 (a1 + a2)) + t150))) else (none)) else (none)) else (none)))) = some (r1, r2) := by rw [if_neg (show ¬ (false = true) by decide)] at H; exact H
    clear H
    have H := H1
    clear H1
    replace H := Option.bind_eq_some_iff.mp H
    obtain ⟨t150, A70, H⟩ := H
    replace H : (if (wrap64 ((wrap64 (a1 + a2)) + t150)) > (a0.size : Int) then (some ((⟨#[]⟩ : ByteArray), (-1))) else (if 0 ≤ (wrap64 (a1 + a2)) then (if (wrap64 (a1 + a2)) ≤ (wrap64 ((wrap64 (a1 + a2)) + t150)) then (if (wrap64 ((wrap64 (a1 + a2)) + t150)) ≤ (a0.size : Int) then (some (a0.extract ((wrap64 (a1 + a2)) : Int).toNat ((wrap64 ((wrap64 (a1 + a2)) + t150)) : Int).toNat, wrap64 ((wrap64 (a1 + a2)) + t150))) else (none)) else (none)) else (none))) = some (r1, r2) := H
    have A7 := Aside0.mk A70
    clear A70
    by_cases c8 : (wrap64 ((wrap64 (a1 + a2)) + t150)) > (a0.size : Int)
    ·rw [if_pos c8] at H
     have c8b0 : decide ((a0.size : Int) < (wrap64 ((wrap64 (a1 + a2)) + t150))) = true := decide_eq_true c8
     clear c8
     simp only [Option.some.injEq, Prod.mk.injEq] at H
     obtain ⟨rfl, rfl⟩ := H
     go_wp2_with (first | ((with_reducible refine gate_callee (f := 168) rfl ?_); refine goesL_ (some 22) rfl rfl Tryz.func168 (by kernel_rfl) rfl #[.string a0, .int .i64 a1, .int .i64 a2] rfl (by (try simp only [List.map_toArray, List.map_cons, List.map_nil]); first | done | rfl | (simp only [List.length_drop, List.length_take]; rfl)) ?_; (with_reducible refine (spec_l2Get.calls kj3 a0 a1 a2 t150 _ A7.out).mono ?_); rintro e w' ⟨rfl, ⟨nd, rfl⟩⟩; refine ⟨_, rfl, ?_⟩))
     go_ret2
     exact ⟨by first | rfl | (simp; done) | (simp [*]; done), by repeat (first | exact Drawn0.refl _ | apply Drawn0.step)⟩
    ·rw [if_neg c8] at H
     have c8b0 : decide ((a0.size : Int) < (wrap64 ((wrap64 (a1 + a2)) + t150))) = false := decide_eq_false c8
     clear c8
     obtain ⟨ji9, hji9⟩ : ∃ j_ : Int, (wrap64 (a1 + a2)) = j_ := ⟨_, rfl⟩
     replace H : (if 0 ≤ (ji9) then (if (ji9) ≤ (wrap64 ((ji9) + t150)) then (if (wrap64 ((ji9) + t150)) ≤ (a0.size : Int) then (some (a0.extract ((ji9) : Int).toNat ((wrap64 ((ji9) + t150)) : Int).toNat, wrap64 ((ji9) + t150))) else (none)) else (none)) else (none)) = some (r1, r2) := by first | (rw [hji9] at H; exact H) | (simp only [hji9] at H ⊢; exact H)
     (try rw [hji9] at c8b0)
     (try rw [hji9] at A7)
     have hji9w : (IntKind.i64.wrap (a1 + a2)) = ji9 := (i64_w _).trans hji9
     by_cases c10 : 0 ≤ (ji9)
     ·rw [if_pos c10] at H
      have c10b0 := eq_true c10
      have c10b1 : decide (0 ≤ (ji9)) = true := decide_eq_true c10
      clear c10
      by_cases c11 : (ji9) ≤ (wrap64 ((ji9) + t150))
      ·rw [if_pos c11] at H
       have c11b0 := eq_true c11
       have c11b1 : decide ((ji9) ≤ (wrap64 ((ji9) + t150))) = true := decide_eq_true c11
       by_cases c12 : (wrap64 ((ji9) + t150)) ≤ (a0.size : Int)
       ·rw [if_pos c12] at H
        have c12b0 := eq_true c12
        have c12b1 : decide ((wrap64 ((ji9) + t150)) ≤ (a0.size : Int)) = true := decide_eq_true c12
        simp only [Option.some.injEq, Prod.mk.injEq] at H
        obtain ⟨rfl, rfl⟩ := H
        go_wp2_with (first | ((with_reducible refine gate_callee (f := 168) rfl ?_); refine goesL_ (some 22) rfl rfl Tryz.func168 (by kernel_rfl) rfl #[.string a0, .int .i64 a1, .int .i64 a2] rfl (by (try simp only [List.map_toArray, List.map_cons, List.map_nil]); first | done | rfl | (simp only [List.length_drop, List.length_take]; rfl)) ?_; (with_reducible refine (spec_l2Get.calls kj3 a0 a1 a2 t150 _ A7.out).mono ?_); rintro e w' ⟨rfl, ⟨nd, rfl⟩⟩; refine ⟨_, rfl, ?_⟩))
        go_ret2
        exact ⟨by first | rfl | (simp; done) | (simp only [← hji9] <;> (first | rfl | simp)) | (simp [*]; done), by repeat (first | exact Drawn0.refl _ | apply Drawn0.step)⟩
       ·rw [if_neg c12] at H
        exact absurd H (by simp)
      ·rw [if_neg c11] at H
       exact absurd H (by simp)
     ·rw [if_neg c10] at H
      exact absurd H (by simp)
end Go.Proofs.YtikbfjnbhogihaaGreatDoor.M
/- Numbers and texts as the two decoders read them: plain. -/
namespace Go.Proofs.YtikbfjnbhogihaaGreatDoor.DecLib
open Go.Proofs.YtikbfjnbhogihaaGreatDoor.M Go.Proofs.YtikbfjnbhogihaaGreatDoor.Loops Go.Proofs.YtikbfjnbhogihaaGreatDoor.M.Enc Go.Proofs.YtikbfjnbhogihaaGreatDoorW.PrintWords Go.Proofs.YtikbfjnbhogihaaGreatDoorW.PrintLast Go.Proofs.YtikbfjnbhogihaaGreatDoorW.PrintMore Go.RowKit
theorem or64 (v : Int) (b : Int) (h0 : 0 ≤ b) (h1 : b ≤ 255) : Go.bits .or .i64 (wrap64 (v * 256)) b = wrap64 (v * 256 + b) := by
 obtain ⟨n, rfl⟩ := Int.eq_ofNat_of_zero_le h0
 obtain ⟨x, hx⟩ : ∃ x, x = wrap64 (v * 256) % 18446744073709551616 := ⟨_, rfl⟩
 have hx2 : x % 256 = 0 := by rw [hx]; unfold wrap64; omega
 have hx3 : 0 ≤ x := by rw [hx]; exact Int.emod_nonneg _ (by decide)
 have hx4 : x < 18446744073709551616 := by rw [hx]; exact Int.emod_lt_of_pos _ (by decide)
 obtain ⟨A, hA'⟩ : ∃ A : Nat, x = (A : Int) := Int.eq_ofNat_of_zero_le hx3
 have hA : A = (wrap64 (v * 256) % 18446744073709551616).toNat := by rw [← hx, hA']; rfl
 have hm : A % 256 = 0 := by omega
 have hlt : A < 18446744073709551616 := by omega
 have h2 : n % 2 ^ 64 = n := Nat.mod_eq_of_lt (Nat.lt_of_le_of_lt (show n ≤ 255 by omega) (by decide))
 have h3 : A ||| n = A + n := by
  have := Nat.shiftLeft_add_eq_or_of_lt (i := 8) (b := n) (by omega) (A / 256)
  rw [Nat.shiftLeft_eq, show A / 256 * 2 ^ 8 = A from Nat.div_mul_cancel (Nat.dvd_of_mod_eq_zero hm)] at this
  exact this.symm
 have h4 : ((wrap64 (v * 256)) % ((2 ^ 64 : Nat) : Int)).toNat = A := by rw [hA]; rfl
 simp only [Go.bits, BitVec.ofInt_natCast, BitVec.toNat_or, BitVec.toNat_ofNat, BitVec.toNat_ofInt, show IntKind.i64.bits = 64 from rfl, h2, h4, h3]
 have h5 : (A : Int) = wrap64 (v * 256) % 18446744073709551616 := by rw [hA]; omega
 clear h4 hA h3
 unfold IntKind.wrap
 simp [IntKind.bits, IntKind.signed]
 unfold wrap64 at *
 omega
def nv (s : ByteArray) (i : Nat) : Nat → Int
 | 0 => 0
 | k + 1 => nv s i k * 256 + bt s ((i + k : Nat) : Int)
theorem nv_pos (s : ByteArray) (i k : Nat) : 0 ≤ nv s i k := by
 induction k with
 | zero => simp [nv]
 | succ k ih => have := bt_range s ((i + k : Nat) : Int); simp only [nv]; omega
theorem nv_lt1 (s : ByteArray) (i : Nat) : nv s i 1 ≤ 255 := by have := bt_range s ((i + 0 : Nat) : Int); simp only [nv]; omega
theorem nv_lt2 (s : ByteArray) (i : Nat) : nv s i 2 ≤ 65535 := by
 have h0 := bt_range s ((i + 0 : Nat) : Int)
 have h1 := bt_range s ((i + 1 : Nat) : Int)
 simp only [nv]; omega
theorem nv_le (s : ByteArray) (i k n : Nat) (hk : k ≤ n) (hn : n = 1 ∨ n = 2) : nv s i k ≤ 65535 := by
 have h0 : nv s i 0 = 0 := rfl
 have h1 := nv_lt1 s i
 have h2 := nv_lt2 s i
 rcases hn with rfl | rfl
 ·rcases (show k = 0 ∨ k = 1 by omega) with rfl | rfl <;> omega
 ·rcases (show k = 0 ∨ k = 1 ∨ k = 2 by omega) with rfl | rfl | rfl <;> omega
theorem nv_eq (s t : ByteArray) (i j : Nat) : ∀ k, (∀ q, q < k → bt s ((i + q : Nat) : Int) = bt t ((j + q : Nat) : Int)) → nv s i k = nv t j k
 | 0, _ => rfl
 | k + 1, h => by
  have h1 := nv_eq s t i j k (fun q hq => h q (by omega))
  simp only [nv]
  rw [h1, h k (by omega)]
theorem wrap0 : wrap64 0 = 0 := w_id 0 (by decide) (by decide)
theorem upto_nv (t : ByteArray) : ∀ k, SrcNum.upto t k = wrap64 (nv t 0 k)
 | 0 => wrap0.symm
 | k + 1 => by
  have hb := bt_range t (k : Int)
  rw [SrcNum.upto, upto_nv t k, show wrap64 (bt t (k : Int)) = bt t (k : Int) from w_id _ (by omega) (by omega), or64 _ _ hb.1 hb.2]
  simp only [nv, Nat.zero_add]
  generalize nv t 0 k = x
  generalize bt t (k : Int) = b at hb ⊢
  unfold wrap64; omega
theorem bt_extract (s : ByteArray) (i j k : Nat) (h : i + k < j) (hj : j ≤ s.size) : bt (s.extract i j) k = bt s ((i + k : Nat) : Int) := by
 unfold bt
 rw [dif_pos (by rw [ByteArray.size_extract, Int.toNat_natCast]; omega), dif_pos (by rw [Int.toNat_natCast]; omega)]
 simp only [Int.toNat_natCast, ByteArray.getElem_extract]
/-! ### the program's reader -/
theorem text_f (r : ByteArray) (n : Int) (h : 0 ≤ n) : impl_source_text.f r n = some (r.extract 0 (min n.toNat r.size), r.extract (min n.toNat r.size) r.size) := by
 have hm : mn n (r.size : Int) = ((min n.toNat r.size : Nat) : Int) := by unfold mn; split <;> omega
 unfold impl_source_text.f
 rw [hm, if_pos (by omega), if_pos (by omega), Int.toNat_natCast]
theorem num_f (r : ByteArray) (n : Nat) (hr : r.size ≤ 9223372036854775807) : impl_source_num.f r n = some (wrap64 (nv r 0 (min n r.size)), r.extract (min n r.size) r.size) := by
 unfold impl_source_num.f
 rw [text_f r n (by omega), Int.toNat_natCast, Option.bind_some]
 have hsz : (r.extract 0 (min n r.size)).size = min n r.size := by rw [ByteArray.size_extract]; omega
 rw [hsz, if_pos (by omega), upto_nv, nv_eq (r.extract 0 (min n r.size)) r 0 0 _ (fun q hq => by
  rw [Nat.zero_add]
  exact (bt_extract r 0 (min n r.size) q (by omega) (by omega)).trans (by rw [Nat.zero_add]))]
theorem num_small (r : ByteArray) (n : Nat) (hn : n = 1 ∨ n = 2) (hr : r.size ≤ 9223372036854775807) : ∃ v : Nat, v ≤ 65535 ∧ impl_source_num.f r n = some ((v : Int), r.extract (min n r.size) r.size) := by
 have h0 := nv_pos r 0 (min n r.size)
 have h1 := nv_le r 0 (min n r.size) n (by omega) hn
 refine ⟨(nv r 0 (min n r.size)).toNat, by omega, ?_⟩
 rw [num_f r n hr, w_id _ (by omega) (by omega), Int.toNat_of_nonneg h0]
theorem s8_any (r : ByteArray) (hr : r.size ≤ 9223372036854775807) : ∃ t r' : ByteArray, t.size ≤ r.size ∧ r'.size ≤ r.size ∧ impl_source_s8.f r = some (t, r') := by
 obtain ⟨v, hv, h⟩ := num_small r 1 (.inl rfl) hr
 refine ⟨_, _, ?_, ?_, by unfold impl_source_s8.f; rw [show (1 : Int) = ((1 : Nat) : Int) from rfl, h, Option.bind_some, text_f _ _ (by omega)]; rfl⟩ <;>
 (simp only [ByteArray.size_extract]; omega)
theorem s16_any (r : ByteArray) (hr : r.size ≤ 9223372036854775807) : ∃ t r' : ByteArray, t.size ≤ r.size ∧ r'.size ≤ r.size ∧ impl_source_s16.f r = some (t, r') := by
 obtain ⟨v, hv, h⟩ := num_small r 2 (.inr rfl) hr
 refine ⟨_, _, ?_, ?_, by unfold impl_source_s16.f; rw [show (2 : Int) = ((2 : Nat) : Int) from rfl, h, Option.bind_some, text_f _ _ (by omega)]; rfl⟩ <;>
 (simp only [ByteArray.size_extract]; omega)
/-! ### the reference's reader -/
theorem get_nv (s : ByteArray) (i n : Nat) (h : i + n ≤ s.size) (hs : s.size ≤ 9223372036854775000) : ∀ m k, k + m = n → Ev (fun q => spec_l2Get.l0 q s i n (wrap64 (nv s i k)) k) (wrap64 (nv s i n)) := by
 intro m
 induction m with
 | zero =>
  intro k hk
  obtain rfl : k = n := by omega
  exact Ev.step (f := fun _ => some _) (fun q => by simp only [spec_l2Get.l0]; rw [if_neg (by omega)]) (Ev.now _)
 | succ m ih =>
  intro k hk
  refine Ev.step (fun q => ?_) (ih (k + 1) (by omega))
  have hb := bt_range s ((i + k : Nat) : Int)
  have e : wrap64 ((i : Int) + (k : Int)) = ((i + k : Nat) : Int) := by rw [w_id _ (by omega) (by omega)]; omega
  simp only [spec_l2Get.l0]
  rw [e, if_pos (by omega), if_pos (by omega), if_pos (by omega), w_succ k (by omega), show wrap64 (bt s ((i + k : Nat) : Int)) = bt s ((i + k : Nat) : Int) from w_id _ (by omega) (by omega)]
  congr 1
  simp only [nv]
  generalize nv s i k = x
  generalize bt s ((i + k : Nat) : Int) = b at hb ⊢
  unfold wrap64; omega
theorem get_f (s : ByteArray) (i n : Nat) (h : i + n ≤ s.size) (hs : s.size ≤ 9223372036854775000) : Ev (fun q => spec_l2Get.f q s i n) (wrap64 (nv s i n)) := by
 have h2 := get_nv s i n h hs n 0 (by omega)
 rw [show nv s i 0 = 0 from rfl, wrap0] at h2
 exact h2
def At (s : ByteArray) (p : Int) : Prop := p = -1 ∨ ∃ i : Nat, p = (i : Int) ∧ i ≤ s.size
theorem l3_at (s : ByteArray) (i n v : Nat) (hn : n = 1 ∨ n = 2) (hv : nv s i n = (v : Int)) (h : i + n ≤ s.size) (hs : s.size ≤ 9223372036854700000) :
  Ev (fun q => spec_l3Part.f q s i n) (if s.size < i + n + v then ((⟨#[]⟩ : ByteArray), -1) else (s.extract (i + n) (i + n + v), ((i + n + v : Nat) : Int))) := by
 have h1 := nv_le s i n n (by omega) hn
 have e : wrap64 ((i : Int) + (n : Int)) = ((i + n : Nat) : Int) := by rw [w_id _ (by omega) (by omega)]; omega
 have e2 : wrap64 (((i + n : Nat) : Int) + (v : Int)) = ((i + n + v : Nat) : Int) := by rw [w_id _ (by omega) (by omega)]; omega
 have hg := get_f s i n h (by omega)
 rw [hv, w_id (v : Int) (by omega) (by omega)] at hg
 unfold spec_l3Part.f
 rw [e]
 refine Ev.ite_neg (by omega) (Ev.step (f := fun k => (spec_l2Get.f k s i n).bind fun t297 => (if (wrap64 ((wrap64 ((i : Int) + (n : Int))) + t297)) > (s.size : Int) then (some ((⟨#[]⟩ : ByteArray), (-1))) else (if 0 ≤ (wrap64 ((i : Int) + (n : Int))) then (if (wrap64 ((i : Int) + (n : Int))) ≤ (wrap64 ((wrap64 ((i : Int) + (n : Int))) + t297)) then (if (wrap64 ((wrap64 ((i : Int) + (n : Int))) + t297)) ≤ (s.size : Int) then (some (s.extract ((wrap64 ((i : Int) + (n : Int))) : Int).toNat ((wrap64 ((wrap64 ((i : Int) + (n : Int))) + t297)) : Int).toNat, wrap64 ((wrap64 ((i : Int) + (n : Int))) + t297))) else (none)) else (none)) else (none)))) (fun k => by
  simp only [spec_l3Part.j0]
  rw [if_neg (by simp only [decide_eq_true_eq]; omega)]) (Ev.bind hg ?_))
 rw [e, e2]
 by_cases hbig : s.size < i + n + v
 ·rw [if_pos hbig]
  exact Ev.ite_pos (by omega) (Ev.now _)
 ·rw [if_neg hbig]
  refine Ev.ite_neg (by omega) (Ev.ite_pos (by omega) (Ev.ite_pos (by omega) (Ev.ite_pos (by omega) ?_)))
  rw [Int.toNat_natCast, Int.toNat_natCast]
  exact Ev.now _
theorem l3_any (s : ByteArray) (p : Int) (n : Nat) (hn : n = 1 ∨ n = 2) (hp : At s p) (hs : s.size ≤ 9223372036854700000) : ∃ t p', Ev (fun q => spec_l3Part.f q s p n) (t, p') ∧ At s p' ∧ t.size ≤ s.size := by
 have stop : ∀ (c : Bool), c = true → Ev (fun k => spec_l3Part.j0 k s p n c) ((⟨#[]⟩ : ByteArray), (-1 : Int)) := by
  rintro c rfl
  exact Ev.step (f := fun _ => some _) (fun k => by simp only [spec_l3Part.j0, if_true]) (Ev.now _)
 rcases hp with rfl | ⟨i, rfl, hi⟩
 ·refine ⟨(⟨#[]⟩ : ByteArray), -1, ?_, .inl rfl, Nat.zero_le _⟩
  unfold spec_l3Part.f
  exact Ev.ite_pos (by omega) (stop true rfl)
 ·by_cases h : i + n ≤ s.size
  ·have h0 := nv_pos s i n
   have hv : nv s i n = ((nv s i n).toNat : Int) := (Int.toNat_of_nonneg h0).symm
   have h3 := l3_at s i n _ hn hv h hs
   split at h3
   ·exact ⟨_, _, h3, .inl rfl, Nat.zero_le _⟩
   ·exact ⟨_, _, h3, .inr ⟨_, rfl, by omega⟩, by rw [ByteArray.size_extract]; omega⟩
  ·refine ⟨(⟨#[]⟩ : ByteArray), -1, ?_, .inl rfl, Nat.zero_le _⟩
   have e : wrap64 ((i : Int) + (n : Int)) = ((i + n : Nat) : Int) := by rw [w_id _ (by omega) (by omega)]; omega
   unfold spec_l3Part.f
   rw [e]
   exact Ev.ite_neg (by omega) (stop _ (by simp only [decide_eq_true_eq]; omega))
/-! ### what was written is read -/
def B (L : List UInt8) : ByteArray := ⟨L.toArray⟩
theorem B_size (L : List UInt8) : (B L).size = L.length := rfl
theorem B_list (s : ByteArray) : B s.data.toList = s := by cases s; rfl
theorem B_extract (L : List UInt8) (i j : Nat) : (B L).extract i j = B ((L.drop i).take (j - i)) := by
 apply ByteArray.ext
 apply Array.ext'
 simp [B]
theorem B_mid (P X L : List UInt8) (i j : Nat) (hi : i = P.length) (hj : j = P.length + X.length) : (B (P ++ X ++ L)).extract i j = B X := by
 rw [B_extract, hi, hj, List.append_assoc, List.drop_left, Nat.add_sub_cancel_left, List.take_left]
theorem B_bt (L : List UInt8) (i : Nat) (h : i < L.length) : bt (B L) (i : Int) = (L[i].toNat : Int) := by
 unfold bt
 rw [dif_pos (by rw [Int.toNat_natCast, B_size]; exact h)]
 rfl
def lv (X : List UInt8) : Int := X.foldl (fun a c => a * 256 + (c.toNat : Int)) 0
theorem lv_snoc (X : List UInt8) (c : UInt8) : lv (X ++ [c]) = lv X * 256 + (c.toNat : Int) := by unfold lv; rw [List.foldl_append]; rfl
theorem nv_lv (P X L : List UInt8) : nv (B (P ++ X ++ L)) P.length X.length = lv X := by
 have h : ∀ k, k ≤ X.length → nv (B (P ++ X ++ L)) P.length k = lv (X.take k) := by
  intro k
  induction k with
  | zero => intro _; rfl
  | succ k ih =>
   intro hk
   have e : (P ++ X ++ L)[P.length + k]'(by simp; omega) = X[k] := by
    rw [List.getElem_append_left (by simp; omega), List.getElem_append_right (by omega)]
    simp
   simp only [nv]
   rw [ih (by omega), B_bt _ _ (by simp; omega), e, List.take_add_one, List.getElem?_eq_getElem (by omega), Option.toList_some, lv_snoc]
 rw [h _ (Nat.le_refl _), List.take_length]
theorem lv1 (v : Int) (h0 : 0 ≤ v) (h1 : v ≤ 255) : lv (nL 1 v) = v := by
 have key : nL 1 v = [UInt8.ofNat (v / 1 % 256).toNat] := rfl
 rw [key]
 simp only [lv, List.foldl_cons, List.foldl_nil, UInt8.toNat_ofNat']
 omega
theorem lv2 (v : Int) (h0 : 0 ≤ v) (h1 : v ≤ 65535) : lv (nL 2 v) = v := by
 have key : nL 2 v = [UInt8.ofNat (v / 256 % 256).toNat, UInt8.ofNat (v / 1 % 256).toNat] := rfl
 rw [key]
 simp only [lv, List.foldl_cons, List.foldl_nil, UInt8.toNat_ofNat']
 omega
theorem num_rt (X L : List UInt8) (hX : (X ++ L).length ≤ 9223372036854775000) : impl_source_num.f (B (X ++ L)) X.length = some (wrap64 (lv X), B L) := by
 have hm : min X.length (B (X ++ L)).size = X.length := by rw [B_size, List.length_append]; omega
 rw [num_f _ _ (by rw [B_size]; omega), hm]
 have h1 : nv (B (X ++ L)) 0 X.length = lv X := nv_lv [] X L
 have h2 : (B (X ++ L)).extract X.length (B (X ++ L)).size = B L := by rw [B_extract, B_size, List.drop_left, List.take_of_length_le (by simp)]
 rw [h1, h2]
theorem num1_rt (v : Int) (L : List UInt8) (h0 : 0 ≤ v) (h1 : v ≤ 255) (hL : L.length ≤ 9223372036854700000) : impl_source_num.f (B (nL 1 v ++ L)) 1 = some (v, B L) := by
 have h := num_rt (nL 1 v) L (by rw [List.length_append, nL_length]; omega)
 rw [nL_length, lv1 v h0 h1, w_id v (by omega) (by omega)] at h
 exact h
theorem num2_rt (v : Int) (L : List UInt8) (h0 : 0 ≤ v) (h1 : v ≤ 65535) (hL : L.length ≤ 9223372036854700000) : impl_source_num.f (B (nL 2 v ++ L)) 2 = some (v, B L) := by
 have h := num_rt (nL 2 v) L (by rw [List.length_append, nL_length]; omega)
 rw [nL_length, lv2 v h0 h1, w_id v (by omega) (by omega)] at h
 exact h
theorem text_rt (X L : List UInt8) : impl_source_text.f (B (X ++ L)) (X.length : Int) = some (B X, B L) := by
 have hm : min X.length (B (X ++ L)).size = X.length := by rw [B_size, List.length_append]; omega
 rw [text_f _ _ (by omega), Int.toNat_natCast, hm]
 have h2 : (B (X ++ L)).extract X.length (B (X ++ L)).size = B L := by rw [B_extract, B_size, List.drop_left, List.take_of_length_le (by simp)]
 have h3 : (B (X ++ L)).extract 0 X.length = B X := by rw [B_extract, List.drop_zero, Nat.sub_zero, List.take_left]
 rw [h2, h3]
theorem s8_rt (t : ByteArray) (L : List UInt8) (ht : t.size ≤ 255) (hL : L.length ≤ 9223372036854600000) : impl_source_s8.f (B (s8L t ++ L)) = some (t, B L) := by
 unfold impl_source_s8.f s8L
 rw [List.append_assoc, num1_rt _ _ (by omega) (by omega) (by rw [List.length_append, len_]; omega), Option.bind_some]
 have h := text_rt t.data.toList L
 rw [len_, B_list] at h
 simp only [h, Option.bind_some]
theorem s16_rt (t : ByteArray) (L : List UInt8) (ht : t.size ≤ 65535) (hL : L.length ≤ 9223372036854600000) : impl_source_s16.f (B (s16L t ++ L)) = some (t, B L) := by
 unfold impl_source_s16.f s16L
 rw [List.append_assoc, num2_rt _ _ (by omega) (by omega) (by rw [List.length_append, len_]; omega), Option.bind_some]
 have h := text_rt t.data.toList L
 rw [len_, B_list] at h
 simp only [h, Option.bind_some]
theorem l3_rt (P L X : List UInt8) (n : Nat) (t : ByteArray) (hn : n = 1 ∨ n = 2) (hX : X.length = n) (hv : lv X = (t.size : Int)) (hs : (P ++ (X ++ t.data.toList) ++ L).length ≤ 9223372036854700000) :
  Ev (fun q => spec_l3Part.f q (B (P ++ (X ++ t.data.toList) ++ L)) P.length n) (t, ((P ++ (X ++ t.data.toList)).length : Int)) := by
 have e : P ++ (X ++ t.data.toList) ++ L = P ++ X ++ (t.data.toList ++ L) := by simp only [List.append_assoc]
 have e2 : P ++ (X ++ t.data.toList) ++ L = (P ++ X) ++ t.data.toList ++ L := by simp only [List.append_assoc]
 have hnv : nv (B (P ++ (X ++ t.data.toList) ++ L)) P.length n = (t.size : Int) := by rw [e, ← hX, nv_lv, hv]
 have hsz : (B (P ++ (X ++ t.data.toList) ++ L)).size = P.length + n + t.size + L.length := by rw [B_size]; simp only [List.length_append, len_, hX]; omega
 have h := l3_at (B (P ++ (X ++ t.data.toList) ++ L)) P.length n t.size hn hnv (by rw [hsz]; omega) (by rw [B_size]; omega)
 rw [if_neg (by rw [hsz]; omega)] at h
 refine Ev.eq h ?_
 congr 1
 ·rw [e2, B_mid (P ++ X) t.data.toList L _ _ (by rw [List.length_append, hX]) (by rw [List.length_append, hX, len_]), B_list]
 ·simp only [List.length_append, len_, hX]; omega
theorem l3_8 (P L : List UInt8) (t : ByteArray) (ht : t.size ≤ 255) (hs : (P ++ s8L t ++ L).length ≤ 9223372036854700000) : Ev (fun q => spec_l3Part.f q (B (P ++ s8L t ++ L)) P.length 1) (t, ((P ++ s8L t).length : Int)) :=
 l3_rt P L (nL 1 t.size) 1 t (.inl rfl) (nL_length ..) (lv1 _ (by omega) (by omega)) hs
theorem l3_16 (P L : List UInt8) (t : ByteArray) (ht : t.size ≤ 65535) (hs : (P ++ s16L t ++ L).length ≤ 9223372036854700000) : Ev (fun q => spec_l3Part.f q (B (P ++ s16L t ++ L)) P.length 2) (t, ((P ++ s16L t).length : Int)) :=
 l3_rt P L (nL 2 t.size) 2 t (.inr rfl) (nL_length ..) (lv2 _ (by omega) (by omega)) hs
end Go.Proofs.YtikbfjnbhogihaaGreatDoor.DecLib
