import Derived.Test.YtikbfjnbhogihaaGreatDoorM0
namespace Go.Proofs.YtikbfjnbhogihaaGreatDoor.M
open Go.RowKit Go.Proofs.YtikbfjnbhogihaaGreatDoorW.PrintWords Go.Proofs.YtikbfjnbhogihaaGreatDoorW.PrintLast Go.Proofs.YtikbfjnbhogihaaGreatDoorW.PrintMore
attribute [local go_sem] max2_int min2_int max_two min_two max_three min_three max_four min_four
set_option linter.unusedVariables false
set_option linter.unusedSimpArgs false
/-! ### impl_isName: function 176 -/
def impl_isName.l0 : Nat → ByteArray → Int → Int → Option (Bool)
 | 0, _, _, _ => none
 | k + 1, x0, x13, x14 => if x14 < x13 then (if 0 ≤ x14 then (if x14 < (x0.size : Int) then (if (bt x0 x14) ≥ 97 then (if (bt x0 x14) ≤ 122 then (impl_isName.l0 k x0 x13 (wrap64 (x14 + 1))) else (if (bt x0 x14) ≥ 65 then (if (bt x0 x14) ≤ 90 then (impl_isName.l0 k x0 x13 (wrap64 (x14 + 1))) else (if (bt x0 x14) = 95 then (impl_isName.l0 k x0 x13 (wrap64 (x14 + 1))) else (if (bt x0 x14) ≥ 48 then (if (bt x0 x14) ≤ 57 then (if x14 > 0 then (impl_isName.l0 k x0 x13 (wrap64 (x14 + 1))) else (some false)) else (some false)) else (some false)))) else (if (bt x0 x14) = 95 then (impl_isName.l0 k x0 x13 (wrap64 (x14 + 1))) else (if (bt x0 x14) ≥ 48 then (if (bt x0 x14) ≤ 57 then (if x14 > 0 then (impl_isName.l0 k x0 x13 (wrap64 (x14 + 1))) else (some false)) else (some false)) else (some false))))) else (if (bt x0 x14) ≥ 65 then (if (bt x0 x14) ≤ 90 then (impl_isName.l0 k x0 x13 (wrap64 (x14 + 1))) else (if (bt x0 x14) = 95 then (impl_isName.l0 k x0 x13 (wrap64 (x14 + 1))) else (if (bt x0 x14) ≥ 48 then (if (bt x0 x14) ≤ 57 then (if x14 > 0 then (impl_isName.l0 k x0 x13 (wrap64 (x14 + 1))) else (some false)) else (some false)) else (some false)))) else (if (bt x0 x14) = 95 then (impl_isName.l0 k x0 x13 (wrap64 (x14 + 1))) else (if (bt x0 x14) ≥ 48 then (if (bt x0 x14) ≤ 57 then (if x14 > 0 then (impl_isName.l0 k x0 x13 (wrap64 (x14 + 1))) else (some false)) else (some false)) else (some false))))) else (none)) else (none)) else (some true)
def impl_isName.f (k : Nat) (a0 : ByteArray) : Option (Bool) := if a0.toList = ([] : List UInt8) then (some false) else (if (a0.size : Int) > 64 then (some false) else (impl_isName.l0 k a0 (a0.size : Int) 0))
set_option maxHeartbeats 8000000 in
set_option maxRecDepth 100000 in
theorem impl_isName.calls (k : Nat) (a0 : ByteArray) (r : Bool) (w : World) (h : impl_isName.f k a0 = some r) :
  Calls Tryz.prog 176 #[.string a0] w fun e w' => e = .returned (.bool r) ∧ Drawn0 w w' := by
 have H : (if a0.toList = ([] : List UInt8) then (some false) else (if (a0.size : Int) > 64 then (some false) else (impl_isName.l0 k a0 (a0.size : Int) 0))) = some r := h
 clear h
 by_cases c2 : a0.toList = ([] : List UInt8)
 ·rw [if_pos c2] at H
  have c2b0 : (a0.toList == ([] : List UInt8)) = true := beq_iff_eq.mpr c2
  clear c2
  obtain rfl := Option.some.inj H
  go_enter Tryz.func176, Tryz.ntmps176
  go_wp2
  (repeat (go_step3; (try go_wp2)))
  (try rw [Exit.noGoto_ret])
  go_ret
  exact ⟨by rfl, by repeat (exact Drawn0.refl _)⟩
 ·rw [if_neg c2] at H
  have c2b0 : (a0.toList == ([] : List UInt8)) = false := beq_eq_false_iff_ne.mpr c2
  by_cases c3 : (a0.size : Int) > 64
  ·rw [if_pos c3] at H
   have c3b0 : decide (64 < (a0.size : Int)) = true := decide_eq_true c3
   clear c3
   obtain rfl := Option.some.inj H
   go_enter Tryz.func176, Tryz.ntmps176
   go_wp2
   (repeat (go_step3; (try go_wp2)))
   (try rw [Exit.noGoto_ret])
   go_ret
   exact ⟨by rfl, by repeat (exact Drawn0.refl _)⟩
  ·rw [if_neg c3] at H
   have c3b0 : decide (64 < (a0.size : Int)) = false := decide_eq_false c3
   clear c3
   have H' := Aside0.mk H
   clear H
   go_enter Tryz.func176, Tryz.ntmps176
   go_wp2
   (repeat (go_step3; (try go_wp2)))
   go_loopg [14] k (fun kq v14 w' => ∃ (x14_1 : Int), v14 = .int .i64 x14_1 ∧ Aside0 (impl_isName.l0 kq a0 (a0.size : Int) x14_1 = some r) ∧ Aside0 (kq ≤ k) ∧ Drawn0 w w')
   case atStart => exact ⟨(0), (by rfl), H', ⟨Nat.le_refl _⟩, by repeat (exact Drawn0.refl _)⟩
   case round =>
    clear H'
    try clear c2
    try clear c2b0
    try clear c3b0
    obtain ⟨x14_1, rfl, HA, HK1, ⟨m1, rfl⟩⟩ := hrel
    cases gk with
    | zero => exact absurd HA.out (by simp [impl_isName.l0])
    | succ k1 =>
     have H := HA.out
     clear HA
     simp only [impl_isName.l0] at H
     by_cases c4 : x14_1 < (a0.size : Int)
     ·rw [if_pos c4] at H
      clear c4
      by_cases c5 : 0 ≤ x14_1
      ·rw [if_pos c5] at H
       have c5b0 : decide (0 ≤ x14_1) = true := decide_eq_true c5
       clear c5
       by_cases c6 : x14_1 < (a0.size : Int)
       ·rw [if_pos c6] at H
        have c6b0 : decide (x14_1 < (a0.size : Int)) = true := decide_eq_true c6
        clear c6
        by_cases c8 : (bt a0 x14_1) ≥ 97
        ·rw [if_pos c8] at H
         have c8b0 : decide (97 ≤ (bt a0 x14_1)) = true := decide_eq_true c8
         clear c8
         by_cases c9 : (bt a0 x14_1) ≤ 122
         ·rw [if_pos c9] at H
          have c9b0 : decide ((bt a0 x14_1) ≤ 122) = true := decide_eq_true c9
          clear c9
          have H' := Aside0.mk H
          clear H
          have p7 : 0 ≤ (x14_1 : Int) := of_decide_eq_true (by (with_reducible assumption))
          have q7 : x14_1 < (a0.size : Int) := of_decide_eq_true (by (with_reducible assumption))
          have hx7 := bt_at a0 x14_1
          replace p7 := eq_true p7
          replace q7 := eq_true q7
          go_wp2
          (repeat (go_step3))
          go_roundg k1
          case measure => have := HK1.out; omega
          case rel => exact ⟨(wrap64 (x14_1 + 1)), (by rfl), H', ⟨by have := HK1.out; omega⟩, by repeat (first | exact Drawn0.refl _ | apply Drawn0.step)⟩
         ·rw [if_neg c9] at H
          have c9b0 : decide ((bt a0 x14_1) ≤ 122) = false := decide_eq_false c9
          clear c9
          by_cases c10 : (bt a0 x14_1) ≥ 65
          ·rw [if_pos c10] at H
           have c10b0 : decide (65 ≤ (bt a0 x14_1)) = true := decide_eq_true c10
           clear c10
           by_cases c11 : (bt a0 x14_1) ≤ 90
           ·rw [if_pos c11] at H
            have c11b0 : decide ((bt a0 x14_1) ≤ 90) = true := decide_eq_true c11
            clear c11
            have H' := Aside0.mk H
            clear H
            have p7 : 0 ≤ (x14_1 : Int) := of_decide_eq_true (by (with_reducible assumption))
            have q7 : x14_1 < (a0.size : Int) := of_decide_eq_true (by (with_reducible assumption))
            have hx7 := bt_at a0 x14_1
            replace p7 := eq_true p7
            replace q7 := eq_true q7
            go_wp2
            (repeat (go_step3))
            go_roundg k1
            case measure => have := HK1.out; omega
            case rel => exact ⟨(wrap64 (x14_1 + 1)), (by rfl), H', ⟨by have := HK1.out; omega⟩, by repeat (first | exact Drawn0.refl _ | apply Drawn0.step)⟩
           ·rw [if_neg c11] at H
            have c11b0 : decide ((bt a0 x14_1) ≤ 90) = false := decide_eq_false c11
            clear c11
            by_cases c12 : (bt a0 x14_1) = 95
            ·rw [if_pos c12] at H
             have c12b0 : ((bt a0 x14_1) == 95) = true := beq_iff_eq.mpr c12
             clear c12
             have H' := Aside0.mk H
             clear H
             have p7 : 0 ≤ (x14_1 : Int) := of_decide_eq_true (by (with_reducible assumption))
             have q7 : x14_1 < (a0.size : Int) := of_decide_eq_true (by (with_reducible assumption))
             have hx7 := bt_at a0 x14_1
             replace p7 := eq_true p7
             replace q7 := eq_true q7
             go_wp2
             (repeat (go_step3))
             go_roundg k1
             case measure => have := HK1.out; omega
             case rel => exact ⟨(wrap64 (x14_1 + 1)), (by rfl), H', ⟨by have := HK1.out; omega⟩, by repeat (first | exact Drawn0.refl _ | apply Drawn0.step)⟩
            ·rw [if_neg c12] at H
             have c12b0 : ((bt a0 x14_1) == 95) = false := beq_eq_false_iff_ne.mpr c12
             by_cases c13 : (bt a0 x14_1) ≥ 48
             ·rw [if_pos c13] at H
              have c13b0 : decide (48 ≤ (bt a0 x14_1)) = true := decide_eq_true c13
              clear c13
              by_cases c14 : (bt a0 x14_1) ≤ 57
              ·rw [if_pos c14] at H
               have c14b0 : decide ((bt a0 x14_1) ≤ 57) = true := decide_eq_true c14
               clear c14
               by_cases c15 : x14_1 > 0
               ·rw [if_pos c15] at H
                have c15b0 : decide (0 < x14_1) = true := decide_eq_true c15
                clear c15
                have H' := Aside0.mk H
                clear H
                have p7 : 0 ≤ (x14_1 : Int) := of_decide_eq_true (by (with_reducible assumption))
                have q7 : x14_1 < (a0.size : Int) := of_decide_eq_true (by (with_reducible assumption))
                have hx7 := bt_at a0 x14_1
                replace p7 := eq_true p7
                replace q7 := eq_true q7
                go_wp2
                (repeat (go_step3))
                go_roundg k1
                case measure => have := HK1.out; omega
                case rel => exact ⟨(wrap64 (x14_1 + 1)), (by rfl), H', ⟨by have := HK1.out; omega⟩, by repeat (first | exact Drawn0.refl _ | apply Drawn0.step)⟩
               ·rw [if_neg c15] at H
                have c15b0 : decide (0 < x14_1) = false := decide_eq_false c15
                clear c15
                obtain rfl := Option.some.inj H
                have p7 : 0 ≤ (x14_1 : Int) := of_decide_eq_true (by (with_reducible assumption))
                have q7 : x14_1 < (a0.size : Int) := of_decide_eq_true (by (with_reducible assumption))
                have hx7 := bt_at a0 x14_1
                replace p7 := eq_true p7
                replace q7 := eq_true q7
                go_wp2
                (repeat (go_step3))
                go_ret
                exact ⟨by rfl, by repeat (first | exact Drawn0.refl _ | apply Drawn0.step)⟩
              ·rw [if_neg c14] at H
               have c14b0 : decide ((bt a0 x14_1) ≤ 57) = false := decide_eq_false c14
               clear c14
               obtain rfl := Option.some.inj H
               have p7 : 0 ≤ (x14_1 : Int) := of_decide_eq_true (by (with_reducible assumption))
               have q7 : x14_1 < (a0.size : Int) := of_decide_eq_true (by (with_reducible assumption))
               have hx7 := bt_at a0 x14_1
               replace p7 := eq_true p7
               replace q7 := eq_true q7
               go_wp2
               (repeat (go_step3))
               go_ret
               exact ⟨by rfl, by repeat (first | exact Drawn0.refl _ | apply Drawn0.step)⟩
             ·rw [if_neg c13] at H
              have c13b0 : decide (48 ≤ (bt a0 x14_1)) = false := decide_eq_false c13
              clear c13
              obtain rfl := Option.some.inj H
              have p7 : 0 ≤ (x14_1 : Int) := of_decide_eq_true (by (with_reducible assumption))
              have q7 : x14_1 < (a0.size : Int) := of_decide_eq_true (by (with_reducible assumption))
              have hx7 := bt_at a0 x14_1
              replace p7 := eq_true p7
              replace q7 := eq_true q7
              go_wp2
              (repeat (go_step3))
              go_ret
              exact ⟨by rfl, by repeat (first | exact Drawn0.refl _ | apply Drawn0.step)⟩
          ·rw [if_neg c10] at H
           have c10b0 : decide (65 ≤ (bt a0 x14_1)) = false := decide_eq_false c10
           clear c10
           by_cases c16 : (bt a0 x14_1) = 95
           ·rw [if_pos c16] at H
            have c16b0 : ((bt a0 x14_1) == 95) = true := beq_iff_eq.mpr c16
            clear c16
            have H' := Aside0.mk H
            clear H
            have p7 : 0 ≤ (x14_1 : Int) := of_decide_eq_true (by (with_reducible assumption))
            have q7 : x14_1 < (a0.size : Int) := of_decide_eq_true (by (with_reducible assumption))
            have hx7 := bt_at a0 x14_1
            replace p7 := eq_true p7
            replace q7 := eq_true q7
            go_wp2
            (repeat (go_step3))
            go_roundg k1
            case measure => have := HK1.out; omega
            case rel => exact ⟨(wrap64 (x14_1 + 1)), (by rfl), H', ⟨by have := HK1.out; omega⟩, by repeat (first | exact Drawn0.refl _ | apply Drawn0.step)⟩
           ·rw [if_neg c16] at H
            have c16b0 : ((bt a0 x14_1) == 95) = false := beq_eq_false_iff_ne.mpr c16
            by_cases c17 : (bt a0 x14_1) ≥ 48
            ·rw [if_pos c17] at H
             have c17b0 : decide (48 ≤ (bt a0 x14_1)) = true := decide_eq_true c17
             clear c17
             by_cases c18 : (bt a0 x14_1) ≤ 57
             ·rw [if_pos c18] at H
              have c18b0 : decide ((bt a0 x14_1) ≤ 57) = true := decide_eq_true c18
              clear c18
              by_cases c19 : x14_1 > 0
              ·rw [if_pos c19] at H
               have c19b0 : decide (0 < x14_1) = true := decide_eq_true c19
               clear c19
               have H' := Aside0.mk H
               clear H
               have p7 : 0 ≤ (x14_1 : Int) := of_decide_eq_true (by (with_reducible assumption))
               have q7 : x14_1 < (a0.size : Int) := of_decide_eq_true (by (with_reducible assumption))
               have hx7 := bt_at a0 x14_1
               replace p7 := eq_true p7
               replace q7 := eq_true q7
               go_wp2
               (repeat (go_step3))
               go_roundg k1
               case measure => have := HK1.out; omega
               case rel => exact ⟨(wrap64 (x14_1 + 1)), (by rfl), H', ⟨by have := HK1.out; omega⟩, by repeat (first | exact Drawn0.refl _ | apply Drawn0.step)⟩
              ·rw [if_neg c19] at H
               have c19b0 : decide (0 < x14_1) = false := decide_eq_false c19
               clear c19
               obtain rfl := Option.some.inj H
               have p7 : 0 ≤ (x14_1 : Int) := of_decide_eq_true (by (with_reducible assumption))
               have q7 : x14_1 < (a0.size : Int) := of_decide_eq_true (by (with_reducible assumption))
               have hx7 := bt_at a0 x14_1
               replace p7 := eq_true p7
               replace q7 := eq_true q7
               go_wp2
               (repeat (go_step3))
               go_ret
               exact ⟨by rfl, by repeat (first | exact Drawn0.refl _ | apply Drawn0.step)⟩
             ·rw [if_neg c18] at H
              have c18b0 : decide ((bt a0 x14_1) ≤ 57) = false := decide_eq_false c18
              clear c18
              obtain rfl := Option.some.inj H
              have p7 : 0 ≤ (x14_1 : Int) := of_decide_eq_true (by (with_reducible assumption))
              have q7 : x14_1 < (a0.size : Int) := of_decide_eq_true (by (with_reducible assumption))
              have hx7 := bt_at a0 x14_1
              replace p7 := eq_true p7
              replace q7 := eq_true q7
              go_wp2
              (repeat (go_step3))
              go_ret
              exact ⟨by rfl, by repeat (first | exact Drawn0.refl _ | apply Drawn0.step)⟩
            ·rw [if_neg c17] at H
             have c17b0 : decide (48 ≤ (bt a0 x14_1)) = false := decide_eq_false c17
             clear c17
             obtain rfl := Option.some.inj H
             have p7 : 0 ≤ (x14_1 : Int) := of_decide_eq_true (by (with_reducible assumption))
             have q7 : x14_1 < (a0.size : Int) := of_decide_eq_true (by (with_reducible assumption))
             have hx7 := bt_at a0 x14_1
             replace p7 := eq_true p7
             replace q7 := eq_true q7
             go_wp2
             (repeat (go_step3))
             go_ret
             exact ⟨by rfl, by repeat (first | exact Drawn0.refl _ | apply Drawn0.step)⟩
        ·rw [if_neg c8] at H
         have c8b0 : decide (97 ≤ (bt a0 x14_1)) = false := decide_eq_false c8
         clear c8
         by_cases c20 : (bt a0 x14_1) ≥ 65
         ·rw [if_pos c20] at H
          have c20b0 : decide (65 ≤ (bt a0 x14_1)) = true := decide_eq_true c20
          clear c20
          by_cases c21 : (bt a0 x14_1) ≤ 90
          ·rw [if_pos c21] at H
           have c21b0 : decide ((bt a0 x14_1) ≤ 90) = true := decide_eq_true c21
           clear c21
           have H' := Aside0.mk H
           clear H
           have p7 : 0 ≤ (x14_1 : Int) := of_decide_eq_true (by (with_reducible assumption))
           have q7 : x14_1 < (a0.size : Int) := of_decide_eq_true (by (with_reducible assumption))
           have hx7 := bt_at a0 x14_1
           replace p7 := eq_true p7
           replace q7 := eq_true q7
           go_wp2
           (repeat (go_step3))
           go_roundg k1
           case measure => have := HK1.out; omega
           case rel => exact ⟨(wrap64 (x14_1 + 1)), (by rfl), H', ⟨by have := HK1.out; omega⟩, by repeat (first | exact Drawn0.refl _ | apply Drawn0.step)⟩
          ·rw [if_neg c21] at H
           have c21b0 : decide ((bt a0 x14_1) ≤ 90) = false := decide_eq_false c21
           clear c21
           by_cases c22 : (bt a0 x14_1) = 95
           ·rw [if_pos c22] at H
            have c22b0 : ((bt a0 x14_1) == 95) = true := beq_iff_eq.mpr c22
            clear c22
            have H' := Aside0.mk H
            clear H
            have p7 : 0 ≤ (x14_1 : Int) := of_decide_eq_true (by (with_reducible assumption))
            have q7 : x14_1 < (a0.size : Int) := of_decide_eq_true (by (with_reducible assumption))
            have hx7 := bt_at a0 x14_1
            replace p7 := eq_true p7
            replace q7 := eq_true q7
            go_wp2
            (repeat (go_step3))
            go_roundg k1
            case measure => have := HK1.out; omega
            case rel => exact ⟨(wrap64 (x14_1 + 1)), (by rfl), H', ⟨by have := HK1.out; omega⟩, by repeat (first | exact Drawn0.refl _ | apply Drawn0.step)⟩
           ·rw [if_neg c22] at H
            have c22b0 : ((bt a0 x14_1) == 95) = false := beq_eq_false_iff_ne.mpr c22
            by_cases c23 : (bt a0 x14_1) ≥ 48
            ·rw [if_pos c23] at H
             have c23b0 : decide (48 ≤ (bt a0 x14_1)) = true := decide_eq_true c23
             clear c23
             by_cases c24 : (bt a0 x14_1) ≤ 57
             ·rw [if_pos c24] at H
              have c24b0 : decide ((bt a0 x14_1) ≤ 57) = true := decide_eq_true c24
              clear c24
              by_cases c25 : x14_1 > 0
              ·rw [if_pos c25] at H
               have c25b0 : decide (0 < x14_1) = true := decide_eq_true c25
               clear c25
               have H' := Aside0.mk H
               clear H
               have p7 : 0 ≤ (x14_1 : Int) := of_decide_eq_true (by (with_reducible assumption))
               have q7 : x14_1 < (a0.size : Int) := of_decide_eq_true (by (with_reducible assumption))
               have hx7 := bt_at a0 x14_1
               replace p7 := eq_true p7
               replace q7 := eq_true q7
               go_wp2
               (repeat (go_step3))
               go_roundg k1
               case measure => have := HK1.out; omega
               case rel => exact ⟨(wrap64 (x14_1 + 1)), (by rfl), H', ⟨by have := HK1.out; omega⟩, by repeat (first | exact Drawn0.refl _ | apply Drawn0.step)⟩
              ·rw [if_neg c25] at H
               have c25b0 : decide (0 < x14_1) = false := decide_eq_false c25
               clear c25
               obtain rfl := Option.some.inj H
               have p7 : 0 ≤ (x14_1 : Int) := of_decide_eq_true (by (with_reducible assumption))
               have q7 : x14_1 < (a0.size : Int) := of_decide_eq_true (by (with_reducible assumption))
               have hx7 := bt_at a0 x14_1
               replace p7 := eq_true p7
               replace q7 := eq_true q7
               go_wp2
               (repeat (go_step3))
               go_ret
               exact ⟨by rfl, by repeat (first | exact Drawn0.refl _ | apply Drawn0.step)⟩
             ·rw [if_neg c24] at H
              have c24b0 : decide ((bt a0 x14_1) ≤ 57) = false := decide_eq_false c24
              clear c24
              obtain rfl := Option.some.inj H
              have p7 : 0 ≤ (x14_1 : Int) := of_decide_eq_true (by (with_reducible assumption))
              have q7 : x14_1 < (a0.size : Int) := of_decide_eq_true (by (with_reducible assumption))
              have hx7 := bt_at a0 x14_1
              replace p7 := eq_true p7
              replace q7 := eq_true q7
              go_wp2
              (repeat (go_step3))
              go_ret
              exact ⟨by rfl, by repeat (first | exact Drawn0.refl _ | apply Drawn0.step)⟩
            ·rw [if_neg c23] at H
             have c23b0 : decide (48 ≤ (bt a0 x14_1)) = false := decide_eq_false c23
             clear c23
             obtain rfl := Option.some.inj H
             have p7 : 0 ≤ (x14_1 : Int) := of_decide_eq_true (by (with_reducible assumption))
             have q7 : x14_1 < (a0.size : Int) := of_decide_eq_true (by (with_reducible assumption))
             have hx7 := bt_at a0 x14_1
             replace p7 := eq_true p7
             replace q7 := eq_true q7
             go_wp2
             (repeat (go_step3))
             go_ret
             exact ⟨by rfl, by repeat (first | exact Drawn0.refl _ | apply Drawn0.step)⟩
         ·rw [if_neg c20] at H
          have c20b0 : decide (65 ≤ (bt a0 x14_1)) = false := decide_eq_false c20
          clear c20
          by_cases c26 : (bt a0 x14_1) = 95
          ·rw [if_pos c26] at H
           have c26b0 : ((bt a0 x14_1) == 95) = true := beq_iff_eq.mpr c26
           clear c26
           have H' := Aside0.mk H
           clear H
           have p7 : 0 ≤ (x14_1 : Int) := of_decide_eq_true (by (with_reducible assumption))
           have q7 : x14_1 < (a0.size : Int) := of_decide_eq_true (by (with_reducible assumption))
           have hx7 := bt_at a0 x14_1
           replace p7 := eq_true p7
           replace q7 := eq_true q7
           go_wp2
           (repeat (go_step3))
           go_roundg k1
           case measure => have := HK1.out; omega
           case rel => exact ⟨(wrap64 (x14_1 + 1)), (by rfl), H', ⟨by have := HK1.out; omega⟩, by repeat (first | exact Drawn0.refl _ | apply Drawn0.step)⟩
          ·rw [if_neg c26] at H
           have c26b0 : ((bt a0 x14_1) == 95) = false := beq_eq_false_iff_ne.mpr c26
           by_cases c27 : (bt a0 x14_1) ≥ 48
           ·rw [if_pos c27] at H
            have c27b0 : decide (48 ≤ (bt a0 x14_1)) = true := decide_eq_true c27
            clear c27
            by_cases c28 : (bt a0 x14_1) ≤ 57
            ·rw [if_pos c28] at H
             have c28b0 : decide ((bt a0 x14_1) ≤ 57) = true := decide_eq_true c28
             clear c28
             by_cases c29 : x14_1 > 0
             ·rw [if_pos c29] at H
              have c29b0 : decide (0 < x14_1) = true := decide_eq_true c29
              clear c29
              have H' := Aside0.mk H
              clear H
              have p7 : 0 ≤ (x14_1 : Int) := of_decide_eq_true (by (with_reducible assumption))
              have q7 : x14_1 < (a0.size : Int) := of_decide_eq_true (by (with_reducible assumption))
              have hx7 := bt_at a0 x14_1
              replace p7 := eq_true p7
              replace q7 := eq_true q7
              go_wp2
              (repeat (go_step3))
              go_roundg k1
              case measure => have := HK1.out; omega
              case rel => exact ⟨(wrap64 (x14_1 + 1)), (by rfl), H', ⟨by have := HK1.out; omega⟩, by repeat (first | exact Drawn0.refl _ | apply Drawn0.step)⟩
             ·rw [if_neg c29] at H
              have c29b0 : decide (0 < x14_1) = false := decide_eq_false c29
              clear c29
              obtain rfl := Option.some.inj H
              have p7 : 0 ≤ (x14_1 : Int) := of_decide_eq_true (by (with_reducible assumption))
              have q7 : x14_1 < (a0.size : Int) := of_decide_eq_true (by (with_reducible assumption))
              have hx7 := bt_at a0 x14_1
              replace p7 := eq_true p7
              replace q7 := eq_true q7
              go_wp2
              (repeat (go_step3))
              go_ret
              exact ⟨by rfl, by repeat (first | exact Drawn0.refl _ | apply Drawn0.step)⟩
            ·rw [if_neg c28] at H
             have c28b0 : decide ((bt a0 x14_1) ≤ 57) = false := decide_eq_false c28
             clear c28
             obtain rfl := Option.some.inj H
             have p7 : 0 ≤ (x14_1 : Int) := of_decide_eq_true (by (with_reducible assumption))
             have q7 : x14_1 < (a0.size : Int) := of_decide_eq_true (by (with_reducible assumption))
             have hx7 := bt_at a0 x14_1
             replace p7 := eq_true p7
             replace q7 := eq_true q7
             go_wp2
             (repeat (go_step3))
             go_ret
             exact ⟨by rfl, by repeat (first | exact Drawn0.refl _ | apply Drawn0.step)⟩
           ·rw [if_neg c27] at H
            have c27b0 : decide (48 ≤ (bt a0 x14_1)) = false := decide_eq_false c27
            clear c27
            obtain rfl := Option.some.inj H
            have p7 : 0 ≤ (x14_1 : Int) := of_decide_eq_true (by (with_reducible assumption))
            have q7 : x14_1 < (a0.size : Int) := of_decide_eq_true (by (with_reducible assumption))
            have hx7 := bt_at a0 x14_1
            replace p7 := eq_true p7
            replace q7 := eq_true q7
            go_wp2
            (repeat (go_step3))
            go_ret
            exact ⟨by rfl, by repeat (first | exact Drawn0.refl _ | apply Drawn0.step)⟩
       ·rw [if_neg c6] at H
        exact absurd H (by simp)
      ·rw [if_neg c5] at H
       exact absurd H (by simp)
     ·rw [if_neg c4] at H
      have c4b0 : decide (x14_1 < (a0.size : Int)) = false := decide_eq_false c4
      clear c4
      obtain rfl := Option.some.inj H
      go_wp2
      (repeat (go_step3))
      go_ret
      exact ⟨by rfl, by repeat (first | exact Drawn0.refl _ | apply Drawn0.step)⟩
end Go.Proofs.YtikbfjnbhogihaaGreatDoor.M
