import Derived.Test.YtikbfjnbhogihaaGreatDoorM0
import Derived.Test.YtikbfjnbhogihaaGreatDoorF48
import Derived.Test.YtikbfjnbhogihaaGreatDoorMetr
import Derived.Test.YtikbfjnbhogihaaGreatDoorF35
import Derived.Test.YtikbfjnbhogihaaGreatDoorLabLen
import Derived.Test.YtikbfjnbhogihaaGreatDoorF159
import Derived.Test.YtikbfjnbhogihaaGreatDoorKeyPlain
import Derived.Test.YtikbfjnbhogihaaGreatDoorF168
namespace Go.Proofs.YtikbfjnbhogihaaGreatDoor.M
open Go.RowKit Go.Proofs.YtikbfjnbhogihaaGreatDoorW.PrintWords Go.Proofs.YtikbfjnbhogihaaGreatDoorW.PrintLast Go.Proofs.YtikbfjnbhogihaaGreatDoorW.PrintMore
attribute [local go_sem] max2_int min2_int max_two min_two max_three min_three max_four min_four
set_option linter.unusedVariables false
set_option linter.unusedSimpArgs false
/-! ### spec_l4TenantName: function 49 -/
def spec_l4TenantName.l0 : Nat → ByteArray → Int → Option (Bool)
 | 0, _, _ => none
 | k + 1, x0, x3 => if x3 < (x0.size : Int) then (if 0 ≤ x3 then (if (bt x0 x3) ≥ 97 then (if ((bt x0 x3) ≤ 122) then (spec_l4TenantName.l0 k x0 (wrap64 (x3 + 1))) else (if (bt x0 x3) ≥ 48 then (if ((bt x0 x3) ≤ 57) then (spec_l4TenantName.l0 k x0 (wrap64 (x3 + 1))) else (if (bt x0 x3) = 45 then (spec_l4TenantName.l0 k x0 (wrap64 (x3 + 1))) else (some false))) else (if (bt x0 x3) = 45 then (spec_l4TenantName.l0 k x0 (wrap64 (x3 + 1))) else (some false)))) else (if (bt x0 x3) ≥ 48 then (if ((bt x0 x3) ≤ 57) then (spec_l4TenantName.l0 k x0 (wrap64 (x3 + 1))) else (if (bt x0 x3) = 45 then (spec_l4TenantName.l0 k x0 (wrap64 (x3 + 1))) else (some false))) else (if (bt x0 x3) = 45 then (spec_l4TenantName.l0 k x0 (wrap64 (x3 + 1))) else (some false)))) else (none)) else (some true)
def spec_l4TenantName.f (k : Nat) (a0 : ByteArray) : Option (Bool) := (spec_l1Between.f (a0.size : Int) 1 32).bind fun t114 => (if t114 = true then (spec_l4TenantName.l0 k a0 0) else (some false))
theorem spec_l4TenantName.mono_l : ∀ k, (∀ y0 y1, LeO (spec_l4TenantName.l0 k y0 y1) (spec_l4TenantName.l0 (k + 1) y0 y1))
 | 0 => fun _ _ r h => by simp [spec_l4TenantName.l0] at h
 | k + 1 => by
  have ih0 := spec_l4TenantName.mono_l k
  ·intro y0 y1
   unfold spec_l4TenantName.l0
   repeat' first
   | (with_reducible exact ih0 _ _)
   | (with_reducible exact LeO.refl _)
   | (with_reducible refine LeO.ite ?_ ?_)
theorem spec_l4TenantName.mono : ∀ a0 k, LeO (spec_l4TenantName.f k a0) (spec_l4TenantName.f (k + 1) a0) := by
 intro a0 k
 have ih0 := spec_l4TenantName.mono_l k
 unfold spec_l4TenantName.f
 repeat' first
   | (with_reducible exact ih0 _ _)
   | (with_reducible exact LeO.refl _)
   | (with_reducible refine LeO.ite ?_ ?_)
   | (with_reducible refine LeO.bind ?_ (fun _ => ?_))
set_option maxHeartbeats 8000000 in
set_option maxRecDepth 100000 in
theorem spec_l4TenantName.calls (k : Nat) (a0 : ByteArray) (r : Bool) (w : World) (h : spec_l4TenantName.f k a0 = some r) :
  Calls Tryz.prog 49 #[.string a0] w fun e w' => e = .returned (.bool r) ∧ Drawn0 w w' := by
 have H : ((spec_l1Between.f (a0.size : Int) 1 32).bind fun t114 => (if t114 = true then (spec_l4TenantName.l0 k a0 0) else (some false))) = some r := h
 clear h
 replace H := Option.bind_eq_some_iff.mp H
 obtain ⟨t114, A20, H⟩ := H
 replace H : (if t114 = true then (spec_l4TenantName.l0 k a0 0) else (some false)) = some r := H
 have A2 := Aside0.mk A20
 clear A20
 by_cases c3 : t114 = true
 ·subst c3
  have H1 : (spec_l4TenantName.l0 k a0 0) = some r := by rw [if_pos rfl] at H; exact H
  clear H
  have H := H1
  clear H1
  have H' := Aside0.mk H
  clear H
  go_enter Tryz.func49, Tryz.ntmps49
  go_wp2_with (((with_reducible refine gate_callee (f := 48) rfl ?_); refine goesL_ (some 7) rfl rfl Tryz.func48 (by kernel_rfl) rfl #[.int .i64 (a0.size : Int), .int .i64 1, .int .i64 32] rfl (by (try simp only [List.map_toArray, List.map_cons, List.map_nil]); first | done | rfl) ?_; (with_reducible refine (spec_l1Between.calls (a0.size : Int) 1 32 true _ A2.out).mono ?_); rintro e w' ⟨rfl, ⟨nd, rfl⟩⟩; refine ⟨_, rfl, ?_⟩))
  go_loopg [3] k (fun kq v3 w' => ∃ (x3_1 : Int), v3 = .int .i64 x3_1 ∧ Aside0 (spec_l4TenantName.l0 kq a0 x3_1 = some r) ∧ Aside0 (kq ≤ k) ∧ Drawn0 w w')
  case atStart => exact ⟨(0), (by rfl), H', ⟨Nat.le_refl _⟩, by repeat (first | exact Drawn0.refl _ | apply Drawn0.step)⟩
  case round =>
   clear H'
   obtain ⟨x3_1, rfl, HA, HK1, ⟨m1, rfl⟩⟩ := hrel
   cases gk with
   | zero => exact absurd HA.out (by simp [spec_l4TenantName.l0])
   | succ k1 =>
    have H := HA.out
    clear HA
    simp only [spec_l4TenantName.l0] at H
    by_cases c4 : x3_1 < (a0.size : Int)
    ·rw [if_pos c4] at H
     have c4b0 : decide (x3_1 < (a0.size : Int)) = true := decide_eq_true c4
     clear c4
     by_cases c5 : 0 ≤ x3_1
     ·rw [if_pos c5] at H
      have c5b0 : decide (0 ≤ x3_1) = true := decide_eq_true c5
      clear c5
      by_cases c7 : (bt a0 x3_1) ≥ 97
      ·rw [if_pos c7] at H
       have c7b0 : decide (97 ≤ (bt a0 x3_1)) = true := decide_eq_true c7
       clear c7
       by_cases c8 : ((bt a0 x3_1) ≤ 122)
       ·rw [if_pos c8] at H
        have c8b0 : decide ((bt a0 x3_1) ≤ 122) = true := decide_eq_true c8
        clear c8
        have H' := Aside0.mk H
        clear H
        have p6 : 0 ≤ (x3_1 : Int) := of_decide_eq_true (by (with_reducible assumption))
        have q6 : x3_1 < (a0.size : Int) := of_decide_eq_true (by (with_reducible assumption))
        have hx6 := bt_at a0 x3_1
        replace p6 := eq_true p6
        replace q6 := eq_true q6
        go_wp2
        go_roundg k1
        case measure => have := HK1.out; omega
        case rel => exact ⟨(wrap64 (x3_1 + 1)), (by rfl), H', ⟨by have := HK1.out; omega⟩, by repeat (first | exact Drawn0.refl _ | apply Drawn0.step)⟩
       ·rw [if_neg c8] at H
        have c8b0 : decide ((bt a0 x3_1) ≤ 122) = false := decide_eq_false c8
        clear c8
        by_cases c9 : (bt a0 x3_1) ≥ 48
        ·rw [if_pos c9] at H
         have c9b0 : decide (48 ≤ (bt a0 x3_1)) = true := decide_eq_true c9
         clear c9
         by_cases c10 : ((bt a0 x3_1) ≤ 57)
         ·rw [if_pos c10] at H
          have c10b0 : decide ((bt a0 x3_1) ≤ 57) = true := decide_eq_true c10
          clear c10
          have H' := Aside0.mk H
          clear H
          have p6 : 0 ≤ (x3_1 : Int) := of_decide_eq_true (by (with_reducible assumption))
          have q6 : x3_1 < (a0.size : Int) := of_decide_eq_true (by (with_reducible assumption))
          have hx6 := bt_at a0 x3_1
          replace p6 := eq_true p6
          replace q6 := eq_true q6
          go_wp2
          go_roundg k1
          case measure => have := HK1.out; omega
          case rel => exact ⟨(wrap64 (x3_1 + 1)), (by rfl), H', ⟨by have := HK1.out; omega⟩, by repeat (first | exact Drawn0.refl _ | apply Drawn0.step)⟩
         ·rw [if_neg c10] at H
          have c10b0 : decide ((bt a0 x3_1) ≤ 57) = false := decide_eq_false c10
          clear c10
          by_cases c11 : (bt a0 x3_1) = 45
          ·rw [if_pos c11] at H
           have c11b1 : ((bt a0 x3_1) != 45) = false := bne_eq_false_iff_eq.mpr c11
           clear c11
           have H' := Aside0.mk H
           clear H
           have p6 : 0 ≤ (x3_1 : Int) := of_decide_eq_true (by (with_reducible assumption))
           have q6 : x3_1 < (a0.size : Int) := of_decide_eq_true (by (with_reducible assumption))
           have hx6 := bt_at a0 x3_1
           replace p6 := eq_true p6
           replace q6 := eq_true q6
           go_wp2
           go_roundg k1
           case measure => have := HK1.out; omega
           case rel => exact ⟨(wrap64 (x3_1 + 1)), (by rfl), H', ⟨by have := HK1.out; omega⟩, by repeat (first | exact Drawn0.refl _ | apply Drawn0.step)⟩
          ·rw [if_neg c11] at H
           have c11b1 : ((bt a0 x3_1) != 45) = true := bne_iff_ne.mpr c11
           obtain rfl := Option.some.inj H
           have p6 : 0 ≤ (x3_1 : Int) := of_decide_eq_true (by (with_reducible assumption))
           have q6 : x3_1 < (a0.size : Int) := of_decide_eq_true (by (with_reducible assumption))
           have hx6 := bt_at a0 x3_1
           replace p6 := eq_true p6
           replace q6 := eq_true q6
           go_wp2
           go_ret
           exact ⟨by rfl, by repeat (first | exact Drawn0.refl _ | apply Drawn0.step)⟩
        ·rw [if_neg c9] at H
         have c9b0 : decide (48 ≤ (bt a0 x3_1)) = false := decide_eq_false c9
         clear c9
         by_cases c12 : (bt a0 x3_1) = 45
         ·rw [if_pos c12] at H
          have c12b1 : ((bt a0 x3_1) != 45) = false := bne_eq_false_iff_eq.mpr c12
          clear c12
          have H' := Aside0.mk H
          clear H
          have p6 : 0 ≤ (x3_1 : Int) := of_decide_eq_true (by (with_reducible assumption))
          have q6 : x3_1 < (a0.size : Int) := of_decide_eq_true (by (with_reducible assumption))
          have hx6 := bt_at a0 x3_1
          replace p6 := eq_true p6
          replace q6 := eq_true q6
          go_wp2
          go_roundg k1
          case measure => have := HK1.out; omega
          case rel => exact ⟨(wrap64 (x3_1 + 1)), (by rfl), H', ⟨by have := HK1.out; omega⟩, by repeat (first | exact Drawn0.refl _ | apply Drawn0.step)⟩
         ·rw [if_neg c12] at H
          have c12b1 : ((bt a0 x3_1) != 45) = true := bne_iff_ne.mpr c12
          obtain rfl := Option.some.inj H
          have p6 : 0 ≤ (x3_1 : Int) := of_decide_eq_true (by (with_reducible assumption))
          have q6 : x3_1 < (a0.size : Int) := of_decide_eq_true (by (with_reducible assumption))
          have hx6 := bt_at a0 x3_1
          replace p6 := eq_true p6
          replace q6 := eq_true q6
          go_wp2
          go_ret
          exact ⟨by rfl, by repeat (first | exact Drawn0.refl _ | apply Drawn0.step)⟩
      ·rw [if_neg c7] at H
       have c7b0 : decide (97 ≤ (bt a0 x3_1)) = false := decide_eq_false c7
       clear c7
       by_cases c13 : (bt a0 x3_1) ≥ 48
       ·rw [if_pos c13] at H
        have c13b0 : decide (48 ≤ (bt a0 x3_1)) = true := decide_eq_true c13
        clear c13
        by_cases c14 : ((bt a0 x3_1) ≤ 57)
        ·rw [if_pos c14] at H
         have c14b0 : decide ((bt a0 x3_1) ≤ 57) = true := decide_eq_true c14
         clear c14
         have H' := Aside0.mk H
         clear H
         have p6 : 0 ≤ (x3_1 : Int) := of_decide_eq_true (by (with_reducible assumption))
         have q6 : x3_1 < (a0.size : Int) := of_decide_eq_true (by (with_reducible assumption))
         have hx6 := bt_at a0 x3_1
         replace p6 := eq_true p6
         replace q6 := eq_true q6
         go_wp2
         go_roundg k1
         case measure => have := HK1.out; omega
         case rel => exact ⟨(wrap64 (x3_1 + 1)), (by rfl), H', ⟨by have := HK1.out; omega⟩, by repeat (first | exact Drawn0.refl _ | apply Drawn0.step)⟩
        ·rw [if_neg c14] at H
         have c14b0 : decide ((bt a0 x3_1) ≤ 57) = false := decide_eq_false c14
         clear c14
         by_cases c15 : (bt a0 x3_1) = 45
         ·rw [if_pos c15] at H
          have c15b1 : ((bt a0 x3_1) != 45) = false := bne_eq_false_iff_eq.mpr c15
          clear c15
          have H' := Aside0.mk H
          clear H
          have p6 : 0 ≤ (x3_1 : Int) := of_decide_eq_true (by (with_reducible assumption))
          have q6 : x3_1 < (a0.size : Int) := of_decide_eq_true (by (with_reducible assumption))
          have hx6 := bt_at a0 x3_1
          replace p6 := eq_true p6
          replace q6 := eq_true q6
          go_wp2
          go_roundg k1
          case measure => have := HK1.out; omega
          case rel => exact ⟨(wrap64 (x3_1 + 1)), (by rfl), H', ⟨by have := HK1.out; omega⟩, by repeat (first | exact Drawn0.refl _ | apply Drawn0.step)⟩
         ·rw [if_neg c15] at H
          have c15b1 : ((bt a0 x3_1) != 45) = true := bne_iff_ne.mpr c15
          obtain rfl := Option.some.inj H
          have p6 : 0 ≤ (x3_1 : Int) := of_decide_eq_true (by (with_reducible assumption))
          have q6 : x3_1 < (a0.size : Int) := of_decide_eq_true (by (with_reducible assumption))
          have hx6 := bt_at a0 x3_1
          replace p6 := eq_true p6
          replace q6 := eq_true q6
          go_wp2
          go_ret
          exact ⟨by rfl, by repeat (first | exact Drawn0.refl _ | apply Drawn0.step)⟩
       ·rw [if_neg c13] at H
        have c13b0 : decide (48 ≤ (bt a0 x3_1)) = false := decide_eq_false c13
        clear c13
        by_cases c16 : (bt a0 x3_1) = 45
        ·rw [if_pos c16] at H
         have c16b1 : ((bt a0 x3_1) != 45) = false := bne_eq_false_iff_eq.mpr c16
         clear c16
         have H' := Aside0.mk H
         clear H
         have p6 : 0 ≤ (x3_1 : Int) := of_decide_eq_true (by (with_reducible assumption))
         have q6 : x3_1 < (a0.size : Int) := of_decide_eq_true (by (with_reducible assumption))
         have hx6 := bt_at a0 x3_1
         replace p6 := eq_true p6
         replace q6 := eq_true q6
         go_wp2
         go_roundg k1
         case measure => have := HK1.out; omega
         case rel => exact ⟨(wrap64 (x3_1 + 1)), (by rfl), H', ⟨by have := HK1.out; omega⟩, by repeat (first | exact Drawn0.refl _ | apply Drawn0.step)⟩
        ·rw [if_neg c16] at H
         have c16b1 : ((bt a0 x3_1) != 45) = true := bne_iff_ne.mpr c16
         obtain rfl := Option.some.inj H
         have p6 : 0 ≤ (x3_1 : Int) := of_decide_eq_true (by (with_reducible assumption))
         have q6 : x3_1 < (a0.size : Int) := of_decide_eq_true (by (with_reducible assumption))
         have hx6 := bt_at a0 x3_1
         replace p6 := eq_true p6
         replace q6 := eq_true q6
         go_wp2
         go_ret
         exact ⟨by rfl, by repeat (first | exact Drawn0.refl _ | apply Drawn0.step)⟩
     ·rw [if_neg c5] at H
      exact absurd H (by simp)
    ·rw [if_neg c4] at H
     have c4b0 : decide (x3_1 < (a0.size : Int)) = false := decide_eq_false c4
     clear c4
     obtain rfl := Option.some.inj H
     go_wp2
     go_ret
     exact ⟨by rfl, by repeat (first | exact Drawn0.refl _ | apply Drawn0.step)⟩
 ·replace c3 := Bool.eq_false_iff.mpr c3
  subst c3
  have H1 : (some false) = some r := by rw [if_neg (show ¬ (false = true) by decide)] at H; exact H
  clear H
  have H := H1
  clear H1
  obtain rfl := Option.some.inj H
  go_enter Tryz.func49, Tryz.ntmps49
  go_wp2_with (((with_reducible refine gate_callee (f := 48) rfl ?_); refine goesL_ (some 7) rfl rfl Tryz.func48 (by kernel_rfl) rfl #[.int .i64 (a0.size : Int), .int .i64 1, .int .i64 32] rfl (by (try simp only [List.map_toArray, List.map_cons, List.map_nil]); first | done | rfl) ?_; (with_reducible refine (spec_l1Between.calls (a0.size : Int) 1 32 false _ A2.out).mono ?_); rintro e w' ⟨rfl, ⟨nd, rfl⟩⟩; refine ⟨_, rfl, ?_⟩))
  go_ret
  exact ⟨by rfl, by repeat (first | exact Drawn0.refl _ | apply Drawn0.step)⟩
end Go.Proofs.YtikbfjnbhogihaaGreatDoor.M
/- When a state is one: what both compute. Plain. -/
namespace Go.Proofs.YtikbfjnbhogihaaGreatDoor.StOK
open Go.Proofs.YtikbfjnbhogihaaGreatDoor.M Go.Proofs.YtikbfjnbhogihaaGreatDoor.Loops Go.Proofs.YtikbfjnbhogihaaGreatDoor.Can Go.Proofs.YtikbfjnbhogihaaGreatDoor.Utf Go.Proofs.YtikbfjnbhogihaaGreatDoor.Key Go.Proofs.YtikbfjnbhogihaaGreatDoor.KeyDec Go.Proofs.YtikbfjnbhogihaaGreatDoor.KeyLaw Go.Proofs.YtikbfjnbhogihaaGreatDoor.Metr Go.Proofs.YtikbfjnbhogihaaGreatDoorW.PrintWords Go.Proofs.YtikbfjnbhogihaaGreatDoorW.PrintLast Go.Proofs.YtikbfjnbhogihaaGreatDoorW.PrintMore Go.RowKit
set_option linter.unusedVariables false
set_option linter.unusedSimpArgs false
abbrev Tn := S87
abbrev Ml := S91
abbrev Sr := S93
/-! ### a loop that goes on while all is well -/
def allFrom (P : Nat → Bool) : Nat → Nat → Bool
 | _, 0 => true
 | j, m + 1 => P j && allFrom P (j + 1) m
theorem allFrom_all {α : Type} (A : α → Bool) (z : α) (l : List α) : ∀ m j, j + m = l.length → allFrom (fun i => A (l.getD i z)) j m = (l.drop j).all A := by
 intro m
 induction m with
 | zero => intro j hj; rw [List.drop_eq_nil_of_le (by omega)]; rfl
 | succ m ih =>
  intro j hj
  have hlt : j < l.length := by omega
  show (A (l.getD j z) && allFrom _ (j + 1) m) = _
  rw [ih (j + 1) (by omega), List.drop_eq_getElem_cons hlt, List.all_cons, List.getD_eq_getElem?_getD, List.getElem?_eq_getElem hlt]
  rfl
theorem allFrom_and (P Q : Nat → Bool) : ∀ m j, allFrom (fun i => P i && Q i) j m = (allFrom P j m && allFrom Q j m) := by
 intro m
 induction m with
 | zero => intro j; rfl
 | succ m ih =>
  intro j
  show ((P j && Q j) && allFrom _ (j + 1) m) = ((P j && allFrom P (j + 1) m) && (Q j && allFrom Q (j + 1) m))
  rw [ih]
  cases P j <;> cases Q j <;> simp
def riseAt {α : Type} (g : α → ByteArray) (z : α) (l : List α) (i : Nat) : Bool := decide (i = 0) || Op.bytesLess (g (l.getD (i - 1) z)).toList (g (l.getD i z)).toList
theorem rise_from {α : Type} (g : α → ByteArray) (z : α) (l : List α) : ∀ m j, 1 ≤ j → j + m = l.length → allFrom (riseAt g z l) j m = Rise.up ((l.map g).drop (j - 1)) := by
 intro m
 induction m with
 | zero => intro j h1 hj; rw [Rise.up_short _ (by rw [List.length_drop, List.length_map]; omega)]; rfl
 | succ m ih =>
  intro j h1 hj
  obtain ⟨i, rfl⟩ : ∃ i, j = i + 1 := ⟨j - 1, by omega⟩
  have h := Rise.up_step g z l i (i + 1) rfl (by omega)
  rw [h]
  show (riseAt g z l (i + 1) && allFrom _ (i + 1 + 1) m) = _
  rw [ih (i + 1 + 1) (by omega) (by omega)]
  rfl
theorem rise_all {α : Type} (g : α → ByteArray) (z : α) (l : List α) : allFrom (riseAt g z l) 0 l.length = Rise.up (l.map g) := by
 cases hl : l.length with
 | zero => rw [List.length_eq_zero_iff.1 hl]; rfl
 | succ m =>
  show (riseAt g z l 0 && allFrom _ 1 m) = _
  rw [rise_from g z l m 1 (Nat.le_refl _) (by omega)]
  rfl
/-! ### small ones -/
theorem spec_between (a b c : Int) : spec_l1Between.f a b c = some (decide (b ≤ a ∧ a ≤ c)) := by
 unfold spec_l1Between.f
 by_cases h : b ≤ a
 ·rw [if_pos h]; simp [h]
 ·rw [if_neg h]; simp [h]
theorem spec_ten_chars (s : ByteArray) (hz : s.size ≤ 32) : ∀ n j, j + n = s.size → Ev (fun k => spec_l4TenantName.l0 k s (j : Int)) (TenN.chars s n) := by
 intro n
 induction n with
 | zero =>
  intro j hj
  exact Ev.step (f := fun _ => some true) (fun k => by simp only [spec_l4TenantName.l0]; rw [if_neg (by omega)]) (Ev.now _)
 | succ n ih =>
  intro j hj
  have hn := ih (j + 1) (by omega)
  have e : s.size - (n + 1) = j := by omega
  have hw : wrap64 ((j : Int) + 1) = ((j + 1 : Nat) : Int) := w_succ j (by omega)
  have ht : TenN.chars s (n + 1) = (TenN.okB (bt s (j : Int)) && TenN.chars s n) := by
   show (TenN.okB (bt s ((s.size - (n + 1) : Nat) : Int)) && TenN.chars s n) = _
   rw [e]
  rw [ht]
  cases hc : TenN.okB (bt s (j : Int)) with
  | true =>
   refine Ev.step (fun k => ?_) hn
   have hc := of_decide_eq_true hc
   simp only [spec_l4TenantName.l0]
   rw [hw, if_pos (by omega), if_pos (by omega)]
   generalize bt s (j : Int) = c at hc ⊢
   repeat' split
   all_goals first | rfl | (exfalso; omega)
  | false =>
   refine Ev.step (f := fun _ => some false) (fun k => ?_) (Ev.now _)
   have hc := of_decide_eq_false hc
   simp only [spec_l4TenantName.l0]
   rw [hw, if_pos (by omega), if_pos (by omega)]
   generalize bt s (j : Int) = c at hc ⊢
   repeat' split
   all_goals first | rfl | (exfalso; omega)
theorem spec_ten (s : ByteArray) : Ev (fun k => spec_l4TenantName.f k s) (TenN.ok s) := by
 unfold spec_l4TenantName.f TenN.ok
 simp only [spec_between, Option.bind_some]
 by_cases h : 1 ≤ s.size ∧ s.size ≤ 32
 ·rw [decide_eq_true h, decide_eq_true (show (1 : Int) ≤ (s.size : Int) ∧ (s.size : Int) ≤ 32 by omega), Bool.true_and]
  exact Ev.ite_pos rfl (spec_ten_chars s h.2 s.size 0 (by omega))
 ·rw [decide_eq_false h, decide_eq_false (show ¬ ((1 : Int) ≤ (s.size : Int) ∧ (s.size : Int) ≤ 32) by omega), Bool.false_and]
  exact Ev.ite_neg (by decide) (Ev.now _)
def metB (s : ByteArray) : Bool := decide (¬ s.toList = []) && (vf s == 0)
theorem spec_met (s : ByteArray) (h : s.size ≤ 1073741824) : Ev (fun k => spec_l4MetricName.f k s) (metB s) := by
 unfold spec_l4MetricName.f metB
 by_cases h0 : s.toList = []
 ·rw [decide_eq_false (fun h => h h0)]
  exact Ev.ite_pos h0 (Ev.now _)
 ·rw [decide_eq_true h0, Bool.true_and]
  exact Ev.ite_neg h0 (Ev.bind (spec_value s h) (Ev.now _))
theorem impl_met (s : ByteArray) (h : s.size ≤ 1073741824) : impl_isMetric.f s = some (metB s) := by
 unfold impl_isMetric.f metB
 by_cases h0 : s.toList = []
 ·rw [decide_eq_false (fun h => h h0), if_pos h0]; rfl
 ·rw [decide_eq_true h0, Bool.true_and, if_neg h0]
  unfold impl_valueFault.f
  rw [if_pos (by omega)]
  rfl
def idleB (a : Int) (m : List Ml) (s : List Sr) : Bool := decide (a = -1) && (decide (m.length = 0) && decide (s.length = 0))
theorem spec_idle (n : ByteArray) (a : Int) (m : List Ml) (s : List Sr) : spec_l4Idle.f n a m s = some (idleB a m s) := by
 unfold spec_l4Idle.f idleB
 by_cases h1 : a = -1
 ·rw [if_pos h1, decide_eq_true h1, Bool.true_and]
  by_cases h2 : m.length = 0
  ·rw [if_pos (by omega), decide_eq_true h2, Bool.true_and]
   by_cases h3 : s.length = 0
   ·rw [decide_eq_true h3, h3]; rfl
   ·rw [decide_eq_false h3, beq_eq_false_iff_ne.2 (by omega)]
  ·rw [if_neg (by omega), decide_eq_false h2]; rfl
 ·rw [if_neg h1, decide_eq_false h1]; rfl
theorem impl_idl (n : ByteArray) (a : Int) (m : List Ml) (s : List Sr) : impl_idle.f n a m s = some (idleB a m s) :=
 (show impl_idle.f n a m s = spec_l4Idle.f n a m s from rfl).trans (spec_idle n a m s)
/-! ### keys -/
noncomputable def dec (s : ByteArray) : List S141 × Bool := if h : s.size ≤ 1048576 then KeyDec.fin s (Classical.choose (same_dec s h)) else ([], false)
theorem dec_is (s : ByteArray) (h : s.size ≤ 1048576) : ∃ l, dec s = KeyDec.fin s l ∧ Ev (fun k => impl_DecodeKey.f k s) (dec s) ∧ Ev (fun k => spec_DecodeKey.f k s) (dec s) := by
 have e : dec s = KeyDec.fin s (Classical.choose (same_dec s h)) := by unfold dec; rw [dif_pos h]
 have hs := Classical.choose_spec (same_dec s h)
 rw [← e] at hs
 exact ⟨_, e, hs⟩
noncomputable def keyB (s : ByteArray) : Bool := (dec s).2
noncomputable def metS (s : ByteArray) : ByteArray := metr (dec s).1
theorem spec_metric (s : ByteArray) (h : s.size ≤ 1048576) : Ev (fun k => spec_Metric.f k s) (metS s) := by
 obtain ⟨l, e, h1, h2⟩ := dec_is s h
 have hlen : (dec s).1.length ≤ 16 := by rw [e]; exact fin_len s l
 unfold spec_Metric.f metS
 exact Ev.bind h2 (metr_loop spec_Metric.l0 (fun k a b c => by simp only [spec_Metric.l0]) (dec s).1 (by omega) (dec s).1.length 0 (by omega))
theorem metr_ne : ∀ l : List S141, (∀ x ∈ l, keep x = true) → l.any isMet = true → ¬ (metr l).toList = []
 | [], _, h => by cases h
 | x :: l, hk, h => by
  unfold metr
  by_cases hc : x.f0.toList = ([95, 95, 110, 97, 109, 101, 95, 95] : List UInt8)
  ·rw [if_pos hc]
   have := hk x List.mem_cons_self
   unfold keep at this
   exact of_decide_eq_true this
  ·rw [if_neg hc]
   refine metr_ne l (fun y hy => hk y (List.mem_cons_of_mem _ hy)) ?_
   rw [List.any_cons, Bool.or_eq_true] at h
   rcases h with h | h
   ·unfold isMet at h
    exact absurd (of_decide_eq_true (Bool.and_eq_true_iff.1 h).2) hc
   ·exact h
theorem key_can {l : List S141} (h : ¬ (key l).toList = []) : Ok l ∧ (can l).1 = l := by
 unfold key at h
 by_cases h0 : (can l).2.1 = 0
 ·rw [if_pos h0] at h
  by_cases h1 : same (can l).1 l = true
  ·exact ⟨can_zero h0, (same_iff _ _).1 h1⟩
  ·rw [if_neg h1, ByteArray.toList_eq] at h
   exact absurd rfl h
 ·rw [if_neg h0, ByteArray.toList_eq] at h
  exact absurd rfl h
theorem keyB_met (s : ByteArray) (h : s.size ≤ 1048576) (hk : keyB s = true) : ¬ (metS s).toList = [] := by
 obtain ⟨l, e, _, _⟩ := dec_is s h
 unfold keyB at hk
 unfold metS
 rw [e] at hk ⊢
 unfold KeyDec.fin at hk ⊢
 by_cases h0 : s.toList = []
 ·rw [if_pos h0] at hk; cases hk
 ·rw [if_neg h0] at hk ⊢
  by_cases h1 : (key l).toList = s.toList
  ·rw [if_pos h1]
   obtain ⟨hok, hcan⟩ := key_can (l := l) (by rw [h1]; exact h0)
   refine metr_ne l (fun x hx => ?_) hok.2.2.2
   rw [← hcan, ok_can hok] at hx
   have hp := CanSort.order_perm (l.filter keep) (once_filter keep hok.2.2.1)
   exact (List.mem_filter.1 (hp.mem_iff.1 hx)).2
  ·rw [if_neg h1] at hk; cases hk
theorem spec_key4 (s : ByteArray) (h : s.size ≤ 1048576) : Ev (fun k => spec_l4Key.f k s) (keyB s) := by
 obtain ⟨l, e, h1, h2⟩ := dec_is s h
 unfold spec_l4Key.f
 refine Ev.bind h2 ?_
 cases hk : keyB s with
 | true =>
  refine Ev.ite_pos hk (Ev.bind (spec_metric s h) (Ev.eq (Ev.now _) ?_))
  have := keyB_met s h hk
  simpa using this
 | false => exact Ev.ite_neg (by rw [show (dec s).2 = false from hk]; decide) (Ev.now _)
theorem gate {c b : Bool} {f : Nat → Option Bool} (h : c = true → Ev f b) : Ev (fun k => if c = true then f k else some false) (c && b) := by
 cases c
 ·exact Ev.ite_neg (by decide) (Ev.now _)
 ·exact Ev.ite_pos rfl (h rfl)
theorem getD_mem {α : Type} (l : List α) (z : α) (j : Nat) (h : j < l.length) : l.getD j z ∈ l := by
 rw [List.getD_eq_getElem?_getD, List.getElem?_eq_getElem h]
 exact List.getElem_mem h
noncomputable def mlB (m : Ml) : Bool := metB m.f0 && decide (0 ≤ m.f1 ∧ m.f1 ≤ 1000000)
noncomputable def srB (win now : Int) (x : Sr) : Bool := decide (0 ≤ x.f1 ∧ x.f1 ≤ now) && (decide (now - x.f1 < win) && keyB x.f0)
noncomputable def tnB (win now : Int) (t : Tn) : Bool := TenN.ok t.f0 && (decide (-1 ≤ t.f1 ∧ t.f1 ≤ 1000000) && (!(idleB t.f1 t.f2 t.f3) && (t.f2.all mlB && (t.f3.all (srB win now) && (Rise.up (t.f2.map (·.f0)) && Rise.up (t.f3.map (·.f0)))))))
noncomputable def stB (a b c d e f now : Int) (ts : List Tn) : Bool := St.cfgB a b c d e f && (decide (0 ≤ now ∧ now ≤ 1000000000000) && (decide (ts.length ≤ 10000) && (Rise.up (ts.map (·.f0)) && ts.all (tnB a now))))
structure Sm (t : Tn) : Prop where
 n2 : t.f2.length ≤ 1048576
 n3 : t.f3.length ≤ 1048576
 z0 : t.f0.size ≤ 1048576
 z2 : ∀ m ∈ t.f2, m.f0.size ≤ 1048576
 z3 : ∀ x ∈ t.f3, x.f0.size ≤ 1048576
/-! ### the same at the calls -/
theorem ten_c (s : ByteArray) (w : World) : Calls Tryz.prog 49 #[.string s] w fun e w' => ∃ b, e = .returned (.bool b) ∧ TenN.ok s = b ∧ Drawn0 w w' := by
 obtain ⟨k, hk⟩ := (spec_ten s).rounds
 refine (spec_l4TenantName.calls k s _ w hk).mono ?_
 rintro e w' ⟨rfl, h⟩
 exact ⟨_, rfl, rfl, h⟩
theorem met_c (s : ByteArray) (hs : s.size ≤ 1048576) (w : World) : Calls Tryz.prog 51 #[.string s] w fun e w' => ∃ b, e = .returned (.bool b) ∧ metB s = b ∧ Below w.heap.size w w' := by
 obtain ⟨k, hk⟩ := (spec_met s (by omega)).rounds
 refine (spec_l4MetricName.calls k s _ w hk).mono ?_
 rintro e w' ⟨rfl, h⟩
 exact ⟨_, rfl, rfl, h⟩
theorem key_c (s : ByteArray) (hs : s.size ≤ 1048576) (w : World) : Calls Tryz.prog 52 #[.string s] w fun e w' => ∃ b, e = .returned (.bool b) ∧ keyB s = b ∧ Below w.heap.size w w' := by
 obtain ⟨k, hk⟩ := (spec_key4 s hs).rounds
 refine (spec_l4Key.calls k s _ w hk).mono ?_
 rintro e w' ⟨rfl, h⟩
 exact ⟨_, rfl, rfl, h⟩
end Go.Proofs.YtikbfjnbhogihaaGreatDoor.StOK
