import Derived.Test.YtikbfjnbhogihaaGreatDoorM0
import Derived.Test.YtikbfjnbhogihaaGreatDoorF48
namespace Go.Proofs.YtikbfjnbhogihaaGreatDoor.M
open Go.RowKit Go.Proofs.YtikbfjnbhogihaaGreatDoorW.PrintWords Go.Proofs.YtikbfjnbhogihaaGreatDoorW.PrintLast Go.Proofs.YtikbfjnbhogihaaGreatDoorW.PrintMore
attribute [local go_sem] max2_int min2_int max_two min_two max_three min_three max_four min_four
set_option linter.unusedVariables false
set_option linter.unusedSimpArgs false
/-! ### spec_l3Rune: function 141 -/
mutual
def spec_l3Rune.j0 : Nat → ByteArray → Int → Int → Int → Option (Int × Int)
 | 0, _, _, _, _ => none
 | k + 1, x0, x5, x6, x7 => if (x0.size : Int) < x5 then (some (0, 0)) else (spec_l3Rune.l0 k x0 x5 x6 x7 1)
def spec_l3Rune.l0 : Nat → ByteArray → Int → Int → Int → Int → Option (Int × Int)
 | 0, _, _, _, _, _ => none
 | k + 1, x0, x5, x6, x7, x8 => if x8 < x5 then (if 0 ≤ x8 then (if x8 < (x0.size : Int) then (if (wrap64 (Int.tdiv (wrap64 (bt x0 x8)) 64)) = 2 then (spec_l3Rune.l0 k x0 x5 (wrap64 ((wrap64 (x6 * 64)) + (Int.tmod (wrap64 (bt x0 x8)) 64))) x7 (wrap64 (x8 + 1))) else (some (0, 0))) else (none)) else (none)) else (if x6 < x7 then (some (0, 0)) else (if x6 > 1114111 then (some (0, 0)) else ((spec_l1Between.f x6 55296 57343).bind fun t116 => (if t116 = true then (some (0, 0)) else (some (x6, x5))))))
end
def spec_l3Rune.f (k : Nat) (a0 : ByteArray) : Option (Int × Int) := if 0 < (a0.size : Int) then (if (wrap64 (bt a0 0)) < 128 then (some (wrap64 (bt a0 0), 1)) else (if (wrap64 (Int.tdiv (wrap64 (bt a0 0)) 32)) = 6 then (spec_l3Rune.j0 k a0 2 (Int.tmod (wrap64 (bt a0 0)) 32) 128) else (if (wrap64 (Int.tdiv (wrap64 (bt a0 0)) 16)) = 14 then (spec_l3Rune.j0 k a0 3 (Int.tmod (wrap64 (bt a0 0)) 16) 2048) else (if (wrap64 (Int.tdiv (wrap64 (bt a0 0)) 8)) = 30 then (spec_l3Rune.j0 k a0 4 (Int.tmod (wrap64 (bt a0 0)) 8) 65536) else (some (0, 0)))))) else (none)
theorem spec_l3Rune.mono_l : ∀ k, (∀ y0 y1 y2 y3, LeO (spec_l3Rune.j0 k y0 y1 y2 y3) (spec_l3Rune.j0 (k + 1) y0 y1 y2 y3)) ∧ (∀ y0 y1 y2 y3 y4, LeO (spec_l3Rune.l0 k y0 y1 y2 y3 y4) (spec_l3Rune.l0 (k + 1) y0 y1 y2 y3 y4))
 | 0 => ⟨fun _ _ _ _ r h => by simp [spec_l3Rune.j0] at h, fun _ _ _ _ _ r h => by simp [spec_l3Rune.l0] at h⟩
 | k + 1 => by
  obtain ⟨ih0, ih1⟩ := spec_l3Rune.mono_l k
  refine ⟨?_, ?_⟩
  ·intro y0 y1 y2 y3
   unfold spec_l3Rune.j0
   repeat' first
   | (with_reducible exact ih1 _ _ _ _ _)
   | (with_reducible exact LeO.refl _)
   | (with_reducible refine LeO.ite ?_ ?_)
  ·intro y0 y1 y2 y3 y4
   unfold spec_l3Rune.l0
   repeat' first
   | (with_reducible exact ih1 _ _ _ _ _)
   | (with_reducible exact LeO.refl _)
   | (with_reducible refine LeO.ite ?_ ?_)
theorem spec_l3Rune.mono : ∀ a0 k, LeO (spec_l3Rune.f k a0) (spec_l3Rune.f (k + 1) a0) := by
 intro a0 k
 obtain ⟨ih0, ih1⟩ := spec_l3Rune.mono_l k
 unfold spec_l3Rune.f
 repeat' first
   | (with_reducible exact ih0 _ _ _ _)
   | (with_reducible exact LeO.refl _)
   | (with_reducible refine LeO.ite ?_ ?_)
set_option maxHeartbeats 8000000 in
set_option maxRecDepth 100000 in
theorem spec_l3Rune.calls (k : Nat) (a0 : ByteArray) (r1 : Int) (r2 : Int) (w : World) (h : spec_l3Rune.f k a0 = some (r1, r2)) :
  Calls Tryz.prog 141 #[.string a0] w fun e w' => e = .returned (.tuple #[.int .i64 r1, .int .i64 r2]) ∧ Drawn0 w w' := by
 have H : (if 0 < (a0.size : Int) then (if (wrap64 (bt a0 0)) < 128 then (some (wrap64 (bt a0 0), 1)) else (if (wrap64 (Int.tdiv (wrap64 (bt a0 0)) 32)) = 6 then (spec_l3Rune.j0 k a0 2 (Int.tmod (wrap64 (bt a0 0)) 32) 128) else (if (wrap64 (Int.tdiv (wrap64 (bt a0 0)) 16)) = 14 then (spec_l3Rune.j0 k a0 3 (Int.tmod (wrap64 (bt a0 0)) 16) 2048) else (if (wrap64 (Int.tdiv (wrap64 (bt a0 0)) 8)) = 30 then (spec_l3Rune.j0 k a0 4 (Int.tmod (wrap64 (bt a0 0)) 8) 65536) else (some (0, 0)))))) else (none)) = some (r1, r2) := h
 clear h
 by_cases c2 : 0 < (a0.size : Int)
 ·rw [if_pos c2] at H
  have c2b0 : decide (0 < (a0.size : Int)) = true := decide_eq_true c2
  clear c2
  by_cases c4 : (wrap64 (bt a0 0)) < 128
  ·rw [if_pos c4] at H
   have c4b0 : decide ((wrap64 (bt a0 0)) < 128) = true := decide_eq_true c4
   clear c4
   simp only [Option.some.injEq, Prod.mk.injEq] at H
   obtain ⟨rfl, rfl⟩ := H
   have q3 : 0 < a0.size := (by have : (0 : Int) < (a0.size : Int) := of_decide_eq_true (by (with_reducible assumption)); omega)
   have hx3 : ∀ h : 0 < a0.size, ((a0[0]'h).toNat : Int) = bt a0 0 := bt_at a0 0
   replace q3 := eq_true q3
   go_enter Tryz.func141, Tryz.ntmps141
   go_wp2
   go_ret2
   exact ⟨by rfl, by repeat (exact Drawn0.refl _)⟩
  ·rw [if_neg c4] at H
   have c4b0 : decide ((wrap64 (bt a0 0)) < 128) = false := decide_eq_false c4
   clear c4
   have HC5 := Aside0.mk H
   clear H
   have q3 : 0 < a0.size := (by have : (0 : Int) < (a0.size : Int) := of_decide_eq_true (by (with_reducible assumption)); omega)
   have hx3 : ∀ h : 0 < a0.size, ((a0[0]'h).toNat : Int) = bt a0 0 := bt_at a0 0
   replace q3 := eq_true q3
   go_enter Tryz.func141, Tryz.ntmps141
   go_upto_block 0 with (fail)
   go_cut [5, 6, 7] (fun v5 v6 v7 wc => ∃ (kq : Nat) (x5_4 : Int) (x6_4 : Int) (x7_4 : Int), v5 = .int .i64 x5_4 ∧ v6 = .int .i64 x6_4 ∧ v7 = .int .i64 x7_4 ∧ Aside0 (spec_l3Rune.j0 kq a0 x5_4 x6_4 x7_4 = some (r1, r2)) ∧ Aside0 (kq ≤ k) ∧ Drawn0 w wc)
   case first =>
    have H := HC5.out
    clear HC5
    by_cases c6 : (wrap64 (Int.tdiv (wrap64 (bt a0 0)) 32)) = 6
    ·rw [if_pos c6] at H
     have c6b0 : ((wrap64 (Int.tdiv (wrap64 (bt a0 0)) 32)) == 6) = true := beq_iff_eq.mpr c6
     clear c6
     (first | rw [c6b0] | (simp only [i64_w, i32_w]; rw [c6b0]) | skip)
     have H' := Aside0.mk H
     clear H
     go_wp2
     go_meet
     case rel => exact ⟨_, (2), (Int.tmod (wrap64 (bt a0 0)) 32), (128), (by rfl), (by rfl), (by rfl), H', ⟨by omega⟩, by repeat (exact Drawn0.refl _)⟩
    ·rw [if_neg c6] at H
     have c6b0 : ((wrap64 (Int.tdiv (wrap64 (bt a0 0)) 32)) == 6) = false := beq_eq_false_iff_ne.mpr c6
     (first | rw [c6b0] | (simp only [i64_w, i32_w]; rw [c6b0]) | skip)
     by_cases c7 : (wrap64 (Int.tdiv (wrap64 (bt a0 0)) 16)) = 14
     ·rw [if_pos c7] at H
      have c7b0 : ((wrap64 (Int.tdiv (wrap64 (bt a0 0)) 16)) == 14) = true := beq_iff_eq.mpr c7
      clear c7
      have H' := Aside0.mk H
      clear H
      go_wp2
      go_meet
      case rel => exact ⟨_, (3), (Int.tmod (wrap64 (bt a0 0)) 16), (2048), (by rfl), (by rfl), (by rfl), H', ⟨by omega⟩, by repeat (exact Drawn0.refl _)⟩
     ·rw [if_neg c7] at H
      have c7b0 : ((wrap64 (Int.tdiv (wrap64 (bt a0 0)) 16)) == 14) = false := beq_eq_false_iff_ne.mpr c7
      by_cases c8 : (wrap64 (Int.tdiv (wrap64 (bt a0 0)) 8)) = 30
      ·rw [if_pos c8] at H
       have c8b0 : ((wrap64 (Int.tdiv (wrap64 (bt a0 0)) 8)) == 30) = true := beq_iff_eq.mpr c8
       clear c8
       have H' := Aside0.mk H
       clear H
       go_wp2
       go_meet
       case rel => exact ⟨_, (4), (Int.tmod (wrap64 (bt a0 0)) 8), (65536), (by rfl), (by rfl), (by rfl), H', ⟨by omega⟩, by repeat (exact Drawn0.refl _)⟩
      ·rw [if_neg c8] at H
       have c8b0 : ((wrap64 (Int.tdiv (wrap64 (bt a0 0)) 8)) == 30) = false := beq_eq_false_iff_ne.mpr c8
       simp only [Option.some.injEq, Prod.mk.injEq] at H
       obtain ⟨rfl, rfl⟩ := H
       go_wp2
       go_ret2
       exact ⟨by rfl, by repeat (exact Drawn0.refl _)⟩
   case rest =>
    clear HC5
    try clear c2b0
    try clear q3
    try clear hx3
    try clear c4b0
    obtain ⟨kq, x5_4, x6_4, x7_4, rfl, rfl, rfl, HA, HJ4, ⟨mc4, rfl⟩⟩ := hcut
    cases kq with
    | zero => exact absurd HA.out (by simp [spec_l3Rune.j0])
    | succ kj4 =>
     have H := HA.out
     clear HA
     simp only [spec_l3Rune.j0] at H
     by_cases c9 : (a0.size : Int) < x5_4
     ·rw [if_pos c9] at H
      have c9b0 : decide ((a0.size : Int) < x5_4) = true := decide_eq_true c9
      clear c9
      simp only [Option.some.injEq, Prod.mk.injEq] at H
      obtain ⟨rfl, rfl⟩ := H
      go_wp2
      go_ret2
      exact ⟨by rfl, by repeat (first | exact Drawn0.refl _ | apply Drawn0.step)⟩
     ·rw [if_neg c9] at H
      have c9b0 : decide ((a0.size : Int) < x5_4) = false := decide_eq_false c9
      clear c9
      have H' := Aside0.mk H
      clear H
      go_wp2
      go_loopg [6, 8] kj4 (fun kq v6 v8 w' => ∃ (x6_2 : Int) (x8_2 : Int), v6 = .int .i64 x6_2 ∧ v8 = .int .i64 x8_2 ∧ Aside0 (spec_l3Rune.l0 kq a0 x5_4 x6_2 x7_4 x8_2 = some (r1, r2)) ∧ Aside0 (kq ≤ kj4) ∧ Drawn0 w w')
      case atStart => exact ⟨(x6_4), (1), (by rfl), (by rfl), H', ⟨Nat.le_refl _⟩, by repeat (first | exact Drawn0.refl _ | apply Drawn0.step)⟩
      case round =>
       clear H'
       try clear c9b0
       obtain ⟨x6_2, x8_2, rfl, rfl, HA, HK2, ⟨m2, rfl⟩⟩ := hrel
       cases gk with
       | zero => exact absurd HA.out (by simp [spec_l3Rune.l0])
       | succ k2 =>
        have H := HA.out
        clear HA
        simp only [spec_l3Rune.l0] at H
        by_cases c10 : x8_2 < x5_4
        ·rw [if_pos c10] at H
         have c10b0 : decide (x8_2 < x5_4) = true := decide_eq_true c10
         clear c10
         by_cases c11 : 0 ≤ x8_2
         ·rw [if_pos c11] at H
          have c11b0 : decide (0 ≤ x8_2) = true := decide_eq_true c11
          clear c11
          by_cases c12 : x8_2 < (a0.size : Int)
          ·rw [if_pos c12] at H
           have c12b0 : decide (x8_2 < (a0.size : Int)) = true := decide_eq_true c12
           clear c12
           by_cases c14 : (wrap64 (Int.tdiv (wrap64 (bt a0 x8_2)) 64)) = 2
           ·rw [if_pos c14] at H
            have c14b1 : ((wrap64 (Int.tdiv (wrap64 (bt a0 x8_2)) 64)) != 2) = false := bne_eq_false_iff_eq.mpr c14
            clear c14
            have H' := Aside0.mk H
            clear H
            have p13 : 0 ≤ (x8_2 : Int) := of_decide_eq_true (by (with_reducible assumption))
            have q13 : x8_2 < (a0.size : Int) := of_decide_eq_true (by (with_reducible assumption))
            have hx13 := bt_at a0 x8_2
            replace p13 := eq_true p13
            replace q13 := eq_true q13
            go_wp2
            go_roundg k2
            case measure => have := HJ4.out; have := HK2.out; omega
            case rel => exact ⟨(wrap64 ((wrap64 (x6_2 * 64)) + (Int.tmod (wrap64 (bt a0 x8_2)) 64))), (wrap64 (x8_2 + 1)), (by rfl), (by rfl), H', ⟨by have := HJ4.out; have := HK2.out; omega⟩, by repeat (first | exact Drawn0.refl _ | apply Drawn0.step)⟩
           ·rw [if_neg c14] at H
            have c14b1 : ((wrap64 (Int.tdiv (wrap64 (bt a0 x8_2)) 64)) != 2) = true := bne_iff_ne.mpr c14
            simp only [Option.some.injEq, Prod.mk.injEq] at H
            obtain ⟨rfl, rfl⟩ := H
            have p13 : 0 ≤ (x8_2 : Int) := of_decide_eq_true (by (with_reducible assumption))
            have q13 : x8_2 < (a0.size : Int) := of_decide_eq_true (by (with_reducible assumption))
            have hx13 := bt_at a0 x8_2
            replace p13 := eq_true p13
            replace q13 := eq_true q13
            go_wp2
            go_ret2
            exact ⟨by rfl, by repeat (first | exact Drawn0.refl _ | apply Drawn0.step)⟩
          ·rw [if_neg c12] at H
           exact absurd H (by simp)
         ·rw [if_neg c11] at H
          exact absurd H (by simp)
        ·rw [if_neg c10] at H
         have c10b0 : decide (x8_2 < x5_4) = false := decide_eq_false c10
         clear c10
         by_cases c16 : x6_2 < x7_4
         ·rw [if_pos c16] at H
          have c16b0 : decide (x6_2 < x7_4) = true := decide_eq_true c16
          clear c16
          simp only [Option.some.injEq, Prod.mk.injEq] at H
          obtain ⟨rfl, rfl⟩ := H
          go_wp2
          go_ret2
          exact ⟨by rfl, by repeat (first | exact Drawn0.refl _ | apply Drawn0.step)⟩
         ·rw [if_neg c16] at H
          have c16b0 : decide (x6_2 < x7_4) = false := decide_eq_false c16
          clear c16
          by_cases c17 : x6_2 > 1114111
          ·rw [if_pos c17] at H
           have c17b0 : decide (1114111 < x6_2) = true := decide_eq_true c17
           clear c17
           simp only [Option.some.injEq, Prod.mk.injEq] at H
           obtain ⟨rfl, rfl⟩ := H
           go_wp2
           go_ret2
           exact ⟨by rfl, by repeat (first | exact Drawn0.refl _ | apply Drawn0.step)⟩
          ·rw [if_neg c17] at H
           have c17b0 : decide (1114111 < x6_2) = false := decide_eq_false c17
           clear c17
           replace H := Option.bind_eq_some_iff.mp H
           obtain ⟨t116, A180, H⟩ := H
           replace H : (if t116 = true then (some (0, 0)) else (some (x6_2, x5_4))) = some (r1, r2) := H
           have A18 := Aside0.mk A180
           clear A180
           by_cases c19 : t116 = true
           ·subst c19
            have H1 : (some (0, 0)) = some (r1, r2) := by rw [if_pos rfl] at H; exact H
            clear H
            have H := H1
            clear H1
            simp only [Option.some.injEq, Prod.mk.injEq] at H
            obtain ⟨rfl, rfl⟩ := H
            go_wp2_with ((go_at_call 48; (with_reducible refine (spec_l1Between.calls x6_2 55296 57343 true _ A18.out).mono ?_); rintro e w' ⟨rfl, ⟨nd, rfl⟩⟩))
            go_ret2
            exact ⟨by rfl, by repeat (first | exact Drawn0.refl _ | apply Drawn0.step)⟩
           ·replace c19 := Bool.eq_false_iff.mpr c19
            subst c19
            have H1 : (some (x6_2, x5_4)) = some (r1, r2) := by rw [if_neg (show ¬ (false = true) by decide)] at H; exact H
            clear H
            have H := H1
            clear H1
            simp only [Option.some.injEq, Prod.mk.injEq] at H
            obtain ⟨rfl, rfl⟩ := H
            go_wp2_with ((go_at_call 48; (with_reducible refine (spec_l1Between.calls x6_2 55296 57343 false _ A18.out).mono ?_); rintro e w' ⟨rfl, ⟨nd, rfl⟩⟩))
            go_ret2
            exact ⟨by rfl, by repeat (first | exact Drawn0.refl _ | apply Drawn0.step)⟩
 ·rw [if_neg c2] at H
  exact absurd H (by simp)
/-! ### spec_l3Value: function 92 -/
mutual
def spec_l3Value.l0 : Nat → ByteArray → List Int → Int → Option (Int)
 | 0, _, _, _ => none
 | k + 1, x0, x3, x4 => if x4 < (x0.size : Int) then (if 0 ≤ x4 then (if x4 ≤ (x0.size : Int) then ((spec_l3Rune.f k (x0.extract (x4 : Int).toNat x0.size)).bind fun bt120 => (if bt120.2 = 0 then (some 42) else (if x3.length < 17592186044416 then (spec_l3Value.l0 k x0 (x3 ++ [bt120.1]) (wrap64 (x4 + bt120.2))) else (none)))) else (none)) else (none)) else (if (x3.length : Int) > 128 then (some 43) else (spec_l3Value.l1 k x3 (x3.length : Int) 0))
def spec_l3Value.l1 : Nat → List Int → Int → Int → Option (Int)
 | 0, _, _, _ => none
 | k + 1, x33, x34, x35 => if x35 < x34 then (if 0 ≤ x35 then (if x35 < (x33.length : Int) then (if (rd x33 x35) < 32 then (some 44) else ((spec_l1Between.f (rd x33 x35) 127 159).bind fun t126 => (if t126 = true then (some 44) else (spec_l3Value.l1 k x33 x34 (wrap64 (x35 + 1)))))) else (none)) else (none)) else (some 0)
end
def spec_l3Value.f (k : Nat) (a0 : ByteArray) : Option (Int) := spec_l3Value.l0 k a0 (([] : List Int)) 0
theorem spec_l3Value.mono_l : ∀ k, (∀ y0 y1 y2, LeO (spec_l3Value.l0 k y0 y1 y2) (spec_l3Value.l0 (k + 1) y0 y1 y2)) ∧ (∀ y0 y1 y2, LeO (spec_l3Value.l1 k y0 y1 y2) (spec_l3Value.l1 (k + 1) y0 y1 y2))
 | 0 => ⟨fun _ _ _ r h => by simp [spec_l3Value.l0] at h, fun _ _ _ r h => by simp [spec_l3Value.l1] at h⟩
 | k + 1 => by
  obtain ⟨ih0, ih1⟩ := spec_l3Value.mono_l k
  refine ⟨?_, ?_⟩
  ·intro y0 y1 y2
   unfold spec_l3Value.l0
   repeat' first
   | (with_reducible exact ih0 _ _ _)
   | (with_reducible exact ih1 _ _ _)
   | (with_reducible exact spec_l3Rune.mono _ _)
   | (with_reducible exact LeO.refl _)
   | (with_reducible refine LeO.ite ?_ ?_)
   | (with_reducible refine LeO.bind ?_ (fun _ => ?_))
  ·intro y0 y1 y2
   unfold spec_l3Value.l1
   repeat' first
   | (with_reducible exact ih1 _ _ _)
   | (with_reducible exact LeO.refl _)
   | (with_reducible refine LeO.ite ?_ ?_)
   | (with_reducible refine LeO.bind ?_ (fun _ => ?_))
theorem spec_l3Value.mono : ∀ a0 k, LeO (spec_l3Value.f k a0) (spec_l3Value.f (k + 1) a0) := by
 intro a0 k
 obtain ⟨ih0, ih1⟩ := spec_l3Value.mono_l k
 unfold spec_l3Value.f
 repeat' (with_reducible exact ih0 _ _ _)
set_option maxHeartbeats 8000000 in
set_option maxRecDepth 100000 in
theorem spec_l3Value.calls (k : Nat) (a0 : ByteArray) (r : Int) (w : World) (h : spec_l3Value.f k a0 = some r) :
  Calls Tryz.prog 92 #[.string a0] w fun e w' => e = .returned (.int .i64 r) ∧ Below w.heap.size w w' := by
 have HB := Aside0.mk (Below.refl w.heap.size w)
 have H : (spec_l3Value.l0 k a0 (([] : List Int)) 0) = some r := h
 clear h
 obtain ⟨y117, hy117⟩ : ∃ y_ : List Int, y_ = (([] : List Int)) := ⟨_, rfl⟩
 replace H : (spec_l3Value.l0 k a0 y117 0) = some r := by (rw [hy117]; with_reducible exact H)
 have Ny117 := Aside0.mk hy117
 clear hy117
 have H' := Aside0.mk H
 clear H
 go_enter Tryz.func92, Tryz.ntmps92
 go_wp2_with (((with_reducible refine gate_dst (N := 9) rfl ?_); refine Kd.R_lit (Kd.int .i64) _ 3 ?hg (N := 9) ?hd (xs := ([] : List Int)) (inner := []) (ok := fun _ => True) (okp := fun _ => True) ?hr ?hp (fun _ hk => hk) trivial (Below.refl _ _) (Nat.le_refl _) (by simp) ?_; (case hd => rfl); (case hg => rfl); (case hr => (go_simp; done)); (case hp => exact (Reps.none _ _)); intro v118 w2 ho3 hb hg_ hnew_; clear hg_ hnew_; (rw [← Ny117.out] at ho3); have n0_ := Aside0.mk (Kd.R_lower ho3 (below_size (by repeat ((with_reducible exact HB.out))))); have n1_ := Aside0.mk (below_step (by repeat ((with_reducible exact HB.out))) hb); clear HB; have HO119 := n0_; have HB := n1_; clear n0_ n1_; clear hb ho3))
 go_loopg [3, 4] k (fun kq v3 v4 w' => ∃ (x3_1 : List Int) (x4_1 : Int), v4 = .int .i64 x4_1 ∧ Aside0 (spec_l3Value.l0 kq a0 x3_1 x4_1 = some r) ∧ Aside0 (kq ≤ k) ∧ Aside0 (Kd.R (Kd.int .i64) 3 w' w.heap.size (fun _ => True) v3 x3_1) ∧ Aside0 (Below w.heap.size w w'))
 case atStart => exact ⟨(y117), (0), (by rfl), H', ⟨Nat.le_refl _⟩, ⟨by (with_reducible repeat (first | apply Kd.R_alloc | apply Kd.R_drewN | apply Kd.R_drew)); exact HO119.out⟩, ⟨by repeat ((with_reducible exact HB.out))⟩⟩
 case round =>
  clear H'
  obtain ⟨x3_1, x4_1, rfl, HA, HK1, HO_3, HB⟩ := hrel
  cases gk with
  | zero => exact absurd HA.out (by simp [spec_l3Value.l0])
  | succ k1 =>
   have H := HA.out
   clear HA
   simp only [spec_l3Value.l0] at H
   by_cases c4 : x4_1 < (a0.size : Int)
   ·rw [if_pos c4] at H
    have c4b0 : decide (x4_1 < (a0.size : Int)) = true := decide_eq_true c4
    clear c4
    by_cases c5 : 0 ≤ x4_1
    ·rw [if_pos c5] at H
     have c5b0 := eq_true c5
     clear c5
     by_cases c6 : x4_1 ≤ (a0.size : Int)
     ·rw [if_pos c6] at H
      have c6b0 := eq_true c6
      clear c6
      replace H := Option.bind_eq_some_iff.mp H
      obtain ⟨⟨t120, t121⟩, A70, H⟩ := H
      replace H : (if t121 = 0 then (some 42) else (if x3_1.length < 17592186044416 then (spec_l3Value.l0 k1 a0 (x3_1 ++ [t120]) (wrap64 (x4_1 + t121))) else (none))) = some r := H
      have A7 := Aside0.mk A70
      clear A70
      by_cases c8 : t121 = 0
      ·rw [if_pos c8] at H
       have c8b0 : (t121 == 0) = true := beq_iff_eq.mpr c8
       clear c8
       obtain rfl := Option.some.inj H
       go_wp2_with (((with_reducible refine gate_callee (f := 141) rfl ?_); refine goesL_ (some 18) rfl rfl Tryz.func141 (by kernel_rfl) rfl #[.string (a0.extract (x4_1 : Int).toNat a0.size)] rfl (by (try simp only [List.map_toArray, List.map_cons, List.map_nil]); first | done | rfl) ?_; (with_reducible refine (spec_l3Rune.calls k1 (a0.extract (x4_1 : Int).toNat a0.size) t120 t121 _ A7.out).mono ?_); rintro e w' ⟨rfl, ⟨nd, rfl⟩⟩; refine ⟨_, rfl, ?_⟩))
       go_ret
       exact ⟨by rfl, by repeat ((with_reducible first | exact HB.out | apply pw_below_drewN))⟩
      ·rw [if_neg c8] at H
       have c8b0 : (t121 == 0) = false := beq_eq_false_iff_ne.mpr c8
       by_cases c9 : x3_1.length < 17592186044416
       ·rw [if_pos c9] at H
        have LMc9 := Aside0.mk c9
        clear c9
        obtain ⟨y122, hy122⟩ : ∃ y_ : List Int, y_ = (x3_1 ++ [t120]) := ⟨_, rfl⟩
        replace H : (spec_l3Value.l0 k1 a0 y122 (wrap64 (x4_1 + t121))) = some r := by (rw [hy122]; with_reducible exact H)
        have Ny122 := Aside0.mk hy122
        clear hy122
        have H' := Aside0.mk H
        clear H
        go_wp2_with (first | ((with_reducible refine gate_callee (f := 141) rfl ?_); refine goesL_ (some 18) rfl rfl Tryz.func141 (by kernel_rfl) rfl #[.string (a0.extract (x4_1 : Int).toNat a0.size)] rfl (by (try simp only [List.map_toArray, List.map_cons, List.map_nil]); first | done | rfl) ?_; (with_reducible refine (spec_l3Rune.calls k1 (a0.extract (x4_1 : Int).toNat a0.size) t120 t121 _ A7.out).mono ?_); rintro e w' ⟨rfl, ⟨nd, rfl⟩⟩; refine ⟨_, rfl, ?_⟩) | ((with_reducible refine gate_builtin (b := .append) (xs := #[.tmp 23, .tmp 25]) rfl ?_); at_builtin; refine Kd.R_append (Kd.int .i64) (w0 := w) w.heap.size rfl (.tmp 23) (.tmp 25) 59 3 (.int .i64 0) 8 rfl Tryz.underlying59 info3 rfl (by decide) (by omega) u3 x3_1 t120 [.int .i64 t120] (fun _ => True) (fun _ => False) rfl rfl ?aP (fun _ hk => hk.elim) ?aF ?aO ?aB ?aS ?aL ?_; (case aP => exact rfl); (case aB => exact (by repeat ((with_reducible first | exact HB.out | apply pw_below_drewN)))); (case aF => exact (fun _ _ => trivial)); (case aO => exact (by (with_reducible repeat (apply Kd.R_drewN)); exact HO_3.out)); (case aS => exact (below_size (by repeat ((with_reducible first | exact HB.out | apply pw_below_drewN))))); (case aL => have := LMc9.out; omega); intro v123 w10 ho hb hg hat; rw [← Ny122.out] at ho; have n0_ := Aside0.mk (hb); have n1_ := Aside0.mk (ho); clear HB; clear HO_3; have HB := n0_; have HO124 := n1_; clear n0_ n1_; clear ho hb hg hat))
        go_roundg k1
        case measure => have := HK1.out; omega
        case rel => exact ⟨(y122), (wrap64 (x4_1 + t121)), (by rfl), H', ⟨by have := HK1.out; omega⟩, ⟨by (with_reducible repeat (first | apply Kd.R_alloc | apply Kd.R_drewN | apply Kd.R_drew)); exact HO124.out⟩, ⟨by repeat ((with_reducible exact HB.out))⟩⟩
       ·rw [if_neg c9] at H
        exact absurd H (by simp)
     ·rw [if_neg c6] at H
      exact absurd H (by simp)
    ·rw [if_neg c5] at H
     exact absurd H (by simp)
   ·rw [if_neg c4] at H
    have c4b0 : decide (x4_1 < (a0.size : Int)) = false := decide_eq_false c4
    clear c4
    by_cases c11 : (x3_1.length : Int) > 128
    ·rw [if_pos c11] at H
     have c11b0 : decide (128 < (x3_1.length : Int)) = true := decide_eq_true c11
     clear c11
     obtain rfl := Option.some.inj H
     obtain ⟨Ao12, co12, eo12⟩ := Kd.R_slice HO_3.out
     subst eo12
     go_wp2
     go_ret
     exact ⟨by rfl, by repeat ((with_reducible exact HB.out))⟩
    ·rw [if_neg c11] at H
     have c11b0 : decide (128 < (x3_1.length : Int)) = false := decide_eq_false c11
     clear c11
     have H' := Aside0.mk H
     clear H
     obtain ⟨Ao13, co13, eo13⟩ := Kd.R_slice HO_3.out
     subst eo13
     go_wp2
     go_loopg [35] k1 (fun kq v35 w' => ∃ (x35_2 : Int), v35 = .int .i64 x35_2 ∧ Aside0 (spec_l3Value.l1 kq x3_1 (x3_1.length : Int) x35_2 = some r) ∧ Aside0 (kq ≤ k1) ∧ Aside0 (Kd.R (Kd.int .i64) 3 w' w.heap.size (fun _ => True) (.slice Ao13 x3_1.length co13) x3_1) ∧ Aside0 (Below w.heap.size w w'))
     case atStart => exact ⟨(0), (by rfl), H', ⟨Nat.le_refl _⟩, ⟨by (with_reducible repeat (first | apply Kd.R_alloc | apply Kd.R_drewN | apply Kd.R_drew)); exact HO_3.out⟩, ⟨by repeat ((with_reducible exact HB.out))⟩⟩
     case round =>
      clear H'
      try clear c4b0
      try clear c11b0
      obtain ⟨x35_2, rfl, HA, HK2, HO_33, HB⟩ := hrel
      cases gk with
      | zero => exact absurd HA.out (by simp [spec_l3Value.l1])
      | succ k2 =>
       have H := HA.out
       clear HA
       simp only [spec_l3Value.l1] at H
       by_cases c14 : x35_2 < (x3_1.length : Int)
       ·rw [if_pos c14] at H
        clear c14
        by_cases c15 : 0 ≤ x35_2
        ·rw [if_pos c15] at H
         have c15b0 : decide (0 ≤ x35_2) = true := decide_eq_true c15
         clear c15
         by_cases c16 : x35_2 < (x3_1.length : Int)
         ·rw [if_pos c16] at H
          have c16b0 : decide (x35_2 < (x3_1.length : Int)) = true := decide_eq_true c16
          clear c16
          by_cases c17 : (rd x3_1 x35_2) < 32
          ·rw [if_pos c17] at H
           have c17b0 : decide ((rd x3_1 x35_2) < 32) = true := decide_eq_true c17
           clear c17
           obtain rfl := Option.some.inj H
           have p125 : 0 ≤ (x35_2 : Int) := of_decide_eq_true (by (with_reducible assumption))
           have q125 : x35_2 < (x3_1.length : Int) := of_decide_eq_true (by (with_reducible assumption))
           obtain ⟨ad125, e125, hx125_0⟩ := Kd.at_int (Kd.R_reads' HO_33.out).2.2 x35_2 p125 q125
           cases e125
           replace p125 := eq_true p125
           replace q125 := eq_true q125
           go_wp2
           go_ret
           exact ⟨by rfl, by repeat ((with_reducible exact HB.out))⟩
          ·rw [if_neg c17] at H
           have c17b0 : decide ((rd x3_1 x35_2) < 32) = false := decide_eq_false c17
           clear c17
           replace H := Option.bind_eq_some_iff.mp H
           obtain ⟨t126, A180, H⟩ := H
           replace H : (if t126 = true then (some 44) else (spec_l3Value.l1 k2 x3_1 (x3_1.length : Int) (wrap64 (x35_2 + 1)))) = some r := H
           have A18 := Aside0.mk A180
           clear A180
           by_cases c19 : t126 = true
           ·subst c19
            have H1 : (some 44) = some r := by rw [if_pos rfl] at H; exact H
            clear H
            have H := H1
            clear H1
            obtain rfl := Option.some.inj H
            have p125 : 0 ≤ (x35_2 : Int) := of_decide_eq_true (by (with_reducible assumption))
            have q125 : x35_2 < (x3_1.length : Int) := of_decide_eq_true (by (with_reducible assumption))
            obtain ⟨ad125, e125, hx125_0⟩ := Kd.at_int (Kd.R_reads' HO_33.out).2.2 x35_2 p125 q125
            cases e125
            replace p125 := eq_true p125
            replace q125 := eq_true q125
            go_wp2_with ((go_at_call 48; (with_reducible refine (spec_l1Between.calls (rd x3_1 x35_2) 127 159 true _ A18.out).mono ?_); rintro e w' ⟨rfl, ⟨nd, rfl⟩⟩))
            go_ret
            exact ⟨by rfl, by repeat ((with_reducible first | exact HB.out | apply pw_below_drewN))⟩
           ·replace c19 := Bool.eq_false_iff.mpr c19
            subst c19
            have H1 : (spec_l3Value.l1 k2 x3_1 (x3_1.length : Int) (wrap64 (x35_2 + 1))) = some r := by rw [if_neg (show ¬ (false = true) by decide)] at H; exact H
            clear H
            have H := H1
            clear H1
            have H' := Aside0.mk H
            clear H
            have p125 : 0 ≤ (x35_2 : Int) := of_decide_eq_true (by (with_reducible assumption))
            have q125 : x35_2 < (x3_1.length : Int) := of_decide_eq_true (by (with_reducible assumption))
            obtain ⟨ad125, e125, hx125_0⟩ := Kd.at_int (Kd.R_reads' HO_33.out).2.2 x35_2 p125 q125
            cases e125
            replace p125 := eq_true p125
            replace q125 := eq_true q125
            go_wp2_with ((go_at_call 48; (with_reducible refine (spec_l1Between.calls (rd x3_1 x35_2) 127 159 false _ A18.out).mono ?_); rintro e w' ⟨rfl, ⟨nd, rfl⟩⟩))
            go_roundg k2
            case measure => have := HK1.out; have := HK2.out; omega
            case rel => exact ⟨(wrap64 (x35_2 + 1)), (by rfl), H', ⟨by have := HK1.out; have := HK2.out; omega⟩, ⟨by (with_reducible repeat (apply Kd.R_drewN)); exact HO_33.out⟩, ⟨by repeat ((with_reducible first | exact HB.out | apply pw_below_drewN))⟩⟩
         ·rw [if_neg c16] at H
          exact absurd H (by simp)
        ·rw [if_neg c15] at H
         exact absurd H (by simp)
       ·rw [if_neg c14] at H
        have c14b0 : decide (x35_2 < (x3_1.length : Int)) = false := decide_eq_false c14
        clear c14
        obtain rfl := Option.some.inj H
        go_wp2
        go_ret
        exact ⟨by rfl, by repeat ((with_reducible exact HB.out))⟩
end Go.Proofs.YtikbfjnbhogihaaGreatDoor.M
