import Derived.Test.YtikbfjnbhogihaaGreatDoorM0
import Derived.Test.YtikbfjnbhogihaaGreatDoorXJoin
import Derived.Test.YtikbfjnbhogihaaGreatDoorF136
import Derived.Test.YtikbfjnbhogihaaGreatDoorF168
import Derived.Test.YtikbfjnbhogihaaGreatDoorF134
namespace Go.Proofs.YtikbfjnbhogihaaGreatDoor.M
open Go.RowKit Go.Proofs.YtikbfjnbhogihaaGreatDoorW.PrintWords Go.Proofs.YtikbfjnbhogihaaGreatDoorW.PrintLast Go.Proofs.YtikbfjnbhogihaaGreatDoorW.PrintMore
attribute [local go_sem] max2_int min2_int max_two min_two max_three min_three max_four min_four
set_option linter.unusedVariables false
set_option linter.unusedSimpArgs false
/-! ### laws_eqMetricLimitS: function 151 -/
def laws_eqMetricLimitS.l0 : Nat → List (S91) → List (S91) → Int → Option (Bool)
 | 0, _, _, _ => none
 | k + 1, x0, x1, x5 => if x5 < (x0.length : Int) then (if 0 ≤ x5 then (if x5 < (x1.length : Int) then ((laws_eqMetricLimit.f ((rd_T91 x0 x5).f0) ((rd_T91 x0 x5).f1) ((rd_T91 x1 x5).f0) ((rd_T91 x1 x5).f1)).bind fun t321 => (if t321 = true then (laws_eqMetricLimitS.l0 k x0 x1 (wrap64 (x5 + 1))) else (some false))) else (none)) else (none)) else (some true)
def laws_eqMetricLimitS.f (k : Nat) (l0 : List (S91)) (l1 : List (S91)) : Option (Bool) := if (l0.length : Int) = (l1.length : Int) then (laws_eqMetricLimitS.l0 k l0 l1 0) else (some false)
theorem laws_eqMetricLimitS.mono_l : ∀ k, (∀ y0 y1 y2, LeO (laws_eqMetricLimitS.l0 k y0 y1 y2) (laws_eqMetricLimitS.l0 (k + 1) y0 y1 y2))
 | 0 => fun _ _ _ r h => by simp [laws_eqMetricLimitS.l0] at h
 | k + 1 => by
  have ih0 := laws_eqMetricLimitS.mono_l k
  ·intro y0 y1 y2
   unfold laws_eqMetricLimitS.l0
   repeat' first
   | (with_reducible exact ih0 _ _ _)
   | (with_reducible exact LeO.refl _)
   | (with_reducible refine LeO.ite ?_ ?_)
   | (with_reducible refine LeO.bind ?_ (fun _ => ?_))
theorem laws_eqMetricLimitS.mono : ∀ a0 a1 k, LeO (laws_eqMetricLimitS.f k a0 a1) (laws_eqMetricLimitS.f (k + 1) a0 a1) := by
 intro a0 a1 k
 have ih0 := laws_eqMetricLimitS.mono_l k
 unfold laws_eqMetricLimitS.f
 repeat' first
   | (with_reducible exact ih0 _ _ _)
   | (with_reducible exact LeO.refl _)
   | (with_reducible refine LeO.ite ?_ ?_)
def laws_eqMetricLimitS.T6 : Bool × List (List Nat × List Nat) := (true, [([], []), ([], []), ([0, 1], [0, 1]), ([2], [2]), ([], []), ([], []), ([4, 5], [4, 5]), ([6], [6]), ([3, 7], [3, 7]), ([8], [8])])
def laws_eqMetricLimitS.B6 : List Nat := [0, 0, 3, 7, 0, 0, 48, 112, 255, 511]
theorem laws_eqMetricLimitS.tab6 : rtab .any (opsOf Tryz.f151 6) = laws_eqMetricLimitS.T6 := by kernel_rfl
theorem laws_eqMetricLimitS.bits6 : waitsOk laws_eqMetricLimitS.T6.2 laws_eqMetricLimitS.B6 = true := by kernel_rfl
set_option maxHeartbeats 8000000 in
set_option maxRecDepth 100000 in
theorem laws_eqMetricLimitS.calls (k : Nat) (A0 : Option Addr) (c0 : Nat) (l0 : List (S91)) (A1 : Option Addr) (c1 : Nat) (l1 : List (S91)) (r : Bool) (w : World) (hr0 : Kd.C k91 w A0 l0.length l0) (hc0 : l0.length ≤ c0) (hr1 : Kd.C k91 w A1 l1.length l1) (hc1 : l1.length ≤ c1) (h : laws_eqMetricLimitS.f k l0 l1 = some r) :
  Calls Tryz.prog 151 #[.slice A0 l0.length c0, .slice A1 l1.length c1] w fun e w' => e = .returned (.bool r) ∧ Below w.heap.size w w' := by
 have HR0 := Aside0.mk hr0
 clear hr0 hc0
 have HR1 := Aside0.mk hr1
 clear hr1 hc1
 have HB := Aside0.mk (Below.refl w.heap.size w)
 have H : (if (l0.length : Int) = (l1.length : Int) then (laws_eqMetricLimitS.l0 k l0 l1 0) else (some false)) = some r := h
 clear h
 by_cases c3 : (l0.length : Int) = (l1.length : Int)
 ·rw [if_pos c3] at H
  have c3b1 : ((l0.length : Int) != (l1.length : Int)) = false := bne_eq_false_iff_eq.mpr c3
  clear c3
  have H' := Aside0.mk H
  clear H
  go_enter Tryz.func151, Tryz.ntmps151
  go_wp2
  go_loopg [5] k (fun kq v5 w' => ∃ (x5_1 : Int), v5 = .int .i64 x5_1 ∧ Aside0 (laws_eqMetricLimitS.l0 kq l0 l1 x5_1 = some r) ∧ Aside0 (kq ≤ k) ∧ Aside0 (Below w.heap.size w w'))
  case atStart => exact ⟨(0), (by rfl), H', ⟨Nat.le_refl _⟩, ⟨by repeat ((with_reducible exact HB.out))⟩⟩
  case round =>
   clear H'
   try clear c3b1
   obtain ⟨x5_1, rfl, HA, HK1, HB⟩ := hrel
   cases gk with
   | zero => exact absurd HA.out (by simp [laws_eqMetricLimitS.l0])
   | succ k1 =>
    have H := HA.out
    clear HA
    simp only [laws_eqMetricLimitS.l0] at H
    by_cases c4 : x5_1 < (l0.length : Int)
    ·rw [if_pos c4] at H
     have c4b0 : decide (x5_1 < (l0.length : Int)) = true := decide_eq_true c4
     clear c4
     by_cases c5 : 0 ≤ x5_1
     ·rw [if_pos c5] at H
      have c5b0 : decide (0 ≤ x5_1) = true := decide_eq_true c5
      clear c5
      by_cases c6 : x5_1 < (l1.length : Int)
      ·rw [if_pos c6] at H
       have c6b0 : decide (x5_1 < (l1.length : Int)) = true := decide_eq_true c6
       clear c6
       replace H := Option.bind_eq_some_iff.mp H
       obtain ⟨t321, A70, H⟩ := H
       replace H : (if t321 = true then (laws_eqMetricLimitS.l0 k1 l0 l1 (wrap64 (x5_1 + 1))) else (some false)) = some r := H
       have A7 := Aside0.mk A70
       clear A70
       by_cases c8 : t321 = true
       ·subst c8
        have H1 : (laws_eqMetricLimitS.l0 k1 l0 l1 (wrap64 (x5_1 + 1))) = some r := by rw [if_pos rfl] at H; exact H
        clear H
        have H := H1
        clear H1
        have H' := Aside0.mk H
        clear H
        try go_wp2
        have n0_ := Aside0.mk (below_drew1 HB.out)
        clear HB
        have HB := n0_
        clear n0_
        have p319 : 0 ≤ (x5_1 : Int) := of_decide_eq_true (by (with_reducible assumption))
        have q319 : x5_1 < (l0.length : Int) := of_decide_eq_true (by (with_reducible assumption))
        obtain ⟨ad319, e319, hx319_0, hx319_1⟩ := at_T91 HR0.out x5_1 p319 q319
        have hw319_1 := hx319_1
        have hw319_0 := hx319_0
        cases e319
        replace hx319_0 := (HB.out.cell (World.block_lt_of_cell? w _ hx319_0)).trans hx319_0
        replace hx319_1 := (HB.out.cell (World.block_lt_of_cell? w _ hx319_1)).trans hx319_1
        replace p319 := eq_true p319
        replace q319 := eq_true q319
        have p320 : 0 ≤ (x5_1 : Int) := of_decide_eq_true (by (with_reducible assumption))
        have q320 : x5_1 < (l1.length : Int) := of_decide_eq_true (by (with_reducible assumption))
        obtain ⟨ad320, e320, hx320_0, hx320_1⟩ := at_T91 HR1.out x5_1 p320 q320
        have hw320_1 := hx320_1
        have hw320_0 := hx320_0
        cases e320
        replace hx320_0 := (HB.out.cell (World.block_lt_of_cell? w _ hx320_0)).trans hx320_0
        replace hx320_1 := (HB.out.cell (World.block_lt_of_cell? w _ hx320_1)).trans hx320_1
        replace q320 := eq_true q320
        refine start_ (n := 10) (S := fun w' => w'.cell? (ad319.add ((x5_1).toNat * 2)) = some (.string ((rd_T91 l0 x5_1).f0)) ∧ w'.cell? ⟨(ad319.add ((x5_1).toNat * 2)).block, (ad319.add ((x5_1).toNat * 2)).off + 1, none⟩ = some (.int .i64 ((rd_T91 l0 x5_1).f1)) ∧ w'.cell? (ad320.add ((x5_1).toNat * 2)) = some (.string ((rd_T91 l1 x5_1).f0)) ∧ w'.cell? ⟨(ad320.add ((x5_1).toNat * 2)).block, (ad320.add ((x5_1).toNat * 2)).off + 1, none⟩ = some (.int .i64 ((rd_T91 l1 x5_1).f1))) (ds := []) #[false, false, false, false, false, false, false, false, false, false] (by kernel_rfl) rfl rfl ⟨((HB.out.cell (World.block_lt_of_cell? w _ hw319_0)).trans hw319_0), ((HB.out.cell (World.block_lt_of_cell? w _ hw319_1)).trans hw319_1), ((HB.out.cell (World.block_lt_of_cell? w _ hw320_0)).trans hw320_0), ((HB.out.cell (World.block_lt_of_cell? w _ hw320_1)).trans hw320_1)⟩ (fun hHeld => ?_); refine with_tabW laws_eqMetricLimitS.tab6 laws_eqMetricLimitS.bits6 (fun HT_ HW_ => ?_)
        generalize wr.drew = w9 at HB hx319_0 hx319_1 hx320_0 hx320_1 hHeld ⊢
        refine Bk.pu_ 0 (some 17) (h := ?_)
        refine Bk.pu_ 1 (some 18) (h := ?_)
        refine Bk.pu_ 2 (some 19) (h := ?_)
        refine Bk.pu_ 4 (some 21) (h := ?_)
        refine Bk.pu_ 5 (some 22) (h := ?_)
        refine Bk.pu_ 6 (some 23) (h := ?_)
        refine Bk.tk_ 3 (some 20) (hy := by rintro w' ⟨s0, s1, s2, s3⟩; go_simp; with_reducible rfl) (hS := hHeld) (h := ?_)
        refine Bk.tk_ 7 (some 24) (hy := by rintro w' ⟨s0, s1, s2, s3⟩; go_simp; with_reducible rfl) (hS := hHeld) (h := ?_)
        refine one_ (i := 8) (N := some 25) #[true, true, true, true, true, true, true, true, true, false] rfl rfl (one_of HT_.out (by kernel_rfl)) (by decide) (fun K hK => ?_)
        refine goes_ Tryz.func171 (by kernel_rfl) rfl #[.agg #[.string ((rd_T91 l0 x5_1).f0), .int .i64 ((rd_T91 l0 x5_1).f1)], .agg #[.string ((rd_T91 l1 x5_1).f0), .int .i64 ((rd_T91 l1 x5_1).f1)]] (by rfl) rfl rfl (by (try simp only [List.map_toArray, List.map_cons, List.map_nil]); first | done | rfl) ?_
        with_reducible refine (laws_eqMetricLimit.calls ((rd_T91 l0 x5_1).f0) ((rd_T91 l0 x5_1).f1) ((rd_T91 l1 x5_1).f0) ((rd_T91 l1 x5_1).f1) true _ A7.out).mono ?_
        rintro e w10 ⟨rfl, hb⟩
        refine ⟨_, rfl, ?_⟩
        have n0_ := Aside0.mk (below_step (by repeat ((with_reducible exact HB.out))) hb)
        clear HB
        have HB := n0_
        clear n0_
        (try clear hb)
        refine hK.out _ _ ⟨((HB.out.cell (World.block_lt_of_cell? w _ hw319_0)).trans hw319_0), ((HB.out.cell (World.block_lt_of_cell? w _ hw319_1)).trans hw319_1), ((HB.out.cell (World.block_lt_of_cell? w _ hw320_0)).trans hw320_0), ((HB.out.cell (World.block_lt_of_cell? w _ hw320_1)).trans hw320_1)⟩ (fun hHeld => ?_)
        clear hK K
        refine Bk.nm_ (some 25) _ (h := ?_)
        refine Bk.pu_ 9 (some 26) (h := ?_)
        refine done_ (done_of HT_.out (by kernel_rfl)) ?_
        try go_wp2
        go_roundg k1
        case measure => have := HK1.out; omega
        case rel => exact ⟨(wrap64 (x5_1 + 1)), (by rfl), H', ⟨by have := HK1.out; omega⟩, ⟨by repeat ((with_reducible exact HB.out))⟩⟩
       ·replace c8 := Bool.eq_false_iff.mpr c8
        subst c8
        have H1 : (some false) = some r := by rw [if_neg (show ¬ (false = true) by decide)] at H; exact H
        clear H
        have H := H1
        clear H1
        obtain rfl := Option.some.inj H
        try go_wp2
        have n0_ := Aside0.mk (below_drew1 HB.out)
        clear HB
        have HB := n0_
        clear n0_
        have p319 : 0 ≤ (x5_1 : Int) := of_decide_eq_true (by (with_reducible assumption))
        have q319 : x5_1 < (l0.length : Int) := of_decide_eq_true (by (with_reducible assumption))
        obtain ⟨ad319, e319, hx319_0, hx319_1⟩ := at_T91 HR0.out x5_1 p319 q319
        have hw319_1 := hx319_1
        have hw319_0 := hx319_0
        cases e319
        replace hx319_0 := (HB.out.cell (World.block_lt_of_cell? w _ hx319_0)).trans hx319_0
        replace hx319_1 := (HB.out.cell (World.block_lt_of_cell? w _ hx319_1)).trans hx319_1
        replace p319 := eq_true p319
        replace q319 := eq_true q319
        have p320 : 0 ≤ (x5_1 : Int) := of_decide_eq_true (by (with_reducible assumption))
        have q320 : x5_1 < (l1.length : Int) := of_decide_eq_true (by (with_reducible assumption))
        obtain ⟨ad320, e320, hx320_0, hx320_1⟩ := at_T91 HR1.out x5_1 p320 q320
        have hw320_1 := hx320_1
        have hw320_0 := hx320_0
        cases e320
        replace hx320_0 := (HB.out.cell (World.block_lt_of_cell? w _ hx320_0)).trans hx320_0
        replace hx320_1 := (HB.out.cell (World.block_lt_of_cell? w _ hx320_1)).trans hx320_1
        replace q320 := eq_true q320
        refine start_ (n := 10) (S := fun w' => w'.cell? (ad319.add ((x5_1).toNat * 2)) = some (.string ((rd_T91 l0 x5_1).f0)) ∧ w'.cell? ⟨(ad319.add ((x5_1).toNat * 2)).block, (ad319.add ((x5_1).toNat * 2)).off + 1, none⟩ = some (.int .i64 ((rd_T91 l0 x5_1).f1)) ∧ w'.cell? (ad320.add ((x5_1).toNat * 2)) = some (.string ((rd_T91 l1 x5_1).f0)) ∧ w'.cell? ⟨(ad320.add ((x5_1).toNat * 2)).block, (ad320.add ((x5_1).toNat * 2)).off + 1, none⟩ = some (.int .i64 ((rd_T91 l1 x5_1).f1))) (ds := []) #[false, false, false, false, false, false, false, false, false, false] (by kernel_rfl) rfl rfl ⟨((HB.out.cell (World.block_lt_of_cell? w _ hw319_0)).trans hw319_0), ((HB.out.cell (World.block_lt_of_cell? w _ hw319_1)).trans hw319_1), ((HB.out.cell (World.block_lt_of_cell? w _ hw320_0)).trans hw320_0), ((HB.out.cell (World.block_lt_of_cell? w _ hw320_1)).trans hw320_1)⟩ (fun hHeld => ?_); refine with_tabW laws_eqMetricLimitS.tab6 laws_eqMetricLimitS.bits6 (fun HT_ HW_ => ?_)
        generalize wr.drew = w11 at HB hx319_0 hx319_1 hx320_0 hx320_1 hHeld ⊢
        refine Bk.pu_ 0 (some 17) (h := ?_)
        refine Bk.pu_ 1 (some 18) (h := ?_)
        refine Bk.pu_ 2 (some 19) (h := ?_)
        refine Bk.pu_ 4 (some 21) (h := ?_)
        refine Bk.pu_ 5 (some 22) (h := ?_)
        refine Bk.pu_ 6 (some 23) (h := ?_)
        refine Bk.tk_ 3 (some 20) (hy := by rintro w' ⟨s0, s1, s2, s3⟩; go_simp; with_reducible rfl) (hS := hHeld) (h := ?_)
        refine Bk.tk_ 7 (some 24) (hy := by rintro w' ⟨s0, s1, s2, s3⟩; go_simp; with_reducible rfl) (hS := hHeld) (h := ?_)
        refine one_ (i := 8) (N := some 25) #[true, true, true, true, true, true, true, true, true, false] rfl rfl (one_of HT_.out (by kernel_rfl)) (by decide) (fun K hK => ?_)
        refine goes_ Tryz.func171 (by kernel_rfl) rfl #[.agg #[.string ((rd_T91 l0 x5_1).f0), .int .i64 ((rd_T91 l0 x5_1).f1)], .agg #[.string ((rd_T91 l1 x5_1).f0), .int .i64 ((rd_T91 l1 x5_1).f1)]] (by rfl) rfl rfl (by (try simp only [List.map_toArray, List.map_cons, List.map_nil]); first | done | rfl) ?_
        with_reducible refine (laws_eqMetricLimit.calls ((rd_T91 l0 x5_1).f0) ((rd_T91 l0 x5_1).f1) ((rd_T91 l1 x5_1).f0) ((rd_T91 l1 x5_1).f1) false _ A7.out).mono ?_
        rintro e w12 ⟨rfl, hb⟩
        refine ⟨_, rfl, ?_⟩
        have n0_ := Aside0.mk (below_step (by repeat ((with_reducible exact HB.out))) hb)
        clear HB
        have HB := n0_
        clear n0_
        (try clear hb)
        refine hK.out _ _ ⟨((HB.out.cell (World.block_lt_of_cell? w _ hw319_0)).trans hw319_0), ((HB.out.cell (World.block_lt_of_cell? w _ hw319_1)).trans hw319_1), ((HB.out.cell (World.block_lt_of_cell? w _ hw320_0)).trans hw320_0), ((HB.out.cell (World.block_lt_of_cell? w _ hw320_1)).trans hw320_1)⟩ (fun hHeld => ?_)
        clear hK K
        refine Bk.nm_ (some 25) _ (h := ?_)
        refine Bk.pu_ 9 (some 26) (h := ?_)
        refine done_ (done_of HT_.out (by kernel_rfl)) ?_
        try go_wp2
        go_ret
        exact ⟨by rfl, by repeat ((with_reducible exact HB.out))⟩
      ·rw [if_neg c6] at H
       exact absurd H (by simp)
     ·rw [if_neg c5] at H
      exact absurd H (by simp)
    ·rw [if_neg c4] at H
     have c4b0 : decide (x5_1 < (l0.length : Int)) = false := decide_eq_false c4
     clear c4
     obtain rfl := Option.some.inj H
     go_wp2
     go_ret
     exact ⟨by rfl, by repeat ((with_reducible exact HB.out))⟩
 ·rw [if_neg c3] at H
  have c3b1 : ((l0.length : Int) != (l1.length : Int)) = true := bne_iff_ne.mpr c3
  obtain rfl := Option.some.inj H
  go_enter Tryz.func151, Tryz.ntmps151
  go_wp2
  go_ret
  exact ⟨by rfl, by repeat ((with_reducible exact HB.out))⟩
end Go.Proofs.YtikbfjnbhogihaaGreatDoor.M
/- Numbers and texts as the two decoders read them: plain. -/
namespace Go.Proofs.YtikbfjnbhogihaaGreatDoor.DecLib
open Go.Proofs.YtikbfjnbhogihaaGreatDoor.M Go.Proofs.YtikbfjnbhogihaaGreatDoor.Loops Go.Proofs.YtikbfjnbhogihaaGreatDoor.M.Enc Go.Proofs.YtikbfjnbhogihaaGreatDoorW.PrintWords Go.Proofs.YtikbfjnbhogihaaGreatDoorW.PrintLast Go.Proofs.YtikbfjnbhogihaaGreatDoorW.PrintMore Go.RowKit
theorem or64 (v : Int) (b : Int) (h0 : 0 ≤ b) (h1 : b ≤ 255) : Go.bits .or .i64 (wrap64 (v * 256)) b = wrap64 (v * 256 + b) := by
 obtain ⟨n, rfl⟩ := Int.eq_ofNat_of_zero_le h0
 obtain ⟨x, hx⟩ : ∃ x, x = wrap64 (v * 256) % 18446744073709551616 := ⟨_, rfl⟩
 have hx2 : x % 256 = 0 := by rw [hx]; unfold wrap64; omega
 have hx3 : 0 ≤ x := by rw [hx]; exact Int.emod_nonneg _ (by decide)
 have hx4 : x < 18446744073709551616 := by rw [hx]; exact Int.emod_lt_of_pos _ (by decide)
 obtain ⟨A, hA'⟩ : ∃ A : Nat, x = (A : Int) := Int.eq_ofNat_of_zero_le hx3
 have hA : A = (wrap64 (v * 256) % 18446744073709551616).toNat := by rw [← hx, hA']; rfl
 have hm : A % 256 = 0 := by omega
 have hlt : A < 18446744073709551616 := by omega
 have h2 : n % 2 ^ 64 = n := Nat.mod_eq_of_lt (Nat.lt_of_le_of_lt (show n ≤ 255 by omega) (by decide))
 have h3 : A ||| n = A + n := by
  have := Nat.shiftLeft_add_eq_or_of_lt (i := 8) (b := n) (by omega) (A / 256)
  rw [Nat.shiftLeft_eq, show A / 256 * 2 ^ 8 = A from Nat.div_mul_cancel (Nat.dvd_of_mod_eq_zero hm)] at this
  exact this.symm
 have h4 : ((wrap64 (v * 256)) % ((2 ^ 64 : Nat) : Int)).toNat = A := by rw [hA]; rfl
 simp only [Go.bits, BitVec.ofInt_natCast, BitVec.toNat_or, BitVec.toNat_ofNat, BitVec.toNat_ofInt, show IntKind.i64.bits = 64 from rfl, h2, h4, h3]
 have h5 : (A : Int) = wrap64 (v * 256) % 18446744073709551616 := by rw [hA]; omega
 clear h4 hA h3
 unfold IntKind.wrap
 simp [IntKind.bits, IntKind.signed]
 unfold wrap64 at *
 omega
def nv (s : ByteArray) (i : Nat) : Nat → Int
 | 0 => 0
 | k + 1 => nv s i k * 256 + bt s ((i + k : Nat) : Int)
theorem nv_pos (s : ByteArray) (i k : Nat) : 0 ≤ nv s i k := by
 induction k with
 | zero => simp [nv]
 | succ k ih => have := bt_range s ((i + k : Nat) : Int); simp only [nv]; omega
theorem nv_lt1 (s : ByteArray) (i : Nat) : nv s i 1 ≤ 255 := by have := bt_range s ((i + 0 : Nat) : Int); simp only [nv]; omega
theorem nv_lt2 (s : ByteArray) (i : Nat) : nv s i 2 ≤ 65535 := by
 have h0 := bt_range s ((i + 0 : Nat) : Int)
 have h1 := bt_range s ((i + 1 : Nat) : Int)
 simp only [nv]; omega
theorem nv_le (s : ByteArray) (i k n : Nat) (hk : k ≤ n) (hn : n = 1 ∨ n = 2) : nv s i k ≤ 65535 := by
 have h0 : nv s i 0 = 0 := rfl
 have h1 := nv_lt1 s i
 have h2 := nv_lt2 s i
 rcases hn with rfl | rfl
 ·rcases (show k = 0 ∨ k = 1 by omega) with rfl | rfl <;> omega
 ·rcases (show k = 0 ∨ k = 1 ∨ k = 2 by omega) with rfl | rfl | rfl <;> omega
theorem nv_eq (s t : ByteArray) (i j : Nat) : ∀ k, (∀ q, q < k → bt s ((i + q : Nat) : Int) = bt t ((j + q : Nat) : Int)) → nv s i k = nv t j k
 | 0, _ => rfl
 | k + 1, h => by
  have h1 := nv_eq s t i j k (fun q hq => h q (by omega))
  simp only [nv]
  rw [h1, h k (by omega)]
theorem wrap0 : wrap64 0 = 0 := w_id 0 (by decide) (by decide)
theorem upto_nv (t : ByteArray) : ∀ k, SrcNum.upto t k = wrap64 (nv t 0 k)
 | 0 => wrap0.symm
 | k + 1 => by
  have hb := bt_range t (k : Int)
  rw [SrcNum.upto, upto_nv t k, show wrap64 (bt t (k : Int)) = bt t (k : Int) from w_id _ (by omega) (by omega), or64 _ _ hb.1 hb.2]
  simp only [nv, Nat.zero_add]
  generalize nv t 0 k = x
  generalize bt t (k : Int) = b at hb ⊢
  unfold wrap64; omega
theorem bt_extract (s : ByteArray) (i j k : Nat) (h : i + k < j) (hj : j ≤ s.size) : bt (s.extract i j) k = bt s ((i + k : Nat) : Int) := by
 unfold bt
 rw [dif_pos (by rw [ByteArray.size_extract, Int.toNat_natCast]; omega), dif_pos (by rw [Int.toNat_natCast]; omega)]
 simp only [Int.toNat_natCast, ByteArray.getElem_extract]
/-! ### the program's reader -/
theorem text_f (r : ByteArray) (n : Int) (h : 0 ≤ n) : impl_source_text.f r n = some (r.extract 0 (min n.toNat r.size), r.extract (min n.toNat r.size) r.size) := by
 have hm : mn n (r.size : Int) = ((min n.toNat r.size : Nat) : Int) := by unfold mn; split <;> omega
 unfold impl_source_text.f
 rw [hm, if_pos (by omega), if_pos (by omega), Int.toNat_natCast]
theorem num_f (r : ByteArray) (n : Nat) (hr : r.size ≤ 9223372036854775807) : impl_source_num.f r n = some (wrap64 (nv r 0 (min n r.size)), r.extract (min n r.size) r.size) := by
 unfold impl_source_num.f
 rw [text_f r n (by omega), Int.toNat_natCast, Option.bind_some]
 have hsz : (r.extract 0 (min n r.size)).size = min n r.size := by rw [ByteArray.size_extract]; omega
 rw [hsz, if_pos (by omega), upto_nv, nv_eq (r.extract 0 (min n r.size)) r 0 0 _ (fun q hq => by
  rw [Nat.zero_add]
  exact (bt_extract r 0 (min n r.size) q (by omega) (by omega)).trans (by rw [Nat.zero_add]))]
theorem num_small (r : ByteArray) (n : Nat) (hn : n = 1 ∨ n = 2) (hr : r.size ≤ 9223372036854775807) : ∃ v : Nat, v ≤ 65535 ∧ impl_source_num.f r n = some ((v : Int), r.extract (min n r.size) r.size) := by
 have h0 := nv_pos r 0 (min n r.size)
 have h1 := nv_le r 0 (min n r.size) n (by omega) hn
 refine ⟨(nv r 0 (min n r.size)).toNat, by omega, ?_⟩
 rw [num_f r n hr, w_id _ (by omega) (by omega), Int.toNat_of_nonneg h0]
theorem s8_any (r : ByteArray) (hr : r.size ≤ 9223372036854775807) : ∃ t r' : ByteArray, t.size ≤ r.size ∧ r'.size ≤ r.size ∧ impl_source_s8.f r = some (t, r') := by
 obtain ⟨v, hv, h⟩ := num_small r 1 (.inl rfl) hr
 refine ⟨_, _, ?_, ?_, by unfold impl_source_s8.f; rw [show (1 : Int) = ((1 : Nat) : Int) from rfl, h, Option.bind_some, text_f _ _ (by omega)]; rfl⟩ <;>
 (simp only [ByteArray.size_extract]; omega)
theorem s16_any (r : ByteArray) (hr : r.size ≤ 9223372036854775807) : ∃ t r' : ByteArray, t.size ≤ r.size ∧ r'.size ≤ r.size ∧ impl_source_s16.f r = some (t, r') := by
 obtain ⟨v, hv, h⟩ := num_small r 2 (.inr rfl) hr
 refine ⟨_, _, ?_, ?_, by unfold impl_source_s16.f; rw [show (2 : Int) = ((2 : Nat) : Int) from rfl, h, Option.bind_some, text_f _ _ (by omega)]; rfl⟩ <;>
 (simp only [ByteArray.size_extract]; omega)
/-! ### the reference's reader -/
theorem get_nv (s : ByteArray) (i n : Nat) (h : i + n ≤ s.size) (hs : s.size ≤ 9223372036854775000) : ∀ m k, k + m = n → Ev (fun q => spec_l2Get.l0 q s i n (wrap64 (nv s i k)) k) (wrap64 (nv s i n)) := by
 intro m
 induction m with
 | zero =>
  intro k hk
  obtain rfl : k = n := by omega
  exact Ev.step (f := fun _ => some _) (fun q => by simp only [spec_l2Get.l0]; rw [if_neg (by omega)]) (Ev.now _)
 | succ m ih =>
  intro k hk
  refine Ev.step (fun q => ?_) (ih (k + 1) (by omega))
  have hb := bt_range s ((i + k : Nat) : Int)
  have e : wrap64 ((i : Int) + (k : Int)) = ((i + k : Nat) : Int) := by rw [w_id _ (by omega) (by omega)]; omega
  simp only [spec_l2Get.l0]
  rw [e, if_pos (by omega), if_pos (by omega), if_pos (by omega), w_succ k (by omega), show wrap64 (bt s ((i + k : Nat) : Int)) = bt s ((i + k : Nat) : Int) from w_id _ (by omega) (by omega)]
  congr 1
  simp only [nv]
  generalize nv s i k = x
  generalize bt s ((i + k : Nat) : Int) = b at hb ⊢
  unfold wrap64; omega
theorem get_f (s : ByteArray) (i n : Nat) (h : i + n ≤ s.size) (hs : s.size ≤ 9223372036854775000) : Ev (fun q => spec_l2Get.f q s i n) (wrap64 (nv s i n)) := by
 have h2 := get_nv s i n h hs n 0 (by omega)
 rw [show nv s i 0 = 0 from rfl, wrap0] at h2
 exact h2
def At (s : ByteArray) (p : Int) : Prop := p = -1 ∨ ∃ i : Nat, p = (i : Int) ∧ i ≤ s.size
theorem l3_at (s : ByteArray) (i n v : Nat) (hn : n = 1 ∨ n = 2) (hv : nv s i n = (v : Int)) (h : i + n ≤ s.size) (hs : s.size ≤ 9223372036854700000) :
  Ev (fun q => spec_l3Part.f q s i n) (if s.size < i + n + v then ((⟨#[]⟩ : ByteArray), -1) else (s.extract (i + n) (i + n + v), ((i + n + v : Nat) : Int))) := by
 have h1 := nv_le s i n n (by omega) hn
 have e : wrap64 ((i : Int) + (n : Int)) = ((i + n : Nat) : Int) := by rw [w_id _ (by omega) (by omega)]; omega
 have e2 : wrap64 (((i + n : Nat) : Int) + (v : Int)) = ((i + n + v : Nat) : Int) := by rw [w_id _ (by omega) (by omega)]; omega
 have hg := get_f s i n h (by omega)
 rw [hv, w_id (v : Int) (by omega) (by omega)] at hg
 unfold spec_l3Part.f
 rw [e]
 refine Ev.ite_neg (by omega) (Ev.step (f := fun k => (spec_l2Get.f k s i n).bind fun t297 => (if (wrap64 ((wrap64 ((i : Int) + (n : Int))) + t297)) > (s.size : Int) then (some ((⟨#[]⟩ : ByteArray), (-1))) else (if 0 ≤ (wrap64 ((i : Int) + (n : Int))) then (if (wrap64 ((i : Int) + (n : Int))) ≤ (wrap64 ((wrap64 ((i : Int) + (n : Int))) + t297)) then (if (wrap64 ((wrap64 ((i : Int) + (n : Int))) + t297)) ≤ (s.size : Int) then (some (s.extract ((wrap64 ((i : Int) + (n : Int))) : Int).toNat ((wrap64 ((wrap64 ((i : Int) + (n : Int))) + t297)) : Int).toNat, wrap64 ((wrap64 ((i : Int) + (n : Int))) + t297))) else (none)) else (none)) else (none)))) (fun k => by
  simp only [spec_l3Part.j0]
  rw [if_neg (by simp only [decide_eq_true_eq]; omega)]) (Ev.bind hg ?_))
 rw [e, e2]
 by_cases hbig : s.size < i + n + v
 ·rw [if_pos hbig]
  exact Ev.ite_pos (by omega) (Ev.now _)
 ·rw [if_neg hbig]
  refine Ev.ite_neg (by omega) (Ev.ite_pos (by omega) (Ev.ite_pos (by omega) (Ev.ite_pos (by omega) ?_)))
  rw [Int.toNat_natCast, Int.toNat_natCast]
  exact Ev.now _
theorem l3_any (s : ByteArray) (p : Int) (n : Nat) (hn : n = 1 ∨ n = 2) (hp : At s p) (hs : s.size ≤ 9223372036854700000) : ∃ t p', Ev (fun q => spec_l3Part.f q s p n) (t, p') ∧ At s p' ∧ t.size ≤ s.size := by
 have stop : ∀ (c : Bool), c = true → Ev (fun k => spec_l3Part.j0 k s p n c) ((⟨#[]⟩ : ByteArray), (-1 : Int)) := by
  rintro c rfl
  exact Ev.step (f := fun _ => some _) (fun k => by simp only [spec_l3Part.j0, if_true]) (Ev.now _)
 rcases hp with rfl | ⟨i, rfl, hi⟩
 ·refine ⟨(⟨#[]⟩ : ByteArray), -1, ?_, .inl rfl, Nat.zero_le _⟩
  unfold spec_l3Part.f
  exact Ev.ite_pos (by omega) (stop true rfl)
 ·by_cases h : i + n ≤ s.size
  ·have h0 := nv_pos s i n
   have hv : nv s i n = ((nv s i n).toNat : Int) := (Int.toNat_of_nonneg h0).symm
   have h3 := l3_at s i n _ hn hv h hs
   split at h3
   ·exact ⟨_, _, h3, .inl rfl, Nat.zero_le _⟩
   ·exact ⟨_, _, h3, .inr ⟨_, rfl, by omega⟩, by rw [ByteArray.size_extract]; omega⟩
  ·refine ⟨(⟨#[]⟩ : ByteArray), -1, ?_, .inl rfl, Nat.zero_le _⟩
   have e : wrap64 ((i : Int) + (n : Int)) = ((i + n : Nat) : Int) := by rw [w_id _ (by omega) (by omega)]; omega
   unfold spec_l3Part.f
   rw [e]
   exact Ev.ite_neg (by omega) (stop _ (by simp only [decide_eq_true_eq]; omega))
/-! ### what was written is read -/
def B (L : List UInt8) : ByteArray := ⟨L.toArray⟩
theorem B_size (L : List UInt8) : (B L).size = L.length := rfl
theorem B_list (s : ByteArray) : B s.data.toList = s := by cases s; rfl
theorem B_extract (L : List UInt8) (i j : Nat) : (B L).extract i j = B ((L.drop i).take (j - i)) := by
 apply ByteArray.ext
 apply Array.ext'
 simp [B]
theorem B_mid (P X L : List UInt8) (i j : Nat) (hi : i = P.length) (hj : j = P.length + X.length) : (B (P ++ X ++ L)).extract i j = B X := by
 rw [B_extract, hi, hj, List.append_assoc, List.drop_left, Nat.add_sub_cancel_left, List.take_left]
theorem B_bt (L : List UInt8) (i : Nat) (h : i < L.length) : bt (B L) (i : Int) = (L[i].toNat : Int) := by
 unfold bt
 rw [dif_pos (by rw [Int.toNat_natCast, B_size]; exact h)]
 rfl
def lv (X : List UInt8) : Int := X.foldl (fun a c => a * 256 + (c.toNat : Int)) 0
theorem lv_snoc (X : List UInt8) (c : UInt8) : lv (X ++ [c]) = lv X * 256 + (c.toNat : Int) := by unfold lv; rw [List.foldl_append]; rfl
theorem nv_lv (P X L : List UInt8) : nv (B (P ++ X ++ L)) P.length X.length = lv X := by
 have h : ∀ k, k ≤ X.length → nv (B (P ++ X ++ L)) P.length k = lv (X.take k) := by
  intro k
  induction k with
  | zero => intro _; rfl
  | succ k ih =>
   intro hk
   have e : (P ++ X ++ L)[P.length + k]'(by simp; omega) = X[k] := by
    rw [List.getElem_append_left (by simp; omega), List.getElem_append_right (by omega)]
    simp
   simp only [nv]
   rw [ih (by omega), B_bt _ _ (by simp; omega), e, List.take_add_one, List.getElem?_eq_getElem (by omega), Option.toList_some, lv_snoc]
 rw [h _ (Nat.le_refl _), List.take_length]
theorem lv1 (v : Int) (h0 : 0 ≤ v) (h1 : v ≤ 255) : lv (nL 1 v) = v := by
 have key : nL 1 v = [UInt8.ofNat (v / 1 % 256).toNat] := rfl
 rw [key]
 simp only [lv, List.foldl_cons, List.foldl_nil, UInt8.toNat_ofNat']
 omega
theorem lv2 (v : Int) (h0 : 0 ≤ v) (h1 : v ≤ 65535) : lv (nL 2 v) = v := by
 have key : nL 2 v = [UInt8.ofNat (v / 256 % 256).toNat, UInt8.ofNat (v / 1 % 256).toNat] := rfl
 rw [key]
 simp only [lv, List.foldl_cons, List.foldl_nil, UInt8.toNat_ofNat']
 omega
theorem num_rt (X L : List UInt8) (hX : (X ++ L).length ≤ 9223372036854775000) : impl_source_num.f (B (X ++ L)) X.length = some (wrap64 (lv X), B L) := by
 have hm : min X.length (B (X ++ L)).size = X.length := by rw [B_size, List.length_append]; omega
 rw [num_f _ _ (by rw [B_size]; omega), hm]
 have h1 : nv (B (X ++ L)) 0 X.length = lv X := nv_lv [] X L
 have h2 : (B (X ++ L)).extract X.length (B (X ++ L)).size = B L := by rw [B_extract, B_size, List.drop_left, List.take_of_length_le (by simp)]
 rw [h1, h2]
theorem num1_rt (v : Int) (L : List UInt8) (h0 : 0 ≤ v) (h1 : v ≤ 255) (hL : L.length ≤ 9223372036854700000) : impl_source_num.f (B (nL 1 v ++ L)) 1 = some (v, B L) := by
 have h := num_rt (nL 1 v) L (by rw [List.length_append, nL_length]; omega)
 rw [nL_length, lv1 v h0 h1, w_id v (by omega) (by omega)] at h
 exact h
theorem num2_rt (v : Int) (L : List UInt8) (h0 : 0 ≤ v) (h1 : v ≤ 65535) (hL : L.length ≤ 9223372036854700000) : impl_source_num.f (B (nL 2 v ++ L)) 2 = some (v, B L) := by
 have h := num_rt (nL 2 v) L (by rw [List.length_append, nL_length]; omega)
 rw [nL_length, lv2 v h0 h1, w_id v (by omega) (by omega)] at h
 exact h
theorem text_rt (X L : List UInt8) : impl_source_text.f (B (X ++ L)) (X.length : Int) = some (B X, B L) := by
 have hm : min X.length (B (X ++ L)).size = X.length := by rw [B_size, List.length_append]; omega
 rw [text_f _ _ (by omega), Int.toNat_natCast, hm]
 have h2 : (B (X ++ L)).extract X.length (B (X ++ L)).size = B L := by rw [B_extract, B_size, List.drop_left, List.take_of_length_le (by simp)]
 have h3 : (B (X ++ L)).extract 0 X.length = B X := by rw [B_extract, List.drop_zero, Nat.sub_zero, List.take_left]
 rw [h2, h3]
theorem s8_rt (t : ByteArray) (L : List UInt8) (ht : t.size ≤ 255) (hL : L.length ≤ 9223372036854600000) : impl_source_s8.f (B (s8L t ++ L)) = some (t, B L) := by
 unfold impl_source_s8.f s8L
 rw [List.append_assoc, num1_rt _ _ (by omega) (by omega) (by rw [List.length_append, len_]; omega), Option.bind_some]
 have h := text_rt t.data.toList L
 rw [len_, B_list] at h
 simp only [h, Option.bind_some]
theorem s16_rt (t : ByteArray) (L : List UInt8) (ht : t.size ≤ 65535) (hL : L.length ≤ 9223372036854600000) : impl_source_s16.f (B (s16L t ++ L)) = some (t, B L) := by
 unfold impl_source_s16.f s16L
 rw [List.append_assoc, num2_rt _ _ (by omega) (by omega) (by rw [List.length_append, len_]; omega), Option.bind_some]
 have h := text_rt t.data.toList L
 rw [len_, B_list] at h
 simp only [h, Option.bind_some]
theorem l3_rt (P L X : List UInt8) (n : Nat) (t : ByteArray) (hn : n = 1 ∨ n = 2) (hX : X.length = n) (hv : lv X = (t.size : Int)) (hs : (P ++ (X ++ t.data.toList) ++ L).length ≤ 9223372036854700000) :
  Ev (fun q => spec_l3Part.f q (B (P ++ (X ++ t.data.toList) ++ L)) P.length n) (t, ((P ++ (X ++ t.data.toList)).length : Int)) := by
 have e : P ++ (X ++ t.data.toList) ++ L = P ++ X ++ (t.data.toList ++ L) := by simp only [List.append_assoc]
 have e2 : P ++ (X ++ t.data.toList) ++ L = (P ++ X) ++ t.data.toList ++ L := by simp only [List.append_assoc]
 have hnv : nv (B (P ++ (X ++ t.data.toList) ++ L)) P.length n = (t.size : Int) := by rw [e, ← hX, nv_lv, hv]
 have hsz : (B (P ++ (X ++ t.data.toList) ++ L)).size = P.length + n + t.size + L.length := by rw [B_size]; simp only [List.length_append, len_, hX]; omega
 have h := l3_at (B (P ++ (X ++ t.data.toList) ++ L)) P.length n t.size hn hnv (by rw [hsz]; omega) (by rw [B_size]; omega)
 rw [if_neg (by rw [hsz]; omega)] at h
 refine Ev.eq h ?_
 congr 1
 ·rw [e2, B_mid (P ++ X) t.data.toList L _ _ (by rw [List.length_append, hX]) (by rw [List.length_append, hX, len_]), B_list]
 ·simp only [List.length_append, len_, hX]; omega
theorem l3_8 (P L : List UInt8) (t : ByteArray) (ht : t.size ≤ 255) (hs : (P ++ s8L t ++ L).length ≤ 9223372036854700000) : Ev (fun q => spec_l3Part.f q (B (P ++ s8L t ++ L)) P.length 1) (t, ((P ++ s8L t).length : Int)) :=
 l3_rt P L (nL 1 t.size) 1 t (.inl rfl) (nL_length ..) (lv1 _ (by omega) (by omega)) hs
theorem l3_16 (P L : List UInt8) (t : ByteArray) (ht : t.size ≤ 65535) (hs : (P ++ s16L t ++ L).length ≤ 9223372036854700000) : Ev (fun q => spec_l3Part.f q (B (P ++ s16L t ++ L)) P.length 2) (t, ((P ++ s16L t).length : Int)) :=
 l3_rt P L (nL 2 t.size) 2 t (.inr rfl) (nL_length ..) (lv2 _ (by omega) (by omega)) hs
end Go.Proofs.YtikbfjnbhogihaaGreatDoor.DecLib
