/- spec.ParseConfig: its printed walk, but for the way behind the loop, which is walked by hand (gen_sparse.py). -/
import Derived.Test.YtogoblkehdmapaaDoorM0
import Derived.Test.YtogoblkehdmapaaDoorF34
import Derived.Test.YtogoblkehdmapaaDoorF35
import Derived.Test.YtogoblkehdmapaaDoorF36
import Derived.Test.YtogoblkehdmapaaDoorPrs
import Derived.Deep.RegionHeld3
import Derived.StillTailTactics
import Derived.Deep.DeepCutAuto
import Derived.BigQuiet
import Derived.BigCall
import Derived.Lib.SliceRun
import Derived.BigGuard
namespace Go.Proofs.YtogoblkehdmapaaDoor.M
open Go.RowKit Go.Proofs.YtogoblkehdmapaaDoorW.PrintWords Go.Proofs.YtogoblkehdmapaaDoorW.PrintLast Go.Proofs.YtogoblkehdmapaaDoorW.PrintMore
attribute [local go_sem] max2_int min2_int max_two min_two max_three min_three max_four min_four
set_option linter.unusedVariables false
set_option linter.unusedSimpArgs false

/-! ### spec_ParseConfig: function 15 -/
mutual
def spec_ParseConfig.j0 : Nat → List ByteArray → Bool → Option (Int × Int × Int × Int × Int × Int × Int × Bool)
  | 0, _, _ => none
  | k + 1, x5, x22 => if x22 = true then (some (0, 0, 0, 0, 0, 0, 0, false)) else (if 1 ≤ (x5.length : Int) then ((some (x5.drop 1 : List ByteArray)).bind fun y127 => (spec_ParseConfig.l0 k (([] : List Int)) y127 (y127.length : Int) 0)) else (none))
def spec_ParseConfig.l0 : Nat → List Int → List ByteArray → Int → Int → Option (Int × Int × Int × Int × Int × Int × Int × Bool)
  | 0, _, _, _, _ => none
  | k + 1, x6, x26, x27, x28 => if x28 < x27 then (if 0 ≤ x28 then (if x28 < (x26.length : Int) then ((spec_l7Number.f k (rdOf ByteArray.empty x26 x28)).bind fun bt132 => (if bt132.2 = true then (if x6.length < 17592186044416 then (spec_ParseConfig.l0 k (x6 ++ [bt132.1]) x26 x27 (wrap64 (x28 + 1))) else (none)) else (some (0, 0, 0, 0, 0, 0, 0, false)))) else (none)) else (none)) else (if x6.length = 7 then ((spec_ConfigOK.f (rd x6 0) (rd x6 1) (rd x6 2) (rd x6 3) (rd x6 4) (rd x6 5)).bind fun ok => (if ok = true then (if rd x6 6 > 1000000000 then some (0, 0, 0, 0, 0, 0, 0, false) else some (rd x6 0, rd x6 1, rd x6 2, rd x6 3, rd x6 4, rd x6 5, rd x6 6, true)) else some (0, 0, 0, 0, 0, 0, 0, false))) else none)
end
def spec_ParseConfig.f (k : Nat) (a0 : ByteArray) : Option (Int × Int × Int × Int × Int × Int × Int × Bool) := (spec_l7Split.f k a0 32).bind fun t120 => (if (t120.length : Int) = 8 then (if 0 < (t120.length : Int) then (spec_ParseConfig.j0 k t120 ((rdOf ByteArray.empty t120 0).toList != ([99, 111, 110, 102, 105, 103] : List UInt8))) else (none)) else (spec_ParseConfig.j0 k t120 true))
theorem spec_ParseConfig.mono_l : ∀ k, (∀ y0 y1, LeO (spec_ParseConfig.j0 k y0 y1) (spec_ParseConfig.j0 (k + 1) y0 y1)) ∧ (∀ y0 y1 y2 y3, LeO (spec_ParseConfig.l0 k y0 y1 y2 y3) (spec_ParseConfig.l0 (k + 1) y0 y1 y2 y3))
  | 0 => ⟨fun _ _ r h => by simp [spec_ParseConfig.j0] at h, fun _ _ _ _ r h => by simp [spec_ParseConfig.l0] at h⟩
  | k + 1 => by
    obtain ⟨ih0, ih1⟩ := spec_ParseConfig.mono_l k
    refine ⟨?_, ?_⟩
    · intro y0 y1
      unfold spec_ParseConfig.j0
      repeat' first
      | (with_reducible exact ih0 _ _)
      | (with_reducible exact ih1 _ _ _ _)
      | (with_reducible exact spec_l7Number.mono _ _)
      | (with_reducible exact spec_l7Split.mono _ _ _)
      | (with_reducible exact LeO.refl _)
      | (with_reducible exact LeO.none _)
      | (with_reducible refine LeO.ite ?_ ?_)
      | (with_reducible refine LeO.bind ?_ (fun _ => ?_))
      | exact ih0 _ _
      | exact ih1 _ _ _ _
      | exact spec_l7Number.mono _ _
      | exact spec_l7Split.mono _ _ _
      | exact LeO.none _
      | refine LeO.ite ?_ ?_
      | refine LeO.bind ?_ (fun _ => ?_)
    · intro y0 y1 y2 y3
      unfold spec_ParseConfig.l0
      repeat' first
      | (with_reducible exact ih0 _ _)
      | (with_reducible exact ih1 _ _ _ _)
      | (with_reducible exact spec_l7Number.mono _ _)
      | (with_reducible exact spec_l7Split.mono _ _ _)
      | (with_reducible exact LeO.refl _)
      | (with_reducible exact LeO.none _)
      | (with_reducible refine LeO.ite ?_ ?_)
      | (with_reducible refine LeO.bind ?_ (fun _ => ?_))
      | exact ih0 _ _
      | exact ih1 _ _ _ _
      | exact spec_l7Number.mono _ _
      | exact spec_l7Split.mono _ _ _
      | exact LeO.none _
      | refine LeO.ite ?_ ?_
      | refine LeO.bind ?_ (fun _ => ?_)
theorem spec_ParseConfig.mono : ∀ a0 k, LeO (spec_ParseConfig.f k a0) (spec_ParseConfig.f (k + 1) a0) := by
  intro a0 k
  obtain ⟨ih0, ih1⟩ := spec_ParseConfig.mono_l k
  unfold spec_ParseConfig.f
  repeat' first
      | (with_reducible exact ih0 _ _)
      | (with_reducible exact ih1 _ _ _ _)
      | (with_reducible exact spec_l7Number.mono _ _)
      | (with_reducible exact spec_l7Split.mono _ _ _)
      | (with_reducible exact LeO.refl _)
      | (with_reducible exact LeO.none _)
      | (with_reducible refine LeO.ite ?_ ?_)
      | (with_reducible refine LeO.bind ?_ (fun _ => ?_))
      | exact ih0 _ _
      | exact ih1 _ _ _ _
      | exact spec_l7Number.mono _ _
      | exact spec_l7Split.mono _ _ _
      | exact LeO.none _
      | refine LeO.ite ?_ ?_
      | refine LeO.bind ?_ (fun _ => ?_)
set_option maxHeartbeats 8000000 in
set_option maxRecDepth 100000 in
theorem spec_ParseConfig.calls (k : Nat) (a0 : ByteArray) (r1 : Int) (r2 : Int) (r3 : Int) (r4 : Int) (r5 : Int) (r6 : Int) (r7 : Int) (r8 : Bool) (w : World) (h : spec_ParseConfig.f k a0 = some (r1, r2, r3, r4, r5, r6, r7, r8)) :
    Calls Tryd.prog 15 #[.string a0] w fun e w' => e = .returned (.tuple #[.agg #[.int .i64 r1, .int .i64 r2, .int .i64 r3, .int .i64 r4, .int .i64 r5, .int .i64 r6], .int .i64 r7, .bool r8]) ∧ Below w.heap.size w w' := by
  have hu38 := Tryd.underlying38
  have HB := Aside0.mk (Below.refl w.heap.size w)
  have H : ((spec_l7Split.f k a0 32).bind fun t120 => (if (t120.length : Int) = 8 then (if 0 < (t120.length : Int) then (spec_ParseConfig.j0 k t120 ((rdOf ByteArray.empty t120 0).toList != ([99, 111, 110, 102, 105, 103] : List UInt8))) else (none)) else (spec_ParseConfig.j0 k t120 true))) = some (r1, r2, r3, r4, r5, r6, r7, r8) := h
  clear h
  replace H := Option.bind_eq_some_iff.mp H
  obtain ⟨t120, A20, H⟩ := H
  replace H : (if (t120.length : Int) = 8 then (if 0 < (t120.length : Int) then (spec_ParseConfig.j0 k t120 ((rdOf ByteArray.empty t120 0).toList != ([99, 111, 110, 102, 105, 103] : List UInt8))) else (none)) else (spec_ParseConfig.j0 k t120 true)) = some (r1, r2, r3, r4, r5, r6, r7, r8) := H
  have A2 := Aside0.mk A20
  clear A20
  have HC3 := Aside0.mk H
  clear H
  go_enter Tryd.func15, Tryd.ntmps15
  go_upto_region 2 with (first | ((with_reducible refine gate_dst (N := 2) rfl ?_); refine box_event ?hg (N := 2) ?hd (cs := #[.int .i64 0, .int .i64 0, .int .i64 0, .int .i64 0, .int .i64 0, .int .i64 0]) (t := 38) ?hr ?_; (case hd => rfl); (case hg => rfl); (case hr => first | (go_simp; done) | (go_simp; rfl)); intro gb119 hg w4 hbox hb; have n0_ := Aside0.mk (below_step (by repeat (first | (with_reducible first | exact HB.out | apply below_alloc | apply pw_below_drewN | apply below_drew1) | exact HB.out)) hb); have n1_ := Aside0.mk (hbox); have n2_ := Aside0.mk ((by rw [hg]; exact (below_size (by repeat (first | (with_reducible first | exact HB.out | apply below_alloc | apply pw_below_drewN | apply below_drew1) | exact HB.out))) : w.heap.size ≤ gb119)); have n3_ := Aside0.mk ((by rw [hg]; exact (below_size (by repeat (first | (with_reducible first | exact HB.out | apply below_alloc | apply pw_below_drewN | apply below_drew1) | exact HB.out))) : w.heap.size ≤ gb119)); clear HB; have HB := n0_; have BK119 := n1_; have GW119 := n2_; have GE119 := n3_; clear n0_ n1_ n2_ n3_; clear hb hbox hg) | ((with_reducible refine gate_callee (f := 34) rfl ?_); refine goesL_ (some 13) rfl rfl Tryd.func34 (by kernel_rfl) rfl #[.string a0, .int .u8 32] rfl (by (try simp only [List.map_toArray, List.map_cons, List.map_nil]); first | done | rfl | (simp only [List.length_drop, List.length_take]; rfl)) ?_; (with_reducible refine (spec_l7Split.calls k a0 32 t120 _ A2.out).mono ?_); rintro e w5 ⟨v121, rfl, ho0, hb⟩; refine ⟨_, rfl, ?_⟩; have n0_ := Aside0.mk (Kd.R_lower ho0 (below_size (by repeat (first | (with_reducible first | exact HB.out | apply below_alloc | apply pw_below_drewN | apply below_drew1 | refine below_set ?_ GE119.out) | exact HB.out)))); have n1_ := Aside0.mk (blk_below (g := gb119) (o := .cells #[.int .i64 0, .int .i64 0, .int .i64 0, .int .i64 0, .int .i64 0, .int .i64 0] 38 (0, 0)) (by (with_reducible repeat (first | refine blk_drewN ?_ _ | refine blk_drew ?_ | refine blk_alloc ?_ _)); exact BK119.out) hb); have n2_ := Aside0.mk (below_step (by repeat (first | (with_reducible first | exact HB.out | apply below_alloc | apply pw_below_drewN | apply below_drew1 | refine below_set ?_ GE119.out) | exact HB.out)) hb); clear BK119; clear HB; have HO122 := n0_; have BK119 := n1_; have HB := n2_; clear n0_ n1_ n2_; (try clear hb); (try clear hb2); (try clear hk); (try clear hi); (try clear ho0)))
  (try simp only [Act.put, List.setIfInBounds_toArray, List.set_cons_zero, List.set_cons_succ])
  go_cut [22] (fun v22 wc => ∃ (kq : Nat) (x22_2 : Bool), v22 = .bool x22_2 ∧ Aside0 (spec_ParseConfig.j0 kq t120 x22_2 = some (r1, r2, r3, r4, r5, r6, r7, r8)) ∧ Aside0 (kq ≤ k) ∧ Aside0 (Kd.R Kd.string 9 wc w.heap.size (fun _ => True) v121 t120) ∧ Aside0 (wc.heap[gb119]? = some (.cells #[.int .i64 0, .int .i64 0, .int .i64 0, .int .i64 0, .int .i64 0, .int .i64 0] 38 (0, 0))) ∧ Aside0 (Below w.heap.size w wc))
  case first =>
    have H := HC3.out
    clear HC3
    by_cases c6 : (t120.length : Int) = 8
    · rw [if_pos c6] at H
      have c6b0 : ((t120.length : Int) == 8) = true := beq_iff_eq.mpr c6
      have c6b1 : ((t120.length : Int) != 8) = false := bne_eq_false_iff_eq.mpr c6
      clear c6
      (first | rw [c6b0] | (simp only [i64_w, i32_w]; rw [c6b0]) | skip)
      by_cases c7 : 0 < (t120.length : Int)
      · rw [if_pos c7] at H
        have c7b0 : decide (0 < (t120.length : Int)) = true := decide_eq_true c7
        have c7b1 : decide (0 < t120.length) = true := decide_eq_true (by omega)
        clear c7
        have H' := Aside0.mk H
        clear H
        obtain ⟨Ao8, co8, eo8⟩ := Kd.R_slice HO122.out
        subst eo8
        have p123 : 0 ≤ (0 : Int) := (by omega)
        have q123 : 0 < (t120.length : Int) := of_decide_eq_true (by first | (with_reducible assumption) | assumption)
        obtain ⟨ad123, e123, hx123_0⟩ := Kd.at_string (Kd.R_reads' HO122.out).2.2 0 p123 q123
        cases e123
        have qi123 : (0 < t120.length) = True := eq_true (by omega)
        (try rw [show ((0 : Int)).toNat = 0 from rfl] at hx123_0)
        (try rw [Addr.add_zero'] at hx123_0)
        replace p123 := eq_true p123
        replace q123 := eq_true q123
        go_wp2
        go_meet
        case rel => exact ⟨_, (((rdOf ByteArray.empty t120 0).toList != ([99, 111, 110, 102, 105, 103] : List UInt8))), (by first | rfl | (simp; done) | (simp [*]; done)), H', ⟨by first | omega | exact Nat.le_refl _⟩, ⟨by (with_reducible repeat (first | apply Kd.R_alloc | apply Kd.R_drewN | apply Kd.R_drew)); exact HO122.out⟩, ⟨by (with_reducible repeat (first | refine blk_drewN ?_ _ | refine blk_drew ?_ | refine blk_alloc ?_ _)); exact BK119.out⟩, ⟨by repeat (first | (with_reducible first | exact HB.out | apply below_alloc | apply pw_below_drewN | apply below_drew1 | refine below_set ?_ GE119.out) | exact HB.out)⟩⟩
      · rw [if_neg c7] at H
        exact absurd H (by simp)
    · rw [if_neg c6] at H
      have c6b0 : ((t120.length : Int) == 8) = false := beq_eq_false_iff_ne.mpr c6
      have c6b1 : ((t120.length : Int) != 8) = true := bne_iff_ne.mpr c6
      (first | rw [c6b0] | (simp only [i64_w, i32_w]; rw [c6b0]) | skip)
      have H' := Aside0.mk H
      clear H
      obtain ⟨Ao9, co9, eo9⟩ := Kd.R_slice HO122.out
      subst eo9
      go_wp2
      go_meet
      case rel => exact ⟨_, (true), (by first | rfl | (simp; done) | (simp [*]; done)), H', ⟨by first | omega | exact Nat.le_refl _⟩, ⟨by (with_reducible repeat (first | apply Kd.R_alloc | apply Kd.R_drewN | apply Kd.R_drew)); exact HO122.out⟩, ⟨by (with_reducible repeat (first | refine blk_drewN ?_ _ | refine blk_drew ?_ | refine blk_alloc ?_ _)); exact BK119.out⟩, ⟨by repeat (first | (with_reducible first | exact HB.out | apply below_alloc | apply pw_below_drewN | apply below_drew1 | refine below_set ?_ GE119.out) | exact HB.out)⟩⟩
  case rest =>
    clear HC3
    try clear c1
    try clear p1
    try clear q1
    try clear hx1
    try clear qi1
    try clear p2
    try clear c3
    try clear c6
    try clear c6b0
    try clear c6b1
    try clear c7
    try clear c7b0
    try clear c7b1
    try clear hx123_0
    try clear p123
    try clear q123
    obtain ⟨kq, x22_2, rfl, HA, HJ2, HO_5, BK119, HB⟩ := hcut
    cases kq with
    | zero => exact absurd HA.out (by simp [spec_ParseConfig.j0])
    | succ kj2 =>
      have H := HA.out
      clear HA
      simp only [spec_ParseConfig.j0] at H
      by_cases c10 : x22_2 = true
      · subst c10
        have H1 : (some (0, 0, 0, 0, 0, 0, 0, false)) = some (r1, r2, r3, r4, r5, r6, r7, r8) := by rw [if_pos rfl] at H; exact H
        clear H
        have H := H1
        clear H1
        simp only [Option.some.injEq, Prod.mk.injEq] at H
        obtain ⟨rfl, rfl, rfl, rfl, rfl, rfl, rfl, rfl⟩ := H
        have hcz11_0 : wc.cell? ⟨gb119, 0, none⟩ = some (.int .i64 0) := (blk_cell BK119.out 0).trans rfl
        have hcz11_1 : wc.cell? ⟨gb119, 1, none⟩ = some (.int .i64 0) := (blk_cell BK119.out 1).trans rfl
        have hcz11_2 : wc.cell? ⟨gb119, 2, none⟩ = some (.int .i64 0) := (blk_cell BK119.out 2).trans rfl
        have hcz11_3 : wc.cell? ⟨gb119, 3, none⟩ = some (.int .i64 0) := (blk_cell BK119.out 3).trans rfl
        have hcz11_4 : wc.cell? ⟨gb119, 4, none⟩ = some (.int .i64 0) := (blk_cell BK119.out 4).trans rfl
        have hcz11_5 : wc.cell? ⟨gb119, 5, none⟩ = some (.int .i64 0) := (blk_cell BK119.out 5).trans rfl
        have hfz11_0 := blk_frozen BK119.out 0
        have hfz11_1 := blk_frozen BK119.out 1
        have hfz11_2 := blk_frozen BK119.out 2
        have hfz11_3 := blk_frozen BK119.out 3
        have hfz11_4 := blk_frozen BK119.out 4
        have hfz11_5 := blk_frozen BK119.out 5
        go_wp2
        refine bodyPost_ret (results_ctt rfl _ _ gb119 38 #[.int .i64 0, .int .i64 0, .int .i64 0, .int .i64 0, .int .i64 0, .int .i64 0] (0, 0) _ rfl (by (with_reducible repeat (first | refine blk_drewN ?_ _ | refine blk_drew ?_ | refine blk_alloc ?_ _)); refine blk_put (cs := #[.int .i64 0, .int .i64 0, .int .i64 0, .int .i64 0, .int .i64 0, .int .i64 0]) ?_ 5 _ rfl; (with_reducible repeat (first | refine blk_drewN ?_ _ | refine blk_drew ?_ | refine blk_alloc ?_ _)); refine blk_put (cs := #[.int .i64 0, .int .i64 0, .int .i64 0, .int .i64 0, .int .i64 0, .int .i64 0]) ?_ 4 _ rfl; (with_reducible repeat (first | refine blk_drewN ?_ _ | refine blk_drew ?_ | refine blk_alloc ?_ _)); refine blk_put (cs := #[.int .i64 0, .int .i64 0, .int .i64 0, .int .i64 0, .int .i64 0, .int .i64 0]) ?_ 3 _ rfl; (with_reducible repeat (first | refine blk_drewN ?_ _ | refine blk_drew ?_ | refine blk_alloc ?_ _)); refine blk_put (cs := #[.int .i64 0, .int .i64 0, .int .i64 0, .int .i64 0, .int .i64 0, .int .i64 0]) ?_ 2 _ rfl; (with_reducible repeat (first | refine blk_drewN ?_ _ | refine blk_drew ?_ | refine blk_alloc ?_ _)); refine blk_put (cs := #[.int .i64 0, .int .i64 0, .int .i64 0, .int .i64 0, .int .i64 0, .int .i64 0]) ?_ 1 _ rfl; (with_reducible repeat (first | refine blk_drewN ?_ _ | refine blk_drew ?_ | refine blk_alloc ?_ _)); refine blk_put (cs := #[.int .i64 0, .int .i64 0, .int .i64 0, .int .i64 0, .int .i64 0, .int .i64 0]) ?_ 0 _ rfl; (with_reducible repeat (first | refine blk_drewN ?_ _ | refine blk_drew ?_ | refine blk_alloc ?_ _)); exact BK119.out) Tryd.underlying38 rfl (by kernel_rfl)) rfl ?_
        exact ⟨by first | rfl | (simp [errW_none, errW_some] <;> rfl) | (simp [*, errW_none, errW_some] <;> rfl), by repeat (first | (with_reducible first | exact HB.out | apply below_alloc | apply pw_below_drewN | apply below_drew1 | refine below_set ?_ GE119.out) | exact HB.out)⟩
      · replace c10 := Bool.eq_false_iff.mpr c10
        subst c10
        have H1 : (if 1 ≤ (t120.length : Int) then ((some (t120.drop 1 : List ByteArray)).bind fun y127 => (spec_ParseConfig.l0 kj2 (([] : List Int)) y127 (y127.length : Int) 0)) else (none)) = some (r1, r2, r3, r4, r5, r6, r7, r8) := by rw [if_neg (show ¬ (false = true) by decide)] at H; exact H
        clear H
        have H := H1
        clear H1
        obtain ⟨y124, hy124⟩ : ∃ y_ : List Int, y_ = (([] : List Int)) := ⟨_, rfl⟩
        replace H : (if 1 ≤ (t120.length : Int) then ((some (t120.drop 1 : List ByteArray)).bind fun y127 => (spec_ParseConfig.l0 kj2 y124 y127 (y127.length : Int) 0)) else (none)) = some (r1, r2, r3, r4, r5, r6, r7, r8) := by first | (rw [hy124]; with_reducible exact H) | (have H2_ := (Option.bind_some _ _).symm.trans H; rw [hy124]; with_reducible exact H2_) | (have H2_ := (Option.bind_some _ _).symm.trans H; with_reducible exact H2_) | with_reducible exact H | (rw [hy124]; exact H) | exact H
        have Ny124 := Aside0.mk hy124
        clear hy124
        by_cases c12 : 1 ≤ (t120.length : Int)
        · rw [if_pos c12] at H
          have c12b0 := eq_true c12
          have c12b1 : decide (1 ≤ (t120.length : Int)) = true := decide_eq_true c12
          clear c12
          obtain ⟨y127, hy127⟩ : ∃ y_ : List ByteArray, y_ = (t120.drop 1) := ⟨_, rfl⟩
          replace H : (spec_ParseConfig.l0 kj2 y124 y127 (y127.length : Int) 0) = some (r1, r2, r3, r4, r5, r6, r7, r8) := by first | (rw [hy127]; with_reducible exact H) | (have H2_ := (Option.bind_some _ _).symm.trans H; rw [hy127]; with_reducible exact H2_) | (have H2_ := (Option.bind_some _ _).symm.trans H; with_reducible exact H2_) | with_reducible exact H | (rw [hy127]; exact H) | exact H
          have Ny127 := Aside0.mk hy127
          clear hy127
          have H' := Aside0.mk H
          clear H
          go_wp2_with (first | ((with_reducible refine gate_dst (N := 24) rfl ?_); refine Kd.R_lit (Kd.int .i64) _ 3 ?hg (N := 24) ?hd (xs := ([] : List Int)) (inner := []) (ok := fun _ => True) (okp := fun _ => True) ?hr ?hp (fun _ hk => hk) trivial (Below.refl _ _) (Nat.le_refl _) (by simp) ?_; (case hd => rfl); (case hg => rfl); (case hr => first | (go_simp; done) | (go_simp; rfl)); (case hp => exact (Reps.none _ _)); intro v125 w13 ho14 hb hg_ hnew_; clear hg_ hnew_; (first | rw [← Ny124.out] at ho14 | (simp only [Int.reduceToNat] at ho14; rw [← Ny124.out] at ho14)); have n0_ := Aside0.mk (Kd.R_below (by (with_reducible repeat (first | apply Kd.R_alloc | apply Kd.R_drewN | apply Kd.R_drew)); exact HO_5.out) hb); have n1_ := Aside0.mk (Kd.R_lower ho14 (below_size (by repeat (first | (with_reducible first | exact HB.out | apply below_alloc | apply pw_below_drewN | apply below_drew1 | refine below_set ?_ GE119.out) | exact HB.out)))); have n2_ := Aside0.mk (blk_below (g := gb119) (o := .cells #[.int .i64 0, .int .i64 0, .int .i64 0, .int .i64 0, .int .i64 0, .int .i64 0] 38 (0, 0)) (by (with_reducible repeat (first | refine blk_drewN ?_ _ | refine blk_drew ?_ | refine blk_alloc ?_ _)); exact BK119.out) hb); have n3_ := Aside0.mk (below_step (by repeat (first | (with_reducible first | exact HB.out | apply below_alloc | apply pw_below_drewN | apply below_drew1 | refine below_set ?_ GE119.out) | exact HB.out)) hb); clear HO_5; clear BK119; clear HB; have HO_5 := n0_; have HO126 := n1_; have BK119 := n2_; have HB := n3_; clear n0_ n1_ n2_ n3_; clear hb ho14; obtain ⟨Ao16, co16, eo16⟩ := Kd.R_slice HO_5.out; subst eo16; have q15 : (1 : Int) ≤ ((t120.length : Int) : Int) := of_decide_eq_true (by first | (with_reducible assumption) | assumption); obtain ⟨i015, hi015, _, hsz15, _⟩ := info_parts info9; have hroom15 : t120.length ≤ co16 := (Kd.R_reads' HO_5.out).2.1; have hC15 : Kd.C Kd.string _ Ao16 t120.length t120 := (Kd.R_reads' HO_5.out).2.2; have hcut15 := cut_from (P := Tryd.prog) 63 9 .i64 Tryd.underlying63 hi015 1 hsz15 Ao16 t120.length co16 1 (by omega) q15; have hr15 := Kd.C_drop (m := (1 : Int).toNat) (c := co16) hC15 (by omega) hroom15; obtain ⟨A15, hA15⟩ : ∃ A1, A1 = (if co16 = (1 : Int).toNat then Ao16 else (Ao16 : Option Addr).map (·.add ((1 : Int).toNat * 1))) := ⟨_, rfl⟩; obtain ⟨c15, hc15⟩ : ∃ c1, c1 = co16 - (1 : Int).toNat := ⟨_, rfl⟩; have hy15 : y127.length = t120.length - (1 : Int).toNat := (by rw [Ny127.out, List.length_drop] <;> omega); rw [show (t120).drop (1 : Int).toNat = y127 from Ny127.out.symm] at hr15; replace hr15 : Kd.C Kd.string _ A15 y127.length y127 := (by rw [hA15]; exact hr15); rw [← hy15, ← hA15, ← hc15] at hcut15; have HR130 := Aside0.mk hr15; have HC130 := Aside0.mk (show y127.length ≤ c15 from by rw [hy15, hc15]; exact Nat.sub_le_sub_right hroom15 _); clear hr15 hC15 hroom15 hi015 hsz15 hc15; have KY15 := Aside0.mk hy15; have KA15 := Aside0.mk hA15; clear hy15 hA15; have KL15 := Aside0.mk (show 1 ≤ t120.length from by omega); replace q15 := eq_true q15))
          go_loopg [6, 28] kj2 (fun kq v6 v28 w' => ∃ (x6_2 : List Int) (x28_2 : Int) (x120000_2 : Int) (x120001_2 : Int) (x120002_2 : Int) (x120003_2 : Int) (x120004_2 : Int) (x120005_2 : Int), v28 = .int .i64 x28_2 ∧ Aside0 (spec_ParseConfig.l0 kq x6_2 y127 (y127.length : Int) x28_2 = some (r1, r2, r3, r4, r5, r6, r7, r8)) ∧ Aside0 (kq ≤ kj2) ∧ Aside0 (Kd.string.R 9 w' w.heap.size (fun _ => True) (Value.slice Ao16 t120.length co16) t120) ∧ Aside0 (Kd.R (Kd.int .i64) 3 w' w.heap.size (fun _ => True) v6 x6_2) ∧ Aside0 (w'.heap[gb119]? = some (.cells #[.int .i64 x120000_2, .int .i64 x120001_2, .int .i64 x120002_2, .int .i64 x120003_2, .int .i64 x120004_2, .int .i64 x120005_2] 38 (0, 0))) ∧ Aside0 (Below w.heap.size w w'))
          case atStart => exact ⟨(y124), (0), (0), (0), (0), (0), (0), (0), (by first | rfl | (simp; done) | (simp [*]; done)), H', ⟨Nat.le_refl _⟩, ⟨by (with_reducible repeat (first | apply Kd.R_alloc | apply Kd.R_drewN | apply Kd.R_drew)); exact HO_5.out⟩, ⟨by (with_reducible repeat (first | apply Kd.R_alloc | apply Kd.R_drewN | apply Kd.R_drew)); exact HO126.out⟩, ⟨by (with_reducible repeat (first | refine blk_drewN ?_ _ | refine blk_drew ?_ | refine blk_alloc ?_ _)); exact BK119.out⟩, ⟨by repeat (first | (with_reducible first | exact HB.out | apply below_alloc | apply pw_below_drewN | apply below_drew1 | refine below_set ?_ GE119.out) | exact HB.out)⟩⟩
          case round =>
            clear H'
            try clear c1
            try clear p1
            try clear q1
            try clear hx1
            try clear qi1
            try clear p2
            try clear c3
            try clear c6
            try clear c6b0
            try clear c6b1
            try clear c7
            try clear c7b0
            try clear c7b1
            try clear c10
            try clear c12
            try clear c12b0
            try clear c12b1
            try clear p12
            try clear q12
            try clear hx12
            try clear qi12
            try clear c15
            try clear q15
            try clear hcz11_0
            try clear hcz11_1
            try clear hcz11_2
            try clear hcz11_3
            try clear hcz11_4
            try clear hcz11_5
            try clear hfz11_0
            try clear hfz11_1
            try clear hfz11_2
            try clear hfz11_3
            try clear hfz11_4
            try clear hfz11_5
            try clear hx123_0
            try clear p1
            try clear p123
            try clear p2
            try clear q1
            try clear q123
            try clear q15
            obtain ⟨x6_2, x28_2, x120000_2, x120001_2, x120002_2, x120003_2, x120004_2, x120005_2, rfl, HA, HK2, HQ, HO_6, BK119, HB⟩ := hrel
            have HR131 : Aside0 (Kd.C Kd.string wr A15 y127.length y127) := ⟨by rw [KA15.out, Ny127.out]; exact Kd.C_drop (m := 1) (c := co16) (Kd.R_reads' HQ.out).2.2 KL15.out (Kd.R_reads' HQ.out).2.1⟩
            cases gk with
            | zero => exact absurd HA.out (by simp [spec_ParseConfig.l0])
            | succ k2 =>
              have H := HA.out
              clear HA
              simp only [spec_ParseConfig.l0] at H
              by_cases c17 : x28_2 < (y127.length : Int)
              · rw [if_pos c17] at H
                have c17b0 : decide (x28_2 < (y127.length : Int)) = true := decide_eq_true c17
                clear c17
                by_cases c18 : 0 ≤ x28_2
                · rw [if_pos c18] at H
                  have c18b0 : decide (0 ≤ x28_2) = true := decide_eq_true c18
                  clear c18
                  by_cases c19 : x28_2 < (y127.length : Int)
                  · rw [if_pos c19] at H
                    have c19b0 : decide (x28_2 < (y127.length : Int)) = true := decide_eq_true c19
                    clear c19
                    replace H := Option.bind_eq_some_iff.mp H
                    obtain ⟨⟨t132, t133⟩, A200, H⟩ := H
                    replace H : (if t133 = true then (if x6_2.length < 17592186044416 then (spec_ParseConfig.l0 k2 (x6_2 ++ [t132]) y127 (y127.length : Int) (wrap64 (x28_2 + 1))) else (none)) else (some (0, 0, 0, 0, 0, 0, 0, false))) = some (r1, r2, r3, r4, r5, r6, r7, r8) := H
                    have A20 := Aside0.mk A200
                    clear A200
                    by_cases c21 : t133 = true
                    · subst c21
                      have H1 : (if x6_2.length < 17592186044416 then (spec_ParseConfig.l0 k2 (x6_2 ++ [t132]) y127 (y127.length : Int) (wrap64 (x28_2 + 1))) else (none)) = some (r1, r2, r3, r4, r5, r6, r7, r8) := by rw [if_pos rfl] at H; exact H
                      clear H
                      have H := H1
                      clear H1
                      by_cases c22 : x6_2.length < 17592186044416
                      · rw [if_pos c22] at H
                        have LMc22 := Aside0.mk c22
                        clear c22
                        obtain ⟨y134, hy134⟩ : ∃ y_ : List Int, y_ = (x6_2 ++ [t132]) := ⟨_, rfl⟩
                        replace H : (spec_ParseConfig.l0 k2 y134 y127 (y127.length : Int) (wrap64 (x28_2 + 1))) = some (r1, r2, r3, r4, r5, r6, r7, r8) := by first | (rw [hy134]; with_reducible exact H) | (have H2_ := (Option.bind_some _ _).symm.trans H; rw [hy134]; with_reducible exact H2_) | (have H2_ := (Option.bind_some _ _).symm.trans H; with_reducible exact H2_) | with_reducible exact H | (rw [hy134]; exact H) | exact H
                        have Ny134 := Aside0.mk hy134
                        clear hy134
                        have H' := Aside0.mk H
                        clear H
                        have p131 : 0 ≤ (x28_2 : Int) := of_decide_eq_true (by first | (with_reducible assumption) | assumption)
                        have q131 : x28_2 < (y127.length : Int) := of_decide_eq_true (by first | (with_reducible assumption) | assumption)
                        obtain ⟨ad131, e131, hx131_0⟩ := Kd.at_string HR131.out x28_2 p131 q131
                        cases e131
                        replace p131 := eq_true p131
                        replace q131 := eq_true q131
                        go_wp2_with (first | ((with_reducible refine gate_callee (f := 35) rfl ?_); refine goesL_ (some 34) rfl rfl Tryd.func35 (by kernel_rfl) rfl #[.string (rdOf ByteArray.empty y127 x28_2)] rfl (by (try simp only [List.map_toArray, List.map_cons, List.map_nil]); first | done | rfl | (simp only [List.length_drop, List.length_take]; rfl)) ?_; (with_reducible refine (spec_l7Number.calls k2 (rdOf ByteArray.empty y127 x28_2) t132 true _ A20.out).mono ?_); rintro e w23 ⟨rfl, hb⟩; refine ⟨_, rfl, ?_⟩; have n0_ := Aside0.mk (Kd.R_below (by (with_reducible repeat (first | apply Kd.R_alloc | apply Kd.R_drewN | apply Kd.R_drew)); exact HO_6.out) hb); have n1_ := Aside0.mk (blk_below (g := gb119) (o := .cells #[.int .i64 x120000_2, .int .i64 x120001_2, .int .i64 x120002_2, .int .i64 x120003_2, .int .i64 x120004_2, .int .i64 x120005_2] 38 (0, 0)) (by (with_reducible repeat (first | refine blk_drewN ?_ _ | refine blk_drew ?_ | refine blk_alloc ?_ _)); exact BK119.out) hb); have n2_ := Aside0.mk (below_step (by repeat (first | (with_reducible first | exact HB.out | apply below_alloc | apply pw_below_drewN | apply below_drew1 | refine below_set ?_ GE119.out) | exact HB.out)) hb); have nq_ := Aside0.mk (Kd.R_below (by (with_reducible repeat (first | apply Kd.R_alloc | apply Kd.R_drewN | apply Kd.R_drew)); exact HQ.out) hb); clear HQ; have HQ := nq_; clear nq_; clear HO_6; clear BK119; clear HB; have HO_6 := n0_; have BK119 := n1_; have HB := n2_; clear n0_ n1_ n2_; (try clear hb); (try clear hb2); (try clear hk); (try clear hi)) | ((with_reducible refine gate_builtin (b := .append) (xs := #[.tmp 40, .tmp 42]) rfl ?_); at_builtin; refine Kd.R_append (Kd.int .i64) (w0 := w) w.heap.size rfl (.tmp 40) (.tmp 42) 65 3 (.int .i64 0) 8 rfl Tryd.underlying65 info3 rfl (by decide) (by omega) u6 x6_2 t132 [.int .i64 t132] (fun _ => True) (fun _ => False) rfl rfl ?aP (fun _ hk => hk.elim) ?aF ?aO ?aB ?aS ?aL ?_; (case aP => exact rfl); (case aB => exact (by repeat (first | (with_reducible first | exact HB.out | apply below_alloc | apply pw_below_drewN | apply below_drew1 | refine below_set ?_ GE119.out) | exact HB.out))); (case aF => exact (fun _ _ => trivial)); (case aO => exact (by (with_reducible repeat (first | apply Kd.R_alloc | apply Kd.R_drewN | apply Kd.R_drew)); exact HO_6.out)); (case aS => exact (below_size (by repeat (first | (with_reducible first | exact HB.out | apply below_alloc | apply pw_below_drewN | apply below_drew1 | refine below_set ?_ GE119.out) | exact HB.out)))); (case aL => have := LMc22.out; omega); intro v135 w24 ho hb hg hat; rw [← Ny134.out] at ho; have n0_ := Aside0.mk (blk_grown (g := gb119) (o := .cells #[.int .i64 x120000_2, .int .i64 x120001_2, .int .i64 x120002_2, .int .i64 x120003_2, .int .i64 x120004_2, .int .i64 x120005_2] 38 (0, 0)) (by (with_reducible repeat (first | refine blk_drewN ?_ _ | refine blk_drew ?_ | refine blk_alloc ?_ _)); exact BK119.out) hg (Kd.R_ne HO_6.out BK119.out (by decide))); have n1_ := Aside0.mk (hb); have n2_ := Aside0.mk (ho); have nq_ := Aside0.mk (Kd.R_over (by (with_reducible repeat (first | apply Kd.R_alloc | apply Kd.R_drewN | apply Kd.R_drew)); exact HQ.out) (by (with_reducible repeat (first | apply Kd.R_alloc | apply Kd.R_drewN | apply Kd.R_drew)); exact HO_6.out) (by decide) hg); clear HQ; have HQ := nq_; clear nq_; clear BK119; clear HB; clear HO_6; have BK119 := n0_; have HB := n1_; have HO136 := n2_; clear n0_ n1_ n2_; clear ho hb hg hat))
                        go_roundg k2
                        case measure => have := HJ2.out; have := HK2.out; omega
                        case rel => exact ⟨(y134), (wrap64 (x28_2 + 1)), (x120000_2), (x120001_2), (x120002_2), (x120003_2), (x120004_2), (x120005_2), (by first | rfl | (simp; done) | (simp [*]; done)), H', ⟨by have := HJ2.out; have := HK2.out; omega⟩, ⟨by (with_reducible repeat (first | apply Kd.R_alloc | apply Kd.R_drewN | apply Kd.R_drew)); exact HQ.out⟩, ⟨by (with_reducible repeat (first | apply Kd.R_alloc | apply Kd.R_drewN | apply Kd.R_drew)); exact HO136.out⟩, ⟨by (with_reducible repeat (first | refine blk_drewN ?_ _ | refine blk_drew ?_ | refine blk_alloc ?_ _)); exact BK119.out⟩, ⟨by repeat (first | (with_reducible first | exact HB.out | apply below_alloc | apply pw_below_drewN | apply below_drew1 | refine below_set ?_ GE119.out) | exact HB.out)⟩⟩
                      · rw [if_neg c22] at H
                        exact absurd H (by simp)
                    · replace c21 := Bool.eq_false_iff.mpr c21
                      subst c21
                      have H1 : (some (0, 0, 0, 0, 0, 0, 0, false)) = some (r1, r2, r3, r4, r5, r6, r7, r8) := by rw [if_neg (show ¬ (false = true) by decide)] at H; exact H
                      clear H
                      have H := H1
                      clear H1
                      simp only [Option.some.injEq, Prod.mk.injEq] at H
                      obtain ⟨rfl, rfl, rfl, rfl, rfl, rfl, rfl, rfl⟩ := H
                      have p131 : 0 ≤ (x28_2 : Int) := of_decide_eq_true (by first | (with_reducible assumption) | assumption)
                      have q131 : x28_2 < (y127.length : Int) := of_decide_eq_true (by first | (with_reducible assumption) | assumption)
                      obtain ⟨ad131, e131, hx131_0⟩ := Kd.at_string HR131.out x28_2 p131 q131
                      cases e131
                      replace p131 := eq_true p131
                      replace q131 := eq_true q131
                      go_wp2_with (first | ((with_reducible refine gate_callee (f := 35) rfl ?_); refine goesL_ (some 34) rfl rfl Tryd.func35 (by kernel_rfl) rfl #[.string (rdOf ByteArray.empty y127 x28_2)] rfl (by (try simp only [List.map_toArray, List.map_cons, List.map_nil]); first | done | rfl | (simp only [List.length_drop, List.length_take]; rfl)) ?_; (with_reducible refine (spec_l7Number.calls k2 (rdOf ByteArray.empty y127 x28_2) t132 false _ A20.out).mono ?_); rintro e w25 ⟨rfl, hb⟩; refine ⟨_, rfl, ?_⟩; have n0_ := Aside0.mk (Kd.R_below (by (with_reducible repeat (first | apply Kd.R_alloc | apply Kd.R_drewN | apply Kd.R_drew)); exact HO_6.out) hb); have n1_ := Aside0.mk (blk_below (g := gb119) (o := .cells #[.int .i64 x120000_2, .int .i64 x120001_2, .int .i64 x120002_2, .int .i64 x120003_2, .int .i64 x120004_2, .int .i64 x120005_2] 38 (0, 0)) (by (with_reducible repeat (first | refine blk_drewN ?_ _ | refine blk_drew ?_ | refine blk_alloc ?_ _)); exact BK119.out) hb); have n2_ := Aside0.mk (below_step (by repeat (first | (with_reducible first | exact HB.out | apply below_alloc | apply pw_below_drewN | apply below_drew1 | refine below_set ?_ GE119.out) | exact HB.out)) hb); clear HO_6; clear BK119; clear HB; have HO_6 := n0_; have BK119 := n1_; have HB := n2_; clear n0_ n1_ n2_; (try clear hb); (try clear hb2); (try clear hk); (try clear hi); have hcz26_0 : w25.cell? ⟨gb119, 0, none⟩ = some (.int .i64 x120000_2) := (blk_cell BK119.out 0).trans rfl; have hcz26_1 : w25.cell? ⟨gb119, 1, none⟩ = some (.int .i64 x120001_2) := (blk_cell BK119.out 1).trans rfl; have hcz26_2 : w25.cell? ⟨gb119, 2, none⟩ = some (.int .i64 x120002_2) := (blk_cell BK119.out 2).trans rfl; have hcz26_3 : w25.cell? ⟨gb119, 3, none⟩ = some (.int .i64 x120003_2) := (blk_cell BK119.out 3).trans rfl; have hcz26_4 : w25.cell? ⟨gb119, 4, none⟩ = some (.int .i64 x120004_2) := (blk_cell BK119.out 4).trans rfl; have hcz26_5 : w25.cell? ⟨gb119, 5, none⟩ = some (.int .i64 x120005_2) := (blk_cell BK119.out 5).trans rfl; have hfz26_0 := blk_frozen BK119.out 0; have hfz26_1 := blk_frozen BK119.out 1; have hfz26_2 := blk_frozen BK119.out 2; have hfz26_3 := blk_frozen BK119.out 3; have hfz26_4 := blk_frozen BK119.out 4; have hfz26_5 := blk_frozen BK119.out 5))
                      refine bodyPost_ret (results_ctt rfl _ _ gb119 38 #[.int .i64 0, .int .i64 0, .int .i64 0, .int .i64 0, .int .i64 0, .int .i64 0] (0, 0) _ rfl (by (with_reducible repeat (first | refine blk_drewN ?_ _ | refine blk_drew ?_ | refine blk_alloc ?_ _)); refine blk_put (cs := #[.int .i64 0, .int .i64 0, .int .i64 0, .int .i64 0, .int .i64 0, .int .i64 x120005_2]) ?_ 5 _ rfl; (with_reducible repeat (first | refine blk_drewN ?_ _ | refine blk_drew ?_ | refine blk_alloc ?_ _)); refine blk_put (cs := #[.int .i64 0, .int .i64 0, .int .i64 0, .int .i64 0, .int .i64 x120004_2, .int .i64 x120005_2]) ?_ 4 _ rfl; (with_reducible repeat (first | refine blk_drewN ?_ _ | refine blk_drew ?_ | refine blk_alloc ?_ _)); refine blk_put (cs := #[.int .i64 0, .int .i64 0, .int .i64 0, .int .i64 x120003_2, .int .i64 x120004_2, .int .i64 x120005_2]) ?_ 3 _ rfl; (with_reducible repeat (first | refine blk_drewN ?_ _ | refine blk_drew ?_ | refine blk_alloc ?_ _)); refine blk_put (cs := #[.int .i64 0, .int .i64 0, .int .i64 x120002_2, .int .i64 x120003_2, .int .i64 x120004_2, .int .i64 x120005_2]) ?_ 2 _ rfl; (with_reducible repeat (first | refine blk_drewN ?_ _ | refine blk_drew ?_ | refine blk_alloc ?_ _)); refine blk_put (cs := #[.int .i64 0, .int .i64 x120001_2, .int .i64 x120002_2, .int .i64 x120003_2, .int .i64 x120004_2, .int .i64 x120005_2]) ?_ 1 _ rfl; (with_reducible repeat (first | refine blk_drewN ?_ _ | refine blk_drew ?_ | refine blk_alloc ?_ _)); refine blk_put (cs := #[.int .i64 x120000_2, .int .i64 x120001_2, .int .i64 x120002_2, .int .i64 x120003_2, .int .i64 x120004_2, .int .i64 x120005_2]) ?_ 0 _ rfl; (with_reducible repeat (first | refine blk_drewN ?_ _ | refine blk_drew ?_ | refine blk_alloc ?_ _)); exact BK119.out) Tryd.underlying38 rfl (by kernel_rfl)) rfl ?_
                      exact ⟨by first | rfl | (simp [errW_none, errW_some] <;> rfl) | (simp [*, errW_none, errW_some] <;> rfl), by repeat (first | (with_reducible first | exact HB.out | apply below_alloc | apply pw_below_drewN | apply below_drew1 | refine below_set ?_ GE119.out) | exact HB.out)⟩
                  · rw [if_neg c19] at H
                    exact absurd H (by simp)
                · rw [if_neg c18] at H
                  exact absurd H (by simp)
              · rw [if_neg c17] at H
                have c17b0 : decide (x28_2 < (y127.length : Int)) = false := decide_eq_false c17
                clear c17
                by_cases c7 : x6_2.length = 7
                · rw [if_pos c7] at H
                  obtain ⟨ok, hok, H⟩ := Option.bind_eq_some_iff.1 H
                  obtain ⟨b0, hb0⟩ : ∃ x, rd x6_2 0 = x := ⟨_, rfl⟩
                  obtain ⟨b1, hb1⟩ : ∃ x, rd x6_2 1 = x := ⟨_, rfl⟩
                  obtain ⟨b2, hb2⟩ : ∃ x, rd x6_2 2 = x := ⟨_, rfl⟩
                  obtain ⟨b3, hb3⟩ : ∃ x, rd x6_2 3 = x := ⟨_, rfl⟩
                  obtain ⟨b4, hb4⟩ : ∃ x, rd x6_2 4 = x := ⟨_, rfl⟩
                  obtain ⟨b5, hb5⟩ : ∃ x, rd x6_2 5 = x := ⟨_, rfl⟩
                  obtain ⟨b6, hb6⟩ : ∃ x, rd x6_2 6 = x := ⟨_, rfl⟩
                  rw [hb0, hb1, hb2, hb3, hb4, hb5, hb6] at H
                  rw [hb0, hb1, hb2, hb3, hb4, hb5] at hok
                  replace hok := Aside0.mk hok
                  replace hb0 := Aside0.mk hb0
                  replace hb1 := Aside0.mk hb1
                  replace hb2 := Aside0.mk hb2
                  replace hb3 := Aside0.mk hb3
                  replace hb4 := Aside0.mk hb4
                  replace hb5 := Aside0.mk hb5
                  replace hb6 := Aside0.mk hb6
                  have t7 : Aside0 (x6_2.length = 7) := ⟨c7⟩
                  have l0 : (0 < x6_2.length) = True := eq_true (by omega)
                  have l1 : (1 < x6_2.length) = True := eq_true (by omega)
                  have m1 : ((1 : Int) < (x6_2.length : Int)) = True := eq_true (by omega)
                  have l2 : (2 < x6_2.length) = True := eq_true (by omega)
                  have m2 : ((2 : Int) < (x6_2.length : Int)) = True := eq_true (by omega)
                  have l3 : (3 < x6_2.length) = True := eq_true (by omega)
                  have m3 : ((3 : Int) < (x6_2.length : Int)) = True := eq_true (by omega)
                  have l4 : (4 < x6_2.length) = True := eq_true (by omega)
                  have m4 : ((4 : Int) < (x6_2.length : Int)) = True := eq_true (by omega)
                  have l5 : (5 < x6_2.length) = True := eq_true (by omega)
                  have m5 : ((5 : Int) < (x6_2.length : Int)) = True := eq_true (by omega)
                  have l6 : (6 < x6_2.length) = True := eq_true (by omega)
                  have m6 : ((6 : Int) < (x6_2.length : Int)) = True := eq_true (by omega)
                  clear c7
                  obtain ⟨g, cap, eg, hgb, hgl, cg, hcg⟩ := Kd.R_form HO_6.out (by have := t7.out; omega)
                  subst eg
                  have hg : g ≠ gb119 := by
                    intro e
                    have h1 := BK119.out
                    rw [← e, hcg] at h1
                    injection h1 with h1
                    injection h1 with _ h1
                    exact absurd h1 (by decide)
                  have hR2 := Aside0.mk HO_6.out
                  have hgl2 := Aside0.mk hgl
                  have BKb := Aside0.mk BK119.out
                  have HBb := Aside0.mk HB.out
                  have e0 := (Kd.R_cell 0 hR2.out 0 (by omega) (by have := t7.out; omega)).1.trans (congrArg (fun x => some (Value.int .i64 x)) hb0.out)
                  have e1 := (Kd.R_cell 0 hR2.out 1 (by omega) (by have := t7.out; omega)).1.trans (congrArg (fun x => some (Value.int .i64 x)) hb1.out)
                  have e2 := (Kd.R_cell 0 hR2.out 2 (by omega) (by have := t7.out; omega)).1.trans (congrArg (fun x => some (Value.int .i64 x)) hb2.out)
                  have e3 := (Kd.R_cell 0 hR2.out 3 (by omega) (by have := t7.out; omega)).1.trans (congrArg (fun x => some (Value.int .i64 x)) hb3.out)
                  have e4 := (Kd.R_cell 0 hR2.out 4 (by omega) (by have := t7.out; omega)).1.trans (congrArg (fun x => some (Value.int .i64 x)) hb4.out)
                  have e5 := (Kd.R_cell 0 hR2.out 5 (by omega) (by have := t7.out; omega)).1.trans (congrArg (fun x => some (Value.int .i64 x)) hb5.out)
                  have e6 := (Kd.R_cell 0 hR2.out 6 (by omega) (by have := t7.out; omega)).1.trans (congrArg (fun x => some (Value.int .i64 x)) hb6.out)
                  clear HO_6 HB BK119 hgl hcg hgb
                  go_wp2
                  go_region_held3 (fun W' => W'.cell? ⟨g, 0, none⟩ = some (.int .i64 b0) ∧ W'.cell? ⟨g, 1, none⟩ = some (.int .i64 b1) ∧ W'.cell? ⟨g, 2, none⟩ = some (.int .i64 b2) ∧ W'.cell? ⟨g, 3, none⟩ = some (.int .i64 b3) ∧ W'.cell? ⟨g, 4, none⟩ = some (.int .i64 b4) ∧ W'.cell? ⟨g, 5, none⟩ = some (.int .i64 b5) ∧ W'.cell? ⟨g, 6, none⟩ = some (.int .i64 b6)) (first | exact ⟨e0, e1, e2, e3, e4, e5, e6⟩ | exact ⟨Lib.cell?_alloc_some _ e0, Lib.cell?_alloc_some _ e1, Lib.cell?_alloc_some _ e2, Lib.cell?_alloc_some _ e3, Lib.cell?_alloc_some _ e4, Lib.cell?_alloc_some _ e5, Lib.cell?_alloc_some _ e6⟩) (fail)
                  have hq : wr.heap.size ≠ gb119 := Nat.ne_of_gt (blk_lt BKb.out)
                  refine Prs.hideX (R := fun W => W.heap[wr.heap.size]? = some (.cells (Prs.six b0 b1 b2 b3 b4 b5) 38 (0, 0)) ∧ W.heap[gb119]? = some (.cells (Prs.six x120000_2 x120001_2 x120002_2 x120003_2 x120004_2 x120005_2) 38 (0, 0)) ∧ (Kd.int .i64).R 3 W w.heap.size (fun _ => True) (.slice (some ⟨g, 0, none⟩) x6_2.length cap) x6_2 ∧ Below w.heap.size w W) (G := fun W => Exit.then _ _ _ _ W) ⟨blk_drew (blk_new wr _), blk_drew (blk_alloc BKb.out _), Kd.R_drew (Kd.R_alloc hR2.out _), below_drew1 (below_alloc HBb.out _)⟩ ?_
                  rintro w3 ⟨N3, Z3, L3, B3⟩
                  replace N3 := Aside0.mk N3
                  replace Z3 := Aside0.mk Z3
                  replace L3 := Aside0.mk L3
                  replace B3 := Aside0.mk B3
                  clear e0 e1 e2 e3 e4 e5 e6 BKb HBb hR2 hgl2
                  have n0 : w3.cell? ⟨wr.heap.size, 0, none⟩ = some (.int .i64 b0) := (blk_cell N3.out 0).trans rfl
                  have n1 : w3.cell? ⟨wr.heap.size, 1, none⟩ = some (.int .i64 b1) := (blk_cell N3.out 1).trans rfl
                  have n2 : w3.cell? ⟨wr.heap.size, 2, none⟩ = some (.int .i64 b2) := (blk_cell N3.out 2).trans rfl
                  have n3 : w3.cell? ⟨wr.heap.size, 3, none⟩ = some (.int .i64 b3) := (blk_cell N3.out 3).trans rfl
                  have n4 : w3.cell? ⟨wr.heap.size, 4, none⟩ = some (.int .i64 b4) := (blk_cell N3.out 4).trans rfl
                  have n5 : w3.cell? ⟨wr.heap.size, 5, none⟩ = some (.int .i64 b5) := (blk_cell N3.out 5).trans rfl
                  cases ok with
                  | false =>
                    simp only [Bool.false_eq_true, if_false, Option.some.injEq, Prod.mk.injEq] at H
                    obtain ⟨rfl, rfl, rfl, rfl, rfl, rfl, rfl, rfl⟩ := H
                    go_wp2_with (first | (go_at_call 36; refine (spec_ConfigOK.calls b0 b1 b2 b3 b4 b5 false w3 hok.out).mono ?_; rintro e w4 ⟨rfl, hB4⟩; have N4 := Aside0.mk ((hB4.block _ (blk_lt N3.out)).trans N3.out); have Z4 := Aside0.mk ((hB4.block _ (blk_lt Z3.out)).trans Z3.out); have L4 := Aside0.mk (Kd.R_below L3.out hB4); have B4 := Aside0.mk (below_step B3.out hB4); clear hB4 n0 n1 n2 n3 n4 n5; have n0 : w4.cell? ⟨wr.heap.size, 0, none⟩ = some (.int .i64 b0) := (blk_cell N4.out 0).trans rfl; have n1 : w4.cell? ⟨wr.heap.size, 1, none⟩ = some (.int .i64 b1) := (blk_cell N4.out 1).trans rfl; have n2 : w4.cell? ⟨wr.heap.size, 2, none⟩ = some (.int .i64 b2) := (blk_cell N4.out 2).trans rfl; have n3 : w4.cell? ⟨wr.heap.size, 3, none⟩ = some (.int .i64 b3) := (blk_cell N4.out 3).trans rfl; have n4 : w4.cell? ⟨wr.heap.size, 4, none⟩ = some (.int .i64 b4) := (blk_cell N4.out 4).trans rfl; have n5 : w4.cell? ⟨wr.heap.size, 5, none⟩ = some (.int .i64 b5) := (blk_cell N4.out 5).trans rfl; have z0 : w4.cell? ⟨gb119, 0, none⟩ = some (.int .i64 x120000_2) := (blk_cell Z4.out 0).trans rfl; have fz0 := blk_frozen Z4.out 0; have z1 : w4.cell? ⟨gb119, 1, none⟩ = some (.int .i64 x120001_2) := (blk_cell Z4.out 1).trans rfl; have fz1 := blk_frozen Z4.out 1; have z2 : w4.cell? ⟨gb119, 2, none⟩ = some (.int .i64 x120002_2) := (blk_cell Z4.out 2).trans rfl; have fz2 := blk_frozen Z4.out 2; have z3 : w4.cell? ⟨gb119, 3, none⟩ = some (.int .i64 x120003_2) := (blk_cell Z4.out 3).trans rfl; have fz3 := blk_frozen Z4.out 3; have z4 : w4.cell? ⟨gb119, 4, none⟩ = some (.int .i64 x120004_2) := (blk_cell Z4.out 4).trans rfl; have fz4 := blk_frozen Z4.out 4; have z5 : w4.cell? ⟨gb119, 5, none⟩ = some (.int .i64 x120005_2) := (blk_cell Z4.out 5).trans rfl; have fz5 := blk_frozen Z4.out 5; have e6 : w4.cell? ⟨g, 6, none⟩ = some (.int .i64 b6) := (Kd.R_cell 0 L4.out 6 (by omega) (by have := t7.out; omega)).1.trans (congrArg (fun x => some (Value.int .i64 x)) hb6.out)))
                    refine bodyPost_ret (results_ctt rfl _ _ gb119 38 (Prs.six 0 0 0 0 0 0) (0, 0) _ rfl (Prs.put Z4.out 0 0 0 0 0 0) Tryd.underlying38 rfl (by kernel_rfl)) rfl ?_
                    exact ⟨rfl, Prs.belowG GE119.out B4.out⟩
                  | true =>
                    simp only [if_true] at H
                    by_cases c1 : b6 > 1000000000
                    · rw [if_pos c1] at H
                      simp only [Option.some.injEq, Prod.mk.injEq] at H
                      obtain ⟨rfl, rfl, rfl, rfl, rfl, rfl, rfl, rfl⟩ := H
                      have c1b : decide (b6 > 1000000000) = true := decide_eq_true c1
                      clear c1
                      go_wp2_with (first | (go_at_call 36; refine (spec_ConfigOK.calls b0 b1 b2 b3 b4 b5 true w3 hok.out).mono ?_; rintro e w4 ⟨rfl, hB4⟩; have N4 := Aside0.mk ((hB4.block _ (blk_lt N3.out)).trans N3.out); have Z4 := Aside0.mk ((hB4.block _ (blk_lt Z3.out)).trans Z3.out); have L4 := Aside0.mk (Kd.R_below L3.out hB4); have B4 := Aside0.mk (below_step B3.out hB4); clear hB4 n0 n1 n2 n3 n4 n5; have n0 : w4.cell? ⟨wr.heap.size, 0, none⟩ = some (.int .i64 b0) := (blk_cell N4.out 0).trans rfl; have n1 : w4.cell? ⟨wr.heap.size, 1, none⟩ = some (.int .i64 b1) := (blk_cell N4.out 1).trans rfl; have n2 : w4.cell? ⟨wr.heap.size, 2, none⟩ = some (.int .i64 b2) := (blk_cell N4.out 2).trans rfl; have n3 : w4.cell? ⟨wr.heap.size, 3, none⟩ = some (.int .i64 b3) := (blk_cell N4.out 3).trans rfl; have n4 : w4.cell? ⟨wr.heap.size, 4, none⟩ = some (.int .i64 b4) := (blk_cell N4.out 4).trans rfl; have n5 : w4.cell? ⟨wr.heap.size, 5, none⟩ = some (.int .i64 b5) := (blk_cell N4.out 5).trans rfl; have z0 : w4.cell? ⟨gb119, 0, none⟩ = some (.int .i64 x120000_2) := (blk_cell Z4.out 0).trans rfl; have fz0 := blk_frozen Z4.out 0; have z1 : w4.cell? ⟨gb119, 1, none⟩ = some (.int .i64 x120001_2) := (blk_cell Z4.out 1).trans rfl; have fz1 := blk_frozen Z4.out 1; have z2 : w4.cell? ⟨gb119, 2, none⟩ = some (.int .i64 x120002_2) := (blk_cell Z4.out 2).trans rfl; have fz2 := blk_frozen Z4.out 2; have z3 : w4.cell? ⟨gb119, 3, none⟩ = some (.int .i64 x120003_2) := (blk_cell Z4.out 3).trans rfl; have fz3 := blk_frozen Z4.out 3; have z4 : w4.cell? ⟨gb119, 4, none⟩ = some (.int .i64 x120004_2) := (blk_cell Z4.out 4).trans rfl; have fz4 := blk_frozen Z4.out 4; have z5 : w4.cell? ⟨gb119, 5, none⟩ = some (.int .i64 x120005_2) := (blk_cell Z4.out 5).trans rfl; have fz5 := blk_frozen Z4.out 5; have e6 : w4.cell? ⟨g, 6, none⟩ = some (.int .i64 b6) := (Kd.R_cell 0 L4.out 6 (by omega) (by have := t7.out; omega)).1.trans (congrArg (fun x => some (Value.int .i64 x)) hb6.out)))
                      refine bodyPost_ret (results_ctt rfl _ _ gb119 38 (Prs.six 0 0 0 0 0 0) (0, 0) _ rfl (Prs.put Z4.out 0 0 0 0 0 0) Tryd.underlying38 rfl (by kernel_rfl)) rfl ?_
                      exact ⟨rfl, Prs.belowG GE119.out B4.out⟩
                    · rw [if_neg c1] at H
                      simp only [Option.some.injEq, Prod.mk.injEq] at H
                      obtain ⟨rfl, rfl, rfl, rfl, rfl, rfl, rfl, rfl⟩ := H
                      have c1b : decide (b6 > 1000000000) = false := decide_eq_false c1
                      clear c1
                      go_wp2_with (first | (go_at_call 36; refine (spec_ConfigOK.calls b0 b1 b2 b3 b4 b5 true w3 hok.out).mono ?_; rintro e w4 ⟨rfl, hB4⟩; have N4 := Aside0.mk ((hB4.block _ (blk_lt N3.out)).trans N3.out); have Z4 := Aside0.mk ((hB4.block _ (blk_lt Z3.out)).trans Z3.out); have L4 := Aside0.mk (Kd.R_below L3.out hB4); have B4 := Aside0.mk (below_step B3.out hB4); clear hB4 n0 n1 n2 n3 n4 n5; have n0 : w4.cell? ⟨wr.heap.size, 0, none⟩ = some (.int .i64 b0) := (blk_cell N4.out 0).trans rfl; have n1 : w4.cell? ⟨wr.heap.size, 1, none⟩ = some (.int .i64 b1) := (blk_cell N4.out 1).trans rfl; have n2 : w4.cell? ⟨wr.heap.size, 2, none⟩ = some (.int .i64 b2) := (blk_cell N4.out 2).trans rfl; have n3 : w4.cell? ⟨wr.heap.size, 3, none⟩ = some (.int .i64 b3) := (blk_cell N4.out 3).trans rfl; have n4 : w4.cell? ⟨wr.heap.size, 4, none⟩ = some (.int .i64 b4) := (blk_cell N4.out 4).trans rfl; have n5 : w4.cell? ⟨wr.heap.size, 5, none⟩ = some (.int .i64 b5) := (blk_cell N4.out 5).trans rfl; have z0 : w4.cell? ⟨gb119, 0, none⟩ = some (.int .i64 x120000_2) := (blk_cell Z4.out 0).trans rfl; have fz0 := blk_frozen Z4.out 0; have z1 : w4.cell? ⟨gb119, 1, none⟩ = some (.int .i64 x120001_2) := (blk_cell Z4.out 1).trans rfl; have fz1 := blk_frozen Z4.out 1; have z2 : w4.cell? ⟨gb119, 2, none⟩ = some (.int .i64 x120002_2) := (blk_cell Z4.out 2).trans rfl; have fz2 := blk_frozen Z4.out 2; have z3 : w4.cell? ⟨gb119, 3, none⟩ = some (.int .i64 x120003_2) := (blk_cell Z4.out 3).trans rfl; have fz3 := blk_frozen Z4.out 3; have z4 : w4.cell? ⟨gb119, 4, none⟩ = some (.int .i64 x120004_2) := (blk_cell Z4.out 4).trans rfl; have fz4 := blk_frozen Z4.out 4; have z5 : w4.cell? ⟨gb119, 5, none⟩ = some (.int .i64 x120005_2) := (blk_cell Z4.out 5).trans rfl; have fz5 := blk_frozen Z4.out 5; have e6 : w4.cell? ⟨g, 6, none⟩ = some (.int .i64 b6) := (Kd.R_cell 0 L4.out 6 (by omega) (by have := t7.out; omega)).1.trans (congrArg (fun x => some (Value.int .i64 x)) hb6.out)))
                      have dS : w4.drew.cell? ⟨wr.heap.size, 0, none⟩ = some (.int .i64 b0) ∧ w4.drew.cell? ⟨wr.heap.size, 1, none⟩ = some (.int .i64 b1) ∧ w4.drew.cell? ⟨wr.heap.size, 2, none⟩ = some (.int .i64 b2) ∧ w4.drew.cell? ⟨wr.heap.size, 3, none⟩ = some (.int .i64 b3) ∧ w4.drew.cell? ⟨wr.heap.size, 4, none⟩ = some (.int .i64 b4) ∧ w4.drew.cell? ⟨wr.heap.size, 5, none⟩ = some (.int .i64 b5) ∧ w4.drew.cell? ⟨g, 6, none⟩ = some (.int .i64 b6) := ⟨n0, n1, n2, n3, n4, n5, e6⟩
                      have dT := Prs.drewS (Prs.farS (W := w4) hq hg (.int .i64 b0) (.int .i64 b1) (.int .i64 b2) (.int .i64 b3) (.int .i64 b4) (.int .i64 b5) ⟨n0, n1, n2, n3, n4, n5, e6⟩)
                      go_region_held3 (fun W' => W'.cell? ⟨wr.heap.size, 0, none⟩ = some (.int .i64 b0) ∧ W'.cell? ⟨wr.heap.size, 1, none⟩ = some (.int .i64 b1) ∧ W'.cell? ⟨wr.heap.size, 2, none⟩ = some (.int .i64 b2) ∧ W'.cell? ⟨wr.heap.size, 3, none⟩ = some (.int .i64 b3) ∧ W'.cell? ⟨wr.heap.size, 4, none⟩ = some (.int .i64 b4) ∧ W'.cell? ⟨wr.heap.size, 5, none⟩ = some (.int .i64 b5) ∧ W'.cell? ⟨g, 6, none⟩ = some (.int .i64 b6)) (first | with_reducible exact dS | with_reducible exact dT | with_reducible assumption | (with_reducible refine Prs.farS hq hg _ _ _ _ _ _ ?_; with_reducible assumption)) (fail)
                      go_wp2_with fail
                      refine bodyPost_ret (results_ctt rfl _ _ gb119 38 (Prs.six b0 b1 b2 b3 b4 b5) (0, 0) _ rfl (blk_drew (Prs.put Z4.out b0 b1 b2 b3 b4 b5)) Tryd.underlying38 rfl (by kernel_rfl)) rfl ?_
                      exact ⟨rfl, below_drew1 (Prs.belowG GE119.out B4.out)⟩
                · rw [if_neg c7] at H
                  cases H
        · rw [if_neg c12] at H
          exact absurd H (by simp)

end Go.Proofs.YtogoblkehdmapaaDoor.M
