import Derived.Test.YtikbfjnbhogihaaGreatDoorM0
import Derived.Test.YtikbfjnbhogihaaGreatDoorLabLen
import Derived.Lib.DecodeN
import Derived.Test.YtikbfjnbhogihaaGreatDoorF134
import Derived.Test.YtikbfjnbhogihaaGreatDoorF168
namespace Go.Proofs.YtikbfjnbhogihaaGreatDoor.M
open Go.RowKit Go.Proofs.YtikbfjnbhogihaaGreatDoorW.PrintWords Go.Proofs.YtikbfjnbhogihaaGreatDoorW.PrintLast Go.Proofs.YtikbfjnbhogihaaGreatDoorW.PrintMore
attribute [local go_sem] max2_int min2_int max_two min_two max_three min_three max_four min_four
set_option linter.unusedVariables false
set_option linter.unusedSimpArgs false
attribute [local go_sem high] eqA141
/-! ### impl_Label_159: function 159 -/
def impl_Label_159.l0 : Nat → List (S141) → List (S141) → Int → Int → Option (Bool)
 | 0, _, _, _, _ => none
 | k + 1, x0, x1, x12, x13 => if x13 < x12 then (if 0 ≤ x13 then (if x13 < (x0.length : Int) then (if x13 < (x1.length : Int) then (if (!((((rd_T141 x0 x13).f0).toList) == (((rd_T141 x1 x13).f0).toList)) || (!((((rd_T141 x0 x13).f1).toList) == (((rd_T141 x1 x13).f1).toList)))) = true then (some false) else (impl_Label_159.l0 k x0 x1 x12 (wrap64 (x13 + 1)))) else (none)) else (none)) else (none)) else (some true)
def impl_Label_159.f (k : Nat) (l0 : List (S141)) (l1 : List (S141)) : Option (Bool) := if (l0.length : Int) = (l1.length : Int) then (impl_Label_159.l0 k l0 l1 (l0.length : Int) 0) else (some false)
theorem impl_Label_159.mono_l : ∀ k, (∀ y0 y1 y2 y3, LeO (impl_Label_159.l0 k y0 y1 y2 y3) (impl_Label_159.l0 (k + 1) y0 y1 y2 y3))
 | 0 => fun _ _ _ _ r h => by simp [impl_Label_159.l0] at h
 | k + 1 => by
  have ih0 := impl_Label_159.mono_l k
  ·intro y0 y1 y2 y3
   unfold impl_Label_159.l0
   repeat' first
   | (with_reducible exact ih0 _ _ _ _)
   | (with_reducible exact LeO.refl _)
   | (with_reducible refine LeO.ite ?_ ?_)
theorem impl_Label_159.mono : ∀ a0 a1 k, LeO (impl_Label_159.f k a0 a1) (impl_Label_159.f (k + 1) a0 a1) := by
 intro a0 a1 k
 have ih0 := impl_Label_159.mono_l k
 unfold impl_Label_159.f
 repeat' first
   | (with_reducible exact ih0 _ _ _ _)
   | (with_reducible exact LeO.refl _)
   | (with_reducible refine LeO.ite ?_ ?_)
set_option maxHeartbeats 8000000 in
set_option maxRecDepth 100000 in
theorem impl_Label_159.calls (k : Nat) (A0 : Option Addr) (c0 : Nat) (l0 : List (S141)) (A1 : Option Addr) (c1 : Nat) (l1 : List (S141)) (r : Bool) (w : World) (hr0 : Kd.C k141 w A0 l0.length l0) (hc0 : l0.length ≤ c0) (hr1 : Kd.C k141 w A1 l1.length l1) (hc1 : l1.length ≤ c1) (h : impl_Label_159.f k l0 l1 = some r) :
  Calls Tryz.prog 159 #[.slice A0 l0.length c0, .slice A1 l1.length c1] w fun e w' => e = .returned (.bool r) ∧ Drawn0 w w' := by
 have HR0 := Aside0.mk hr0
 clear hr0 hc0
 have HR1 := Aside0.mk hr1
 clear hr1 hc1
 have H : (if (l0.length : Int) = (l1.length : Int) then (impl_Label_159.l0 k l0 l1 (l0.length : Int) 0) else (some false)) = some r := h
 clear h
 by_cases c3 : (l0.length : Int) = (l1.length : Int)
 ·rw [if_pos c3] at H
  have c3b1 : ((l0.length : Int) != (l1.length : Int)) = false := bne_eq_false_iff_eq.mpr c3
  clear c3
  have H' := Aside0.mk H
  clear H
  go_enter Tryz.func159, Tryz.ntmps159
  go_wp2
  repeat (go_quiet (fail))
  go_loopg [13] k (fun kq v13 w' => ∃ (x13_1 : Int), v13 = .int .i64 x13_1 ∧ Aside0 (impl_Label_159.l0 kq l0 l1 (l0.length : Int) x13_1 = some r) ∧ Aside0 (kq ≤ k) ∧ Drawn0 w w')
  case atStart => exact ⟨(0), (by rfl), H', ⟨Nat.le_refl _⟩, by repeat (exact Drawn0.refl _)⟩
  case round =>
   clear H'
   try clear c3b1
   obtain ⟨x13_1, rfl, HA, HK1, ⟨m1, rfl⟩⟩ := hrel
   cases gk with
   | zero => exact absurd HA.out (by simp [impl_Label_159.l0])
   | succ k1 =>
    have H := HA.out
    clear HA
    simp only [impl_Label_159.l0] at H
    by_cases c4 : x13_1 < (l0.length : Int)
    ·rw [if_pos c4] at H
     clear c4
     by_cases c5 : 0 ≤ x13_1
     ·rw [if_pos c5] at H
      have c5b0 : decide (0 ≤ x13_1) = true := decide_eq_true c5
      clear c5
      by_cases c6 : x13_1 < (l0.length : Int)
      ·rw [if_pos c6] at H
       have c6b0 : decide (x13_1 < (l0.length : Int)) = true := decide_eq_true c6
       clear c6
       by_cases c7 : x13_1 < (l1.length : Int)
       ·rw [if_pos c7] at H
        have c7b0 : decide (x13_1 < (l1.length : Int)) = true := decide_eq_true c7
        clear c7
        by_cases c8 : (!((((rd_T141 l0 x13_1).f0).toList) == (((rd_T141 l1 x13_1).f0).toList)) || (!((((rd_T141 l0 x13_1).f1).toList) == (((rd_T141 l1 x13_1).f1).toList)))) = true
        ·rw [if_pos c8] at H
         have c8b0 : (!((((rd_T141 l0 x13_1).f0).toList) == (((rd_T141 l1 x13_1).f0).toList)) || (!((((rd_T141 l0 x13_1).f1).toList) == (((rd_T141 l1 x13_1).f1).toList)))) = true := c8
         clear c8
         obtain rfl := Option.some.inj H
         have p260 : 0 ≤ (x13_1 : Int) := of_decide_eq_true (by (with_reducible assumption))
         have q260 : x13_1 < (l0.length : Int) := of_decide_eq_true (by (with_reducible assumption))
         obtain ⟨ad260, e260, hx260_0, hx260_1⟩ := at_T141 HR0.out x13_1 p260 q260
         cases e260
         replace p260 := eq_true p260
         replace q260 := eq_true q260
         have p261 : 0 ≤ (x13_1 : Int) := of_decide_eq_true (by (with_reducible assumption))
         have q261 : x13_1 < (l1.length : Int) := of_decide_eq_true (by (with_reducible assumption))
         obtain ⟨ad261, e261, hx261_0, hx261_1⟩ := at_T141 HR1.out x13_1 p261 q261
         cases e261
         replace q261 := eq_true q261
         go_wp2
         repeat (go_quiet (fail); try go_wp2)
         go_ret
         exact ⟨by rfl, by repeat (first | exact Drawn0.refl _ | apply Drawn0.step)⟩
        ·rw [if_neg c8] at H
         have c8b0 : (!((((rd_T141 l0 x13_1).f0).toList) == (((rd_T141 l1 x13_1).f0).toList)) || (!((((rd_T141 l0 x13_1).f1).toList) == (((rd_T141 l1 x13_1).f1).toList)))) = false := by simpa using c8
         clear c8
         have H' := Aside0.mk H
         clear H
         have p260 : 0 ≤ (x13_1 : Int) := of_decide_eq_true (by (with_reducible assumption))
         have q260 : x13_1 < (l0.length : Int) := of_decide_eq_true (by (with_reducible assumption))
         obtain ⟨ad260, e260, hx260_0, hx260_1⟩ := at_T141 HR0.out x13_1 p260 q260
         cases e260
         replace p260 := eq_true p260
         replace q260 := eq_true q260
         have p261 : 0 ≤ (x13_1 : Int) := of_decide_eq_true (by (with_reducible assumption))
         have q261 : x13_1 < (l1.length : Int) := of_decide_eq_true (by (with_reducible assumption))
         obtain ⟨ad261, e261, hx261_0, hx261_1⟩ := at_T141 HR1.out x13_1 p261 q261
         cases e261
         replace q261 := eq_true q261
         go_wp2
         repeat (go_quiet (fail); try go_wp2)
         go_roundg k1
         case measure => have := HK1.out; omega
         case rel => exact ⟨(wrap64 (x13_1 + 1)), (by rfl), H', ⟨by have := HK1.out; omega⟩, by repeat (first | exact Drawn0.refl _ | apply Drawn0.step)⟩
       ·rw [if_neg c7] at H
        exact absurd H (by simp)
      ·rw [if_neg c6] at H
       exact absurd H (by simp)
     ·rw [if_neg c5] at H
      exact absurd H (by simp)
    ·rw [if_neg c4] at H
     have c4b0 : decide (x13_1 < (l0.length : Int)) = false := decide_eq_false c4
     clear c4
     obtain rfl := Option.some.inj H
     go_wp2
     repeat (go_quiet (fail))
     go_ret
     exact ⟨by rfl, by repeat (first | exact Drawn0.refl _ | apply Drawn0.step)⟩
 ·rw [if_neg c3] at H
  have c3b1 : ((l0.length : Int) != (l1.length : Int)) = true := bne_iff_ne.mpr c3
  obtain rfl := Option.some.inj H
  go_enter Tryz.func159, Tryz.ntmps159
  go_wp2
  repeat (go_quiet (fail))
  go_ret
  exact ⟨by rfl, by repeat (exact Drawn0.refl _)⟩
end Go.Proofs.YtikbfjnbhogihaaGreatDoor.M
namespace Go.Proofs.YtikbfjnbhogihaaGreatDoor.M
open Go.RowKit Go.Proofs.YtikbfjnbhogihaaGreatDoorW.PrintWords Go.Proofs.YtikbfjnbhogihaaGreatDoorW.PrintLast Go.Proofs.YtikbfjnbhogihaaGreatDoorW.PrintMore
attribute [local go_sem] max2_int min2_int max_two min_two max_three min_three max_four min_four
set_option linter.unusedVariables false
set_option linter.unusedSimpArgs false
/-! ### spec_l4Idle: function 50 -/
def spec_l4Idle.f (a0_0 : ByteArray) (a0_1 : Int) (l0_2 : List (S91)) (l0_3 : List (S93)) : Option (Bool) := if a0_1 = (-1) then (if (l0_2.length : Int) = 0 then (some ((l0_3.length : Int) == 0)) else (some false)) else (some false)
set_option maxHeartbeats 8000000 in
set_option maxRecDepth 100000 in
theorem spec_l4Idle.calls (a0_0 : ByteArray) (a0_1 : Int) (A0_2 : Option Addr) (c0_2 : Nat) (l0_2 : List (S91)) (A0_3 : Option Addr) (c0_3 : Nat) (l0_3 : List (S93)) (r : Bool) (w : World) (hr0_2 : Kd.C k91 w A0_2 l0_2.length l0_2) (hc0_2 : l0_2.length ≤ c0_2) (hr0_3 : Kd.C k93 w A0_3 l0_3.length l0_3) (hc0_3 : l0_3.length ≤ c0_3) (h : spec_l4Idle.f a0_0 a0_1 l0_2 l0_3 = some r) :
  Calls Tryz.prog 50 #[.agg #[.string a0_0, .int .i64 a0_1, .slice A0_2 l0_2.length c0_2, .slice A0_3 l0_3.length c0_3]] w fun e w' => e = .returned (.bool r) ∧ Below w.heap.size w w' := by
 have hu87 := Tryz.underlying87
 have HR0_2 := Aside0.mk hr0_2
 have HC0_2 := Aside0.mk hc0_2
 clear hr0_2 hc0_2
 have HR0_3 := Aside0.mk hr0_3
 have HC0_3 := Aside0.mk hc0_3
 clear hr0_3 hc0_3
 have HB := Aside0.mk (Below.refl w.heap.size w)
 have H : (if a0_1 = (-1) then (if (l0_2.length : Int) = 0 then (some ((l0_3.length : Int) == 0)) else (some false)) else (some false)) = some r := h
 clear h
 by_cases c2 : a0_1 = (-1)
 ·rw [if_pos c2] at H
  have c2b0 : (a0_1 == (-1)) = true := beq_iff_eq.mpr c2
  have c2b1 : (a0_1 != (-1)) = false := bne_eq_false_iff_eq.mpr c2
  clear c2
  by_cases c3 : (l0_2.length : Int) = 0
  ·rw [if_pos c3] at H
   have c3b0 : ((l0_2.length : Int) == 0) = true := beq_iff_eq.mpr c3
   have c3b1 : ((l0_2.length : Int) != 0) = false := bne_eq_false_iff_eq.mpr c3
   clear c3
   obtain rfl := Option.some.inj H
   go_enter Tryz.func50, Tryz.ntmps50
   go_wp2_with (first | ((with_reducible refine gate_dst (N := 1) rfl ?_); (try (refine gate_guard (by rfl) ?_; dsimp only)); refine box_event ?hg (N := 1) ?hd (cs := #[.string a0_0, .int .i64 a0_1, .slice A0_2 l0_2.length c0_2, .slice A0_3 l0_3.length c0_3]) (t := 87) ?hr ?_; (case hd => rfl); (case hg => rfl); (case hr => first | (go_simp; done) | (go_simp; rfl)); intro gb115 hg w4 hbox hb; have n0_ := Aside0.mk (below_step (by repeat (first | (with_reducible first | exact HB.out | apply below_alloc | apply pw_below_drewN | apply below_drew1) | exact HB.out)) hb); have n1_ := Aside0.mk (hbox); have n2_ := Aside0.mk ((by rw [hg]; exact (below_size (by repeat (first | (with_reducible first | exact HB.out | apply below_alloc | apply pw_below_drewN | apply below_drew1) | exact HB.out))) : w.heap.size ≤ gb115)); have n3_ := Aside0.mk ((by rw [hg]; exact (below_size (by repeat (first | (with_reducible first | exact HB.out | apply below_alloc | apply pw_below_drewN | apply below_drew1) | exact HB.out))) : w.heap.size ≤ gb115)); clear HB; have HB := n0_; have BK115 := n1_; have GW115 := n2_; have GE115 := n3_; clear n0_ n1_ n2_ n3_; clear hb hbox hg; have hcz5_0 : w4.cell? ⟨gb115, 0, none⟩ = some (.string a0_0) := (blk_cell BK115.out 0).trans rfl; have hcz5_1 : w4.cell? ⟨gb115, 1, none⟩ = some (.int .i64 a0_1) := (blk_cell BK115.out 1).trans rfl; have hcz5_2 : w4.cell? ⟨gb115, 2, none⟩ = some (.slice A0_2 l0_2.length c0_2) := (blk_cell BK115.out 2).trans rfl; have hcz5_3 : w4.cell? ⟨gb115, 3, none⟩ = some (.slice A0_3 l0_3.length c0_3) := (blk_cell BK115.out 3).trans rfl; have hfz5_0 := blk_frozen BK115.out 0; have hfz5_1 := blk_frozen BK115.out 1; have hfz5_2 := blk_frozen BK115.out 2; have hfz5_3 := blk_frozen BK115.out 3))
   go_ret
   exact ⟨by first | rfl | (simp [errW_none, errW_some] <;> rfl) | (simp [*, errW_none, errW_some] <;> rfl), by repeat (first | (with_reducible first | exact HB.out | apply below_alloc | apply pw_below_drewN | apply below_drew1 | refine below_set ?_ GE115.out) | exact HB.out)⟩
  ·rw [if_neg c3] at H
   have c3b0 : ((l0_2.length : Int) == 0) = false := beq_eq_false_iff_ne.mpr c3
   have c3b1 : ((l0_2.length : Int) != 0) = true := bne_iff_ne.mpr c3
   have c3b2 : ¬ (l0_2 = []) := fun h_ => c3 (by rw [h_]; rfl)
   obtain rfl := Option.some.inj H
   go_enter Tryz.func50, Tryz.ntmps50
   go_wp2_with (first | ((with_reducible refine gate_dst (N := 1) rfl ?_); (try (refine gate_guard (by rfl) ?_; dsimp only)); refine box_event ?hg (N := 1) ?hd (cs := #[.string a0_0, .int .i64 a0_1, .slice A0_2 l0_2.length c0_2, .slice A0_3 l0_3.length c0_3]) (t := 87) ?hr ?_; (case hd => rfl); (case hg => rfl); (case hr => first | (go_simp; done) | (go_simp; rfl)); intro gb115 hg w6 hbox hb; have n0_ := Aside0.mk (below_step (by repeat (first | (with_reducible first | exact HB.out | apply below_alloc | apply pw_below_drewN | apply below_drew1) | exact HB.out)) hb); have n1_ := Aside0.mk (hbox); have n2_ := Aside0.mk ((by rw [hg]; exact (below_size (by repeat (first | (with_reducible first | exact HB.out | apply below_alloc | apply pw_below_drewN | apply below_drew1) | exact HB.out))) : w.heap.size ≤ gb115)); have n3_ := Aside0.mk ((by rw [hg]; exact (below_size (by repeat (first | (with_reducible first | exact HB.out | apply below_alloc | apply pw_below_drewN | apply below_drew1) | exact HB.out))) : w.heap.size ≤ gb115)); clear HB; have HB := n0_; have BK115 := n1_; have GW115 := n2_; have GE115 := n3_; clear n0_ n1_ n2_ n3_; clear hb hbox hg; have hcz7_0 : w6.cell? ⟨gb115, 0, none⟩ = some (.string a0_0) := (blk_cell BK115.out 0).trans rfl; have hcz7_1 : w6.cell? ⟨gb115, 1, none⟩ = some (.int .i64 a0_1) := (blk_cell BK115.out 1).trans rfl; have hcz7_2 : w6.cell? ⟨gb115, 2, none⟩ = some (.slice A0_2 l0_2.length c0_2) := (blk_cell BK115.out 2).trans rfl; have hcz7_3 : w6.cell? ⟨gb115, 3, none⟩ = some (.slice A0_3 l0_3.length c0_3) := (blk_cell BK115.out 3).trans rfl; have hfz7_0 := blk_frozen BK115.out 0; have hfz7_1 := blk_frozen BK115.out 1; have hfz7_2 := blk_frozen BK115.out 2; have hfz7_3 := blk_frozen BK115.out 3))
   go_ret
   exact ⟨by first | rfl | (simp [errW_none, errW_some] <;> rfl) | (simp [*, errW_none, errW_some] <;> rfl), by repeat (first | (with_reducible first | exact HB.out | apply below_alloc | apply pw_below_drewN | apply below_drew1 | refine below_set ?_ GE115.out) | exact HB.out)⟩
 ·rw [if_neg c2] at H
  have c2b0 : (a0_1 == (-1)) = false := beq_eq_false_iff_ne.mpr c2
  have c2b1 : (a0_1 != (-1)) = true := bne_iff_ne.mpr c2
  obtain rfl := Option.some.inj H
  go_enter Tryz.func50, Tryz.ntmps50
  go_wp2_with (first | ((with_reducible refine gate_dst (N := 1) rfl ?_); (try (refine gate_guard (by rfl) ?_; dsimp only)); refine box_event ?hg (N := 1) ?hd (cs := #[.string a0_0, .int .i64 a0_1, .slice A0_2 l0_2.length c0_2, .slice A0_3 l0_3.length c0_3]) (t := 87) ?hr ?_; (case hd => rfl); (case hg => rfl); (case hr => first | (go_simp; done) | (go_simp; rfl)); intro gb115 hg w8 hbox hb; have n0_ := Aside0.mk (below_step (by repeat (first | (with_reducible first | exact HB.out | apply below_alloc | apply pw_below_drewN | apply below_drew1) | exact HB.out)) hb); have n1_ := Aside0.mk (hbox); have n2_ := Aside0.mk ((by rw [hg]; exact (below_size (by repeat (first | (with_reducible first | exact HB.out | apply below_alloc | apply pw_below_drewN | apply below_drew1) | exact HB.out))) : w.heap.size ≤ gb115)); have n3_ := Aside0.mk ((by rw [hg]; exact (below_size (by repeat (first | (with_reducible first | exact HB.out | apply below_alloc | apply pw_below_drewN | apply below_drew1) | exact HB.out))) : w.heap.size ≤ gb115)); clear HB; have HB := n0_; have BK115 := n1_; have GW115 := n2_; have GE115 := n3_; clear n0_ n1_ n2_ n3_; clear hb hbox hg; have hcz9_0 : w8.cell? ⟨gb115, 0, none⟩ = some (.string a0_0) := (blk_cell BK115.out 0).trans rfl; have hcz9_1 : w8.cell? ⟨gb115, 1, none⟩ = some (.int .i64 a0_1) := (blk_cell BK115.out 1).trans rfl; have hcz9_2 : w8.cell? ⟨gb115, 2, none⟩ = some (.slice A0_2 l0_2.length c0_2) := (blk_cell BK115.out 2).trans rfl; have hcz9_3 : w8.cell? ⟨gb115, 3, none⟩ = some (.slice A0_3 l0_3.length c0_3) := (blk_cell BK115.out 3).trans rfl; have hfz9_0 := blk_frozen BK115.out 0; have hfz9_1 := blk_frozen BK115.out 1; have hfz9_2 := blk_frozen BK115.out 2; have hfz9_3 := blk_frozen BK115.out 3))
  go_ret
  exact ⟨by first | rfl | (simp [errW_none, errW_some] <;> rfl) | (simp [*, errW_none, errW_some] <;> rfl), by repeat (first | (with_reducible first | exact HB.out | apply below_alloc | apply pw_below_drewN | apply below_drew1 | refine below_set ?_ GE115.out) | exact HB.out)⟩
end Go.Proofs.YtikbfjnbhogihaaGreatDoor.M
/- A value's fault, as the reference finds it: plain. -/
namespace Go.Proofs.YtikbfjnbhogihaaGreatDoor.Can
open Go.Proofs.YtikbfjnbhogihaaGreatDoor.M Go.Proofs.YtikbfjnbhogihaaGreatDoor.Loops Go.Proofs.YtikbfjnbhogihaaGreatDoor.Utf Go.Proofs.YtikbfjnbhogihaaGreatDoorW.PrintWords Go.Proofs.YtikbfjnbhogihaaGreatDoorW.PrintLast Go.Proofs.YtikbfjnbhogihaaGreatDoorW.PrintMore Go.RowKit
set_option linter.unusedVariables false
def nb (s : ByteArray) (i : Nat) : Nat := (s.get! i).toNat
theorem nb_lt (s : ByteArray) (i : Nat) : nb s i < 256 := (s.get! i).toNat_lt
theorem bt_nb (s : ByteArray) (i : Nat) (h : i < s.size) : bt s (i : Int) = (nb s i : Int) := by
 rw [← bt_at s (i : Int) (by rw [Int.toNat_natCast]; exact h)]
 unfold nb
 rw [Utf8W.get!_of_lt s i h]
 simp only [Int.toNat_natCast]
def fini (c mn n : Nat) : Int × Int := if c < mn then (0, 0) else if 1114111 < c then (0, 0) else if 55296 ≤ c ∧ c ≤ 57343 then (0, 0) else ((c : Int), (n : Int))
theorem td (b : Nat) (q : Nat) : Int.tdiv (b : Int) ((q : Nat) : Int) = ((b / q : Nat) : Int) := rfl
theorem tm (b : Nat) (q : Nat) : Int.tmod (b : Int) ((q : Nat) : Int) = ((b % q : Nat) : Int) := rfl
theorem rune_go (k : Nat) (s : ByteArray) (n c mn i : Nat) (hi : i < n) (hn : n ≤ s.size) (hc : c < 1000000000) (hz : i < 100) :
  spec_l3Rune.l0 (k + 1) s (n : Int) (c : Int) (mn : Int) (i : Int) = if nb s i / 64 = 2 then spec_l3Rune.l0 k s (n : Int) ((c * 64 + nb s i % 64 : Nat) : Int) (mn : Int) ((i + 1 : Nat) : Int) else some (0, 0) := by
 have hb := nb_lt s i
 conv => lhs; unfold spec_l3Rune.l0
 rw [if_pos (by omega), if_pos (by omega), if_pos (by omega), bt_nb s i (by omega)]
 generalize nb s i = b at hb ⊢
 have e1 : wrap64 (b : Int) = (b : Int) := w_id _ (by omega) (by omega)
 have e2 : Int.tdiv (b : Int) 64 = ((b / 64 : Nat) : Int) := td b 64
 have e3 : Int.tmod (b : Int) 64 = ((b % 64 : Nat) : Int) := tm b 64
 have e4 : wrap64 ((b / 64 : Nat) : Int) = ((b / 64 : Nat) : Int) := w_id _ (by omega) (by omega)
 have e5 : wrap64 ((c : Int) * 64) = ((c * 64 : Nat) : Int) := (w_id _ (by omega) (by omega)).trans (by omega)
 have e6 : wrap64 (((c * 64 : Nat) : Int) + ((b % 64 : Nat) : Int)) = ((c * 64 + b % 64 : Nat) : Int) := (w_id _ (by omega) (by omega)).trans (by omega)
 rw [e1, e2, e3, e4, e5, e6, w_succ i (by omega)]
 by_cases h : b / 64 = 2
 ·rw [if_pos h, if_pos (by omega)]
 ·rw [if_neg h, if_neg (by omega)]
theorem rune_end (k : Nat) (s : ByteArray) (n c mn : Nat) : spec_l3Rune.l0 (k + 1) s (n : Int) (c : Int) (mn : Int) (n : Int) = some (fini c mn n) := by
 conv => lhs; unfold spec_l3Rune.l0
 unfold spec_l1Between.f fini
 rw [if_neg (by omega)]
 by_cases h1 : c < mn
 ·rw [if_pos h1, if_pos (by omega)]
 ·rw [if_neg h1, if_neg (by omega)]
  by_cases h2 : 1114111 < c
  ·rw [if_pos h2, if_pos (by omega)]
  ·rw [if_neg h2, if_neg (by omega)]
   by_cases h3 : 55296 ≤ c
   ·rw [if_pos (show (55296 : Int) ≤ (c : Int) by omega)]
    simp only [Option.bind_some]
    by_cases h4 : c ≤ 57343
    ·rw [if_pos (decide_eq_true (show (c : Int) ≤ 57343 by omega)), if_pos ⟨h3, h4⟩]
    ·rw [if_neg (show ¬ decide ((c : Int) ≤ 57343) = true by simp; omega), if_neg (show ¬ (55296 ≤ c ∧ c ≤ 57343) from fun h => h4 h.2)]
   ·rw [if_neg (show ¬ (55296 : Int) ≤ (c : Int) by omega), if_neg (show ¬ (55296 ≤ c ∧ c ≤ 57343) from fun h => h3 h.1)]
    simp only [Option.bind_some]
    rfl
def told (d : Nat × Nat) : Int × Int := if d.1 = 65533 ∧ d.2 = 1 then (0, 0) else ((d.1 : Int), (d.2 : Int))
theorem told_wide (c w : Nat) (h : w ≠ 1) : told (c, w) = ((c : Int), (w : Int)) := by
 unfold told
 rw [if_neg (fun e => h e.2)]
theorem told1 (n b0 b1 b2 b3 : Nat) (h : b0 < 128) : told (Lib.decodeN n b0 b1 b2 b3) = ((b0 : Int), 1) := by
 unfold Lib.decodeN told
 rw [if_pos h, if_neg (fun e => by have := e.1; omega)]
 rfl
theorem told2 (n b0 b1 b2 b3 : Nat) (h : b0 / 32 = 6) : told (Lib.decodeN n b0 b1 b2 b3) = if n < 2 then (0, 0) else if b1 / 64 = 2 then fini (b0 % 32 * 64 + b1 % 64) 128 2 else (0, 0) := by
 unfold Lib.decodeN
 rw [if_neg (by omega)]
 by_cases hn : n < 2
 ·rw [if_pos hn, if_neg (by omega), if_neg (by omega), if_neg (by omega)]; rfl
 ·rw [if_neg hn]
  by_cases h1 : b1 / 64 = 2
  ·rw [if_pos h1, if_pos ⟨h, by omega, h1⟩]
   unfold fini
   by_cases h2 : b0 % 32 * 64 + b1 % 64 < 128
   ·rw [if_pos h2, if_neg (by omega)]; rfl
   ·rw [if_neg h2, if_pos (by omega), if_neg (by omega), if_neg (by omega)]; exact told_wide _ 2 (by decide)
  ·rw [if_neg h1, if_neg (by omega), if_neg (by omega), if_neg (by omega)]; rfl
theorem told3 (n b0 b1 b2 b3 : Nat) (h : b0 / 16 = 14) : told (Lib.decodeN n b0 b1 b2 b3) = if n < 3 then (0, 0) else if b1 / 64 = 2 then (if b2 / 64 = 2 then fini ((b0 % 16 * 64 + b1 % 64) * 64 + b2 % 64) 2048 3 else (0, 0)) else (0, 0) := by
 unfold Lib.decodeN
 rw [if_neg (by omega), if_neg (by omega)]
 by_cases hn : n < 3
 ·rw [if_pos hn, if_neg (by omega), if_neg (by omega)]; rfl
 ·rw [if_neg hn]
  by_cases h1 : b1 / 64 = 2
  ·by_cases h2 : b2 / 64 = 2
   ·rw [if_pos h1, if_pos h2, if_pos ⟨h, ⟨by omega, h1⟩, by omega, h2⟩]
    have e : b0 % 16 * 4096 + b1 % 64 * 64 + b2 % 64 = (b0 % 16 * 64 + b1 % 64) * 64 + b2 % 64 := by omega
    rw [e]
    have hm : (b0 % 16 * 64 + b1 % 64) * 64 + b2 % 64 < 65536 := by omega
    generalize (b0 % 16 * 64 + b1 % 64) * 64 + b2 % 64 = c at hm ⊢
    unfold fini
    by_cases h3 : c < 2048
    ·rw [if_pos h3, if_neg (by omega)]; rfl
    ·rw [if_neg h3, if_neg (show ¬ 1114111 < c by omega)]
     by_cases h4 : 55296 ≤ c ∧ c ≤ 57343
     ·rw [if_pos h4, if_neg (by omega)]; rfl
     ·rw [if_neg h4, if_pos (by omega)]; exact told_wide _ 3 (by decide)
   ·rw [if_pos h1, if_neg h2, if_neg (by omega), if_neg (by omega)]; rfl
  ·rw [if_neg h1, if_neg (by omega), if_neg (by omega)]; rfl
theorem told4 (n b0 b1 b2 b3 : Nat) (h : b0 / 8 = 30) : told (Lib.decodeN n b0 b1 b2 b3) = if n < 4 then (0, 0) else if b1 / 64 = 2 then (if b2 / 64 = 2 then (if b3 / 64 = 2 then fini (((b0 % 8 * 64 + b1 % 64) * 64 + b2 % 64) * 64 + b3 % 64) 65536 4 else (0, 0)) else (0, 0)) else (0, 0) := by
 unfold Lib.decodeN
 rw [if_neg (by omega), if_neg (by omega), if_neg (by omega)]
 by_cases hn : n < 4
 ·rw [if_pos hn, if_neg (by omega)]; rfl
 ·rw [if_neg hn]
  by_cases h1 : b1 / 64 = 2
  ·by_cases h2 : b2 / 64 = 2
   ·by_cases h3 : b3 / 64 = 2
    ·rw [if_pos h1, if_pos h2, if_pos h3, if_pos ⟨h, ⟨by omega, h1⟩, ⟨by omega, h2⟩, by omega, h3⟩]
     have e : b0 % 8 * 262144 + b1 % 64 * 4096 + b2 % 64 * 64 + b3 % 64 = ((b0 % 8 * 64 + b1 % 64) * 64 + b2 % 64) * 64 + b3 % 64 := by omega
     rw [e]
     generalize ((b0 % 8 * 64 + b1 % 64) * 64 + b2 % 64) * 64 + b3 % 64 = c
     unfold fini
     by_cases h4 : c < 65536
     ·rw [if_pos h4, if_neg (by omega)]; rfl
     ·rw [if_neg h4]
      by_cases h5 : 1114111 < c
      ·rw [if_pos h5, if_neg (by omega)]; rfl
      ·rw [if_neg h5, if_neg (show ¬ (55296 ≤ c ∧ c ≤ 57343) by omega), if_pos (by omega)]; exact told_wide _ 4 (by decide)
    ·rw [if_pos h1, if_pos h2, if_neg h3, if_neg (by omega)]; rfl
   ·rw [if_pos h1, if_neg h2, if_neg (by omega)]; rfl
  ·rw [if_neg h1, if_neg (by omega)]; rfl
theorem told0 (n b0 b1 b2 b3 : Nat) (h0 : ¬ b0 < 128) (h1 : ¬ b0 / 32 = 6) (h2 : ¬ b0 / 16 = 14) (h3 : ¬ b0 / 8 = 30) : told (Lib.decodeN n b0 b1 b2 b3) = (0, 0) := by
 unfold Lib.decodeN
 rw [if_neg h0, if_neg (fun e => h1 e.1), if_neg (fun e => h2 e.1), if_neg (fun e => h3 e.1)]; rfl
theorem rune_j (k : Nat) (s : ByteArray) (n c mn : Nat) : spec_l3Rune.j0 (k + 1) s (n : Int) (c : Int) (mn : Int) = if (s.size : Int) < (n : Int) then some (0, 0) else spec_l3Rune.l0 k s (n : Int) (c : Int) (mn : Int) 1 := by
 simp only [spec_l3Rune.j0]
theorem spec_rune (s : ByteArray) (hs : 0 < s.size) : Ev (fun k => spec_l3Rune.f k s) (told (Utf8.decode s 0)) := by
 refine ⟨8, fun k hk => ?_⟩
 obtain ⟨m, rfl⟩ : ∃ m, k = m + 8 := ⟨k - 8, by omega⟩
 rw [Lib.decode_at s 0]
 show _ = some (told (Lib.decodeN (s.size - 0) (nb s 0) (nb s (0 + 1)) (nb s (0 + 2)) (nb s (0 + 3))))
 rw [Nat.sub_zero, Nat.zero_add, Nat.zero_add, Nat.zero_add]
 simp only [spec_l3Rune.f]
 rw [if_pos (by omega), show bt s 0 = ((nb s 0 : Nat) : Int) from bt_nb s 0 hs]
 have hb := nb_lt s 0
 have e1 : wrap64 ((nb s 0 : Nat) : Int) = ((nb s 0 : Nat) : Int) := w_id _ (by omega) (by omega)
 rw [e1, show Int.tdiv ((nb s 0 : Nat) : Int) 32 = ((nb s 0 / 32 : Nat) : Int) from td _ 32, show Int.tdiv ((nb s 0 : Nat) : Int) 16 = ((nb s 0 / 16 : Nat) : Int) from td _ 16, show Int.tdiv ((nb s 0 : Nat) : Int) 8 = ((nb s 0 / 8 : Nat) : Int) from td _ 8,
  show Int.tmod ((nb s 0 : Nat) : Int) 32 = ((nb s 0 % 32 : Nat) : Int) from tm _ 32, show Int.tmod ((nb s 0 : Nat) : Int) 16 = ((nb s 0 % 16 : Nat) : Int) from tm _ 16, show Int.tmod ((nb s 0 : Nat) : Int) 8 = ((nb s 0 % 8 : Nat) : Int) from tm _ 8,
  w_id ((nb s 0 / 32 : Nat) : Int) (by omega) (by omega), w_id ((nb s 0 / 16 : Nat) : Int) (by omega) (by omega), w_id ((nb s 0 / 8 : Nat) : Int) (by omega) (by omega)]
 by_cases h0 : nb s 0 < 128
 ·rw [if_pos (by omega), told1 _ _ _ _ _ h0]
 ·rw [if_neg (by omega)]
  by_cases h1 : nb s 0 / 32 = 6
  ·rw [if_pos (by omega), told2 _ _ _ _ _ h1]
   refine (rune_j (m + 7) s 2 (nb s 0 % 32) 128).trans ?_
   by_cases hn : s.size < 2
   ·rw [if_pos (by omega), if_pos hn]
   ·rw [if_neg (by omega), if_neg hn]
    refine (rune_go (m + 6) s 2 (nb s 0 % 32) 128 1 (by omega) (by omega) (by omega) (by omega)).trans ?_
    by_cases g1 : nb s 1 / 64 = 2
    ·rw [if_pos g1, if_pos g1]
     exact rune_end (m + 5) s 2 _ 128
    ·rw [if_neg g1, if_neg g1]
  ·rw [if_neg (by omega)]
   by_cases h2 : nb s 0 / 16 = 14
   ·rw [if_pos (by omega), told3 _ _ _ _ _ h2]
    refine (rune_j (m + 7) s 3 (nb s 0 % 16) 2048).trans ?_
    by_cases hn : s.size < 3
    ·rw [if_pos (by omega), if_pos hn]
    ·rw [if_neg (by omega), if_neg hn]
     refine (rune_go (m + 6) s 3 (nb s 0 % 16) 2048 1 (by omega) (by omega) (by omega) (by omega)).trans ?_
     by_cases g1 : nb s 1 / 64 = 2
     ·rw [if_pos g1, if_pos g1]
      refine (rune_go (m + 5) s 3 _ 2048 2 (by omega) (by omega) (by omega) (by omega)).trans ?_
      by_cases g2 : nb s 2 / 64 = 2
      ·rw [if_pos g2, if_pos g2]
       exact rune_end (m + 4) s 3 _ 2048
      ·rw [if_neg g2, if_neg g2]
     ·rw [if_neg g1, if_neg g1]
   ·rw [if_neg (by omega)]
    by_cases h3 : nb s 0 / 8 = 30
    ·rw [if_pos (by omega), told4 _ _ _ _ _ h3]
     refine (rune_j (m + 7) s 4 (nb s 0 % 8) 65536).trans ?_
     by_cases hn : s.size < 4
     ·rw [if_pos (by omega), if_pos hn]
     ·rw [if_neg (by omega), if_neg hn]
      refine (rune_go (m + 6) s 4 (nb s 0 % 8) 65536 1 (by omega) (by omega) (by omega) (by omega)).trans ?_
      by_cases g1 : nb s 1 / 64 = 2
      ·rw [if_pos g1, if_pos g1]
       refine (rune_go (m + 5) s 4 _ 65536 2 (by omega) (by omega) (by omega) (by omega)).trans ?_
       by_cases g2 : nb s 2 / 64 = 2
       ·rw [if_pos g2, if_pos g2]
        refine (rune_go (m + 4) s 4 _ 65536 3 (by omega) (by omega) (by omega) (by omega)).trans ?_
        by_cases g3 : nb s 3 / 64 = 2
        ·rw [if_pos g3, if_pos g3]
         exact rune_end (m + 3) s 4 _ 65536
        ·rw [if_neg g3, if_neg g3]
       ·rw [if_neg g2, if_neg g2]
      ·rw [if_neg g1, if_neg g1]
    ·rw [if_neg (by omega), told0 _ _ _ _ _ h0 h1 h2 h3]
/-! ### a value -/
theorem told_cut (s : ByteArray) (pos : Nat) (h : pos < s.size) : Utf8.decode (s.extract pos s.size) 0 = Utf8.decode s pos := by
 have hh := Vf.decode_cut s pos h
 have hz : (s.extract pos s.size).size = s.size - pos := by rw [ByteArray.size_extract]; omega
 unfold Lib.decodeGo at hh
 rw [if_neg (by omega)] at hh
 exact hh
theorem ctl_loop (rs : List Nat) (hl : rs.length < 1000000) : ∀ n j, j + n = rs.length → Ev (fun k => spec_l3Value.l1 k (rs.map fun (r : Nat) => (r : Int)) (rs.length : Int) (j : Int)) (if (rs.drop j).any ctl = true then (44 : Int) else 0) := by
 intro n
 induction n with
 | zero =>
  intro j hj
  refine Ev.step (f := fun _ => some _) (fun k => by simp only [spec_l3Value.l1]; rw [if_neg (by omega)]) (Ev.eq (Ev.now _) ?_)
  rw [List.drop_eq_nil_of_le (by omega)]; rfl
 | succ n ih =>
  intro j hj
  have hjl : j < rs.length := by omega
  have hget : rd (rs.map fun (r : Nat) => (r : Int)) (j : Int) = ((rs[j] : Nat) : Int) := by
   unfold rd
   rw [Int.toNat_natCast, List.getD_eq_getElem?_getD, List.getElem?_map, List.getElem?_eq_getElem hjl]; rfl
  rw [List.drop_eq_getElem_cons hjl, List.any_cons]
  have hn := ih (j + 1) (by omega)
  generalize rs[j] = r at hget ⊢
  by_cases hc : ctl r = true
  ·refine Ev.step (f := fun _ => some 44) (fun k => ?_) (Ev.eq (Ev.now _) (by rw [hc]; rfl))
   simp only [spec_l3Value.l1]
   rw [if_pos (by omega), if_pos (by omega), if_pos (by rw [List.length_map]; omega), hget]
   unfold spec_l1Between.f
   unfold ctl at hc
   simp only [Bool.or_eq_true, Bool.and_eq_true, decide_eq_true_eq] at hc
   by_cases h1 : r < 32
   ·rw [if_pos (by omega)]
   ·rw [if_neg (by omega), if_pos (by omega)]
    simp only [Option.bind_some]
    rw [if_pos (decide_eq_true (by omega))]
  ·rw [Bool.not_eq_true] at hc
   rw [hc, Bool.false_or]
   refine Ev.step (fun k => ?_) hn
   simp only [spec_l3Value.l1]
   rw [if_pos (by omega), if_pos (by omega), if_pos (by rw [List.length_map]; omega), hget]
   unfold spec_l1Between.f
   unfold ctl at hc
   simp only [Bool.or_eq_false_iff, Bool.and_eq_false_imp, decide_eq_true_eq, decide_eq_false_iff_not] at hc
   rw [if_neg (by omega), w_succ j (by omega)]
   by_cases h2 : (127 : Int) ≤ (r : Int)
   ·rw [if_pos h2]
    simp only [Option.bind_some]
    rw [if_neg (by have := hc.2 (by omega); simp; omega)]
   ·rw [if_neg h2]
    simp only [Option.bind_some]
    rfl
theorem width_fits (s : ByteArray) (pos : Nat) (h : pos < s.size) : pos + (Utf8.decode s pos).2 ≤ s.size := by
 rw [Lib.decode_at]
 rcases Lib.decodeN_shape (s.size - pos) (s.get! pos).toNat (s.get! (pos + 1)).toNat (s.get! (pos + 2)).toNat (s.get! (pos + 3)).toNat with h | h | h | h | h
 ·rw [h.2]; omega
 ·rw [h.2.2.2.2]; have := h.2.1; omega
 ·rw [h.2.2.2.2.2.2]; have := h.2.1; omega
 ·rw [h.2.2.2.2.2.2.2]; have := h.2.1; omega
 ·rw [h]; omega
theorem value_end (s : ByteArray) (hz : s.size ≤ 1073741824) (rs : List Nat) (hr : rs.length ≤ s.size) : Ev (fun k => spec_l3Value.l0 k s (rs.map fun (r : Nat) => (r : Int)) (s.size : Int)) (fin 0 false (some rs)) := by
 unfold fin
 simp only [Nat.zero_add, Bool.false_or]
 by_cases h : 128 < rs.length
 ·rw [if_pos h]
  refine Ev.step (f := fun _ => some 43) (fun k => ?_) (Ev.now _)
  simp only [spec_l3Value.l0]
  rw [if_neg (by omega), if_pos (by rw [List.length_map]; omega)]
 ·rw [if_neg h]
  have hh := ctl_loop rs (by omega) rs.length 0 (by omega)
  rw [List.drop_zero] at hh
  refine Ev.step (fun k => ?_) hh
  simp only [spec_l3Value.l0]
  rw [if_neg (by omega), if_neg (by rw [List.length_map]; omega), List.length_map]
  rfl
theorem value_loop (s : ByteArray) (hz : s.size ≤ 1073741824) : ∀ (b pos : Nat) (rs : List Nat), s.size ≤ pos + b → pos ≤ s.size → rs.length ≤ pos →
  Ev (fun k => spec_l3Value.l0 k s (rs.map fun (r : Nat) => (r : Int)) (pos : Int)) (fin 0 false ((scan s b pos).map (rs ++ ·))) := by
 intro b
 induction b with
 | zero =>
  intro pos rs h1 h2 h3
  obtain rfl : pos = s.size := by omega
  refine Ev.eq (value_end s hz rs h3) ?_
  simp [scan]
 | succ b ih =>
  intro pos rs h1 h2 h3
  by_cases hp : pos < s.size
  ·have hr := spec_rune (s.extract pos s.size) (by rw [ByteArray.size_extract]; omega)
   rw [told_cut s pos hp] at hr
   have hw := width_pos s pos hp
   have hf := width_fits s pos hp
   have hx : ∀ k, spec_l3Value.l0 (k + 1) s (rs.map fun (r : Nat) => (r : Int)) (pos : Int) = (spec_l3Rune.f k (s.extract pos s.size)).bind fun bt109 => (if bt109.2 = 0 then some 42 else spec_l3Value.l0 k s ((rs.map fun (r : Nat) => (r : Int)) ++ [bt109.1]) (wrap64 ((pos : Int) + bt109.2))) := by
    intro k
    simp only [spec_l3Value.l0]
    rw [if_pos (by omega), if_pos (by omega), if_pos (by omega), Int.toNat_natCast, List.length_map]
    simp only [if_pos (show rs.length < 17592186044416 by omega)]
   refine Ev.step hx (Ev.bind hr ?_)
   by_cases hb : bad s pos
   ·rw [scan_bad s b pos hp hb]
    have ht : told (Utf8.decode s pos) = (0, 0) := by unfold told; rw [if_pos (show (Utf8.decode s pos).1 = 65533 ∧ (Utf8.decode s pos).2 = 1 from hb)]
    simp only [ht, if_true]
    exact Ev.now _
   ·rw [scan_step s b pos hp hb]
    have ht : told (Utf8.decode s pos) = (((Utf8.decode s pos).1 : Int), ((Utf8.decode s pos).2 : Int)) := by unfold told; rw [if_neg (show ¬ ((Utf8.decode s pos).1 = 65533 ∧ (Utf8.decode s pos).2 = 1) from hb)]
    have hn := ih (pos + (Utf8.decode s pos).2) (rs ++ [(Utf8.decode s pos).1]) (by omega) hf (by rw [List.length_append]; simp only [List.length_cons, List.length_nil]; omega)
    rw [ht]
    generalize (Utf8.decode s pos).1 = r at hn ⊢
    generalize (Utf8.decode s pos).2 = w at hn hw hf ⊢
    have e : wrap64 ((pos : Int) + (w : Int)) = ((pos + w : Nat) : Int) := (w_id _ (by omega) (by omega)).trans (by omega)
    refine Ev.ite_neg (show ¬ (w : Int) = 0 by omega) ?_
    show Ev (fun k => spec_l3Value.l0 k s ((rs.map fun (r : Nat) => (r : Int)) ++ [(r : Int)]) (wrap64 ((pos : Int) + (w : Int)))) _
    rw [e]
    rw [List.map_append] at hn
    refine Ev.eq hn ?_
    rw [Option.map_map]
    congr 2
    funext t
    simp
  ·obtain rfl : pos = s.size := by omega
   rw [scan_end s (b + 1) s.size (Nat.le_refl _)]
   refine Ev.eq (value_end s hz rs h3) ?_
   simp
theorem spec_value (s : ByteArray) (hz : s.size ≤ 1073741824) : Ev (fun k => spec_l3Value.f k s) (vf s) := by
 unfold spec_l3Value.f vf
 refine Ev.eq (value_loop s hz s.size 0 [] (by omega) (Nat.zero_le _) (Nat.le_refl _)) ?_
 cases scan s s.size 0 <;> simp
end Go.Proofs.YtikbfjnbhogihaaGreatDoor.Can
