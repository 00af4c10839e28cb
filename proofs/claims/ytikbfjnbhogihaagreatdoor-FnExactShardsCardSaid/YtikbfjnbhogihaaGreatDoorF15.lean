import Derived.Test.YtikbfjnbhogihaaGreatDoorM0
import Derived.Test.YtikbfjnbhogihaaGreatDoorF105
import Derived.Test.YtikbfjnbhogihaaGreatDoorKeyDec
import Derived.Test.YtikbfjnbhogihaaGreatDoorKeyLaw
import Derived.Test.YtikbfjnbhogihaaGreatDoorCanImp
import Derived.Test.YtikbfjnbhogihaaGreatDoorXSSt
import Derived.Test.YtikbfjnbhogihaaGreatDoorCan
import Derived.Test.YtikbfjnbhogihaaGreatDoorCanSort
import Derived.Test.YtikbfjnbhogihaaGreatDoorMkT
import Derived.Test.YtikbfjnbhogihaaGreatDoorMarkSS
import Derived.Test.YtikbfjnbhogihaaGreatDoorF38
namespace Go.Proofs.YtikbfjnbhogihaaGreatDoor.M
open Go.RowKit Go.Proofs.YtikbfjnbhogihaaGreatDoorW.PrintWords Go.Proofs.YtikbfjnbhogihaaGreatDoorW.PrintLast Go.Proofs.YtikbfjnbhogihaaGreatDoorW.PrintMore
attribute [local go_sem] max2_int min2_int max_two min_two max_three min_three max_four min_four
set_option linter.unusedVariables false
set_option linter.unusedSimpArgs false
/-! ### laws_toState: function 15 -/
def laws_toState.f (k : Nat) (a0_0 : Int) (l0_1 : List (S159)) : Option (Int × (List (S87))) := (laws_toTenantS.f k l0_1).bind fun t227 => (some (a0_0, t227))
set_option maxHeartbeats 8000000 in
set_option maxRecDepth 100000 in
theorem laws_toState.calls (k : Nat) (a0_0 : Int) (A0_1 : Option Addr) (c0_1 : Nat) (l0_1 : List (S159)) (r1 : Int) (r2 : List (S87)) (w : World) (hr0_1 : Kd.C k159 w A0_1 l0_1.length l0_1) (hc0_1 : l0_1.length ≤ c0_1) (h : laws_toState.f k a0_0 l0_1 = some (r1, r2)) :
  Calls Tryz.prog 15 #[.agg #[.int .i64 a0_0, .slice A0_1 l0_1.length c0_1]] w fun e w' => ∃ v1_ : Value, e = .returned (.agg #[.int .i64 r1, v1_]) ∧ Kd.S k87 87 w' w.heap.size (fun _ => True) v1_ r2 ∧ Below w.heap.size w w' := by
 have HR0_1 := Aside0.mk hr0_1
 have HC0_1 := Aside0.mk hc0_1
 clear hr0_1 hc0_1
 have HB := Aside0.mk (Below.refl w.heap.size w)
 have H : ((laws_toTenantS.f k l0_1).bind fun t227 => (some (a0_0, t227))) = some (r1, r2) := h
 clear h
 replace H := Option.bind_eq_some_iff.mp H
 obtain ⟨t227, A20, H⟩ := H
 replace H : (some (a0_0, t227)) = some (r1, r2) := H
 have A2 := Aside0.mk A20
 clear A20
 simp only [Option.some.injEq, Prod.mk.injEq] at H
 obtain ⟨rfl, rfl⟩ := H
 go_enter Tryz.func15, Tryz.ntmps15
 go_wp2_with (first | ((with_reducible refine gate_dst (N := 1) rfl ?_); refine box_event ?hg (N := 1) ?hd (cs := #[.int .i64 a0_0, .slice A0_1 l0_1.length c0_1]) (t := 26) ?hr ?_; (case hd => rfl); (case hg => rfl); (case hr => (go_simp; done)); intro gb224 hg w3 hbox hb; have n0_ := Aside0.mk (below_step (by repeat ((with_reducible exact HB.out))) hb); have n1_ := Aside0.mk (hbox); clear HB; have HB := n0_; have BK224 := n1_; clear n0_ n1_; clear hb hbox hg) | ((with_reducible refine gate_dst (N := 2) rfl ?_); refine box_event ?hg (N := 2) ?hd (cs := #[.int .i64 0, .slice none 0 0]) (t := 33) ?hr ?_; (case hd => rfl); (case hg => rfl); (case hr => (go_simp; done)); intro gb225 hg w4 hbox hb; have n0_ := Aside0.mk (blk_below (g := gb224) (o := .cells #[.int .i64 a0_0, .slice A0_1 l0_1.length c0_1] 26 (0, 0)) (by (with_reducible repeat (first | refine blk_drewN ?_ _ | refine blk_drew ?_ | refine blk_alloc ?_ _)); exact BK224.out) hb); have n1_ := Aside0.mk (below_step (by repeat ((with_reducible exact HB.out))) hb); have n2_ := Aside0.mk (hbox); have n4_ := Aside0.mk ((by rw [hg]; exact (below_size (by repeat ((with_reducible exact HB.out)))) : w.heap.size ≤ gb225)); clear BK224; clear HB; have BK224 := n0_; have HB := n1_; have BK225 := n2_; have GE225 := n4_; clear n0_ n1_ n2_ n4_; clear hb hbox hg) | ((with_reducible refine gate_dst (N := 3) rfl ?_); refine box_event ?hg (N := 3) ?hd (cs := #[.int .i64 0, .slice none 0 0]) (t := 33) ?hr ?_; (case hd => rfl); (case hg => rfl); (case hr => (go_simp; done)); intro gb226 hg w5 hbox hb; have n0_ := Aside0.mk (blk_below (g := gb224) (o := .cells #[.int .i64 a0_0, .slice A0_1 l0_1.length c0_1] 26 (0, 0)) (by (with_reducible repeat (first | refine blk_drewN ?_ _ | refine blk_drew ?_ | refine blk_alloc ?_ _)); exact BK224.out) hb); have n1_ := Aside0.mk (blk_below (g := gb225) (o := .cells #[.int .i64 0, .slice none 0 0] 33 (0, 0)) (by (with_reducible repeat (first | refine blk_drewN ?_ _ | refine blk_drew ?_ | refine blk_alloc ?_ _)); exact BK225.out) hb); have n2_ := Aside0.mk (below_step (by repeat ((with_reducible exact HB.out))) hb); have n3_ := Aside0.mk (hbox); have n5_ := Aside0.mk ((by rw [hg]; exact (below_size (by repeat ((with_reducible exact HB.out)))) : w.heap.size ≤ gb226)); have n6_ := Aside0.mk ((by rw [hg]; exact Nat.ne_of_lt (blk_lt (g := gb224) (o := .cells #[.int .i64 a0_0, .slice A0_1 l0_1.length c0_1] 26 (0, 0)) (by (with_reducible repeat (first | refine blk_drewN ?_ _ | refine blk_drew ?_ | refine blk_alloc ?_ _)); exact BK224.out)) : gb224 ≠ gb226)); have n8_ := Aside0.mk ((by rw [hg]; exact Nat.ne_of_lt (blk_lt (g := gb225) (o := .cells #[.int .i64 0, .slice none 0 0] 33 (0, 0)) (by (with_reducible repeat (first | refine blk_drewN ?_ _ | refine blk_drew ?_ | refine blk_alloc ?_ _)); exact BK225.out)) : gb225 ≠ gb226)); clear BK224; clear BK225; clear HB; have BK224 := n0_; have BK225 := n1_; have HB := n2_; have BK226 := n3_; have GE226 := n5_; have NB225_226 := n8_; clear n0_ n1_ n2_ n3_ n5_ n6_ n8_; clear hb hbox hg; have hcz8_0 : w5.cell? ⟨gb224, 0, none⟩ = some (.int .i64 a0_0) := (blk_cell BK224.out 0).trans rfl; have hcz8_1 : w5.cell? ⟨gb224, 1, none⟩ = some (.slice A0_1 l0_1.length c0_1) := (blk_cell BK224.out 1).trans rfl; have hnc9 := NB225_226.out; have hcz10_0 : w5.cell? ⟨gb226, 0, none⟩ = some (.int .i64 0) := (blk_cell BK226.out 0).trans rfl; have hfz10_0 := blk_frozen BK226.out 0) | ((with_reducible refine gate_callee (f := 53) rfl ?_); refine goesL_ (some 9) rfl rfl Tryz.func53 (by kernel_rfl) rfl #[.slice A0_1 l0_1.length c0_1] rfl (by (try simp only [List.map_toArray, List.map_cons, List.map_nil]); first | done | rfl) ?_; (with_reducible refine (laws_toTenantS.calls k _ _ l0_1 t227 _ ?side1 ?side2 A2.out).mono ?_); (case side1 => exact Kd.C_below HR0_1.out (by repeat ((with_reducible first | exact HB.out | refine below_set ?_ GE226.out)))); (case side2 => exact HC0_1.out); rintro e w11 ⟨v228, rfl, ho0, hb⟩; refine ⟨_, rfl, ?_⟩; have n0_ := Aside0.mk (Kd.S_lower ho0 (below_size (by repeat ((with_reducible first | exact HB.out | refine below_set ?_ GE226.out))))); have n2_ := Aside0.mk (blk_below (g := gb225) (o := .cells #[.int .i64 0, .slice none 0 0] 33 (0, 0)) (by (with_reducible repeat (first | refine blk_drewN ?_ _ | refine blk_drew ?_ | refine blk_alloc ?_ _)); refine blk_far ?_ NB225_226.out _; (with_reducible repeat (first | refine blk_drewN ?_ _ | refine blk_drew ?_ | refine blk_alloc ?_ _)); exact BK225.out) hb); have n3_ := Aside0.mk (blk_below (g := gb226) (o := .cells #[.int .i64 a0_0, .slice none 0 0] 33 (0, 0)) (by (with_reducible repeat (first | refine blk_drewN ?_ _ | refine blk_drew ?_ | refine blk_alloc ?_ _)); refine blk_put (cs := #[.int .i64 0, .slice none 0 0]) ?_ 0 _ rfl; (with_reducible repeat (first | refine blk_drewN ?_ _ | refine blk_drew ?_ | refine blk_alloc ?_ _)); exact BK226.out) hb); have n4_ := Aside0.mk (below_step (by repeat ((with_reducible first | exact HB.out | refine below_set ?_ GE226.out))) hb); clear BK224; clear BK225; clear BK226; clear HB; have HO229 := n0_; have BK225 := n2_; have BK226 := n3_; have HB := n4_; clear n0_ n2_ n3_ n4_; (try clear hb); (try clear ho0); obtain ⟨Ao12, co12, eo12⟩ := Kd.S_slice HO229.out; subst eo12; have hcz13_0 : w11.cell? ⟨gb226, 0, none⟩ = some (.int .i64 a0_0) := (blk_cell BK226.out 0).trans rfl; have hcz13_1 : w11.cell? ⟨gb226, 1, none⟩ = some (.slice none 0 0) := (blk_cell BK226.out 1).trans rfl; have hfz13_1 := blk_frozen BK226.out 1; have hcz14_0 : w11.cell? ⟨gb225, 0, none⟩ = some (.int .i64 0) := (blk_cell BK225.out 0).trans rfl; have hcz14_1 : w11.cell? ⟨gb225, 1, none⟩ = some (.slice none 0 0) := (blk_cell BK225.out 1).trans rfl; have hfz14_0 := blk_frozen BK225.out 0; have hfz14_1 := blk_frozen BK225.out 1))
 refine bodyPost_ret (results_cell_row rfl _ _ gb225 33 #[.int .i64 a0_0, .slice Ao12 t227.length co12] (0, 0) _ rfl (by (with_reducible repeat (first | refine blk_drewN ?_ _ | refine blk_drew ?_ | refine blk_alloc ?_ _)); refine blk_put (cs := #[.int .i64 a0_0, .slice none 0 0]) ?_ 1 _ rfl; (with_reducible repeat (first | refine blk_drewN ?_ _ | refine blk_drew ?_ | refine blk_alloc ?_ _)); refine blk_put (cs := #[.int .i64 0, .slice none 0 0]) ?_ 0 _ rfl; (with_reducible repeat (first | refine blk_drewN ?_ _ | refine blk_drew ?_ | refine blk_alloc ?_ _)); refine blk_far ?_ NB225_226.out _; (with_reducible repeat (first | refine blk_drewN ?_ _ | refine blk_drew ?_ | refine blk_alloc ?_ _)); exact BK225.out) Tryz.underlying33 rfl (by kernel_rfl)) rfl ?_
 exact ⟨_, by rfl, by (with_reducible repeat (first | apply Kd.S_alloc | apply Kd.S_drewN | apply Kd.S_drew)); exact Kd.S_mono (Kd.S_far (p := ⟨gb225, 1, none⟩) (Kd.S_far (p := ⟨gb225, 0, none⟩) (Kd.S_far (p := ⟨gb226, 1, none⟩) (Kd.S_types (Kd.S_types HO229.out BK226.out (by decide)) BK225.out (by decide)) (fun _ hk => hk.1.2) (.slice Ao12 t227.length co12)) (fun _ hk => hk.2) (.int .i64 a0_0)) (fun _ hk => hk.2) (.slice Ao12 t227.length co12)) (fun _ hk => trivial), by repeat ((with_reducible first | exact HB.out | refine below_set ?_ GE225.out | refine below_set ?_ GE226.out))⟩
end Go.Proofs.YtikbfjnbhogihaaGreatDoor.M
/- States, as the laws copy, compare and weigh them: plain. -/
namespace Go.Proofs.YtikbfjnbhogihaaGreatDoor.StLaws
open Go.Proofs.YtikbfjnbhogihaaGreatDoor.M Go.Proofs.YtikbfjnbhogihaaGreatDoor.Loops Go.Proofs.YtikbfjnbhogihaaGreatDoorW.PrintWords Go.Proofs.YtikbfjnbhogihaaGreatDoorW.PrintLast Go.RowKit
abbrev MI := S223
abbrev MO := S91
abbrev RI := S225
abbrev RO := S93
abbrev TI := S159
abbrev TO := S87
def cM (x : MI) : MO := ⟨x.f0, x.f1⟩
def cR (x : RI) : RO := ⟨x.f0, x.f1⟩
def cT (x : TI) : TO := ⟨x.f0, x.f1, x.f2.map cM, x.f3.map cR⟩
def wtM (x : MI) : Nat := x.f0.size
def wtR (x : RI) : Nat := x.f0.size
def wtTI (x : TI) : Nat := x.f0.size + (x.f2.length + total wtM x.f2) + (x.f3.length + total wtR x.f3)
theorem to_mets (l : List MI) (h : l.length ≤ 1048576) : Ev (fun k => laws_toMetricLimitS.f k l) (l.map cM) := by
 unfold laws_toMetricLimitS.f
 refine Ev.ite_pos (by omega) (Ev.ite_pos (by omega) ?_)
 rw [Int.toNat_natCast]
 exact fill_all laws_toMetricLimitS.l0 (fun _ a => laws_toMetricLimit.f a.f0 a.f1) (fun c => (⟨c.1, c.2⟩ : MO)) z223 z91
  (fun k x y i => by simp only [laws_toMetricLimitS.l0]; rfl) (fun a => (a.f0, a.f1)) l (by omega) (fun a _ => Ev.now _)
theorem to_sers (l : List RI) (h : l.length ≤ 1048576) : Ev (fun k => laws_toSeriesS.f k l) (l.map cR) := by
 unfold laws_toSeriesS.f
 refine Ev.ite_pos (by omega) (Ev.ite_pos (by omega) ?_)
 rw [Int.toNat_natCast]
 exact fill_all laws_toSeriesS.l0 (fun _ a => laws_toSeries.f a.f0 a.f1) (fun c => (⟨c.1, c.2⟩ : RO)) z225 z93
  (fun k x y i => by simp only [laws_toSeriesS.l0]; rfl) (fun a => (a.f0, a.f1)) l (by omega) (fun a _ => Ev.now _)
theorem to_tens (l : List TI) (h : l.length ≤ 1048576) (hi : ∀ x ∈ l, x.f2.length ≤ 1048576 ∧ x.f3.length ≤ 1048576) : Ev (fun k => laws_toTenantS.f k l) (l.map cT) := by
 unfold laws_toTenantS.f
 refine Ev.ite_pos (by omega) (Ev.ite_pos (by omega) ?_)
 rw [Int.toNat_natCast]
 exact fill_all laws_toTenantS.l0 (fun k a => laws_toTenant.f k a.f0 a.f1 a.f2 a.f3) (fun c => (⟨c.1, c.2.1, c.2.2.1, c.2.2.2⟩ : TO)) z159 z87
  (fun k x y i => by simp only [laws_toTenantS.l0]; rfl) (fun a => (a.f0, a.f1, a.f2.map cM, a.f3.map cR)) l (by omega) (fun a ha => by
   unfold laws_toTenant.f
   exact Ev.bind (to_mets a.f2 (hi a ha).1) (Ev.bind (to_sers a.f3 (hi a ha).2) (Ev.now _)))
theorem to_state (now : Int) (l : List TI) (h : l.length ≤ 1048576) (hi : ∀ x ∈ l, x.f2.length ≤ 1048576 ∧ x.f3.length ≤ 1048576) : Ev (fun k => laws_toState.f k now l) (now, l.map cT) := by
 unfold laws_toState.f
 exact Ev.bind (to_tens l h hi) (Ev.now _)
theorem eq_mets (l : List MO) (h : l.length < 9223372036854775807) : Ev (fun k => laws_eqMetricLimitS.f k l l) true := by
 unfold laws_eqMetricLimitS.f
 refine Ev.ite_pos rfl ?_
 exact all_loop laws_eqMetricLimitS.l0 (fun _ x y => laws_eqMetricLimit.f x.f0 x.f1 y.f0 y.f1) z91 (fun k x y i => by simp only [laws_eqMetricLimitS.l0]; rfl) l h (fun a _ => by
  unfold laws_eqMetricLimit.f; simp only [if_true]; exact Ev.now _) l.length 0 (by omega)
theorem eq_sers (l : List RO) (h : l.length < 9223372036854775807) : Ev (fun k => laws_eqSeriesS.f k l l) true := by
 unfold laws_eqSeriesS.f
 refine Ev.ite_pos rfl ?_
 exact all_loop laws_eqSeriesS.l0 (fun _ x y => laws_eqSeries.f x.f0 x.f1 y.f0 y.f1) z93 (fun k x y i => by simp only [laws_eqSeriesS.l0]; rfl) l h (fun a _ => by
  unfold laws_eqSeries.f; simp only [if_true]; exact Ev.now _) l.length 0 (by omega)
theorem eq_tens (l : List TO) (h : l.length < 9223372036854775807) (hi : ∀ x ∈ l, x.f2.length < 9223372036854775807 ∧ x.f3.length < 9223372036854775807) : Ev (fun k => laws_eqTenantS.f k l l) true := by
 unfold laws_eqTenantS.f
 refine Ev.ite_pos rfl ?_
 exact all_loop laws_eqTenantS.l0 (fun k x y => laws_eqTenant.f k x.f0 x.f1 x.f2 x.f3 y.f0 y.f1 y.f2 y.f3) z87 (fun k x y i => by simp only [laws_eqTenantS.l0]; rfl) l h (fun a ha => by
  unfold laws_eqTenant.f
  simp only [if_true]
  exact Ev.bind (eq_mets a.f2 (hi a ha).1) (Ev.ite_pos rfl (Ev.bind (eq_sers a.f3 (hi a ha).2) (Ev.ite_pos rfl (Ev.now _))))) l.length 0 (by omega)
theorem eq_state (now : Int) (l : List TO) (h : l.length < 9223372036854775807) (hi : ∀ x ∈ l, x.f2.length < 9223372036854775807 ∧ x.f3.length < 9223372036854775807) : Ev (fun k => laws_eqState.f k now l now l) true := by
 unfold laws_eqState.f
 simp only [if_true]
 exact Ev.bind (eq_tens l h hi) (Ev.ite_pos rfl (Ev.now _))
theorem sz_mets (l : List MI) (hl : l.length ≤ maxLen) (hb : ∀ y ∈ l, b223 y) (a : Int) (h0 : 0 ≤ a) (h1 : a ≤ 1048576) :
  ∃ t, Ev (fun k => laws_szMetricLimitS.f k l a) t ∧ (0 ≤ t → t = a - ((l.length : Int) + (total wtM l : Nat))) := by
 unfold laws_szMetricLimitS.f
 refine sz_list laws_szMetricLimitS.l0 (fun _ x a => laws_szMetricLimit.f x.f0 x.f1 a) z223 wtM (fun k x a i => by simp only [laws_szMetricLimitS.l0]; rfl) l hl (fun e he a h0 h1 => ?_) a h0 h1
 obtain ⟨s0, _⟩ := hb e he
 obtain ⟨t, ht, hw⟩ := sz_one e.f0.size s0 a h0 h1
 exact ⟨t, ⟨0, fun _ _ => by unfold laws_szMetricLimit.f; exact ht⟩, hw⟩
theorem sz_sers (l : List RI) (hl : l.length ≤ maxLen) (hb : ∀ y ∈ l, b225 y) (a : Int) (h0 : 0 ≤ a) (h1 : a ≤ 1048576) :
  ∃ t, Ev (fun k => laws_szSeriesS.f k l a) t ∧ (0 ≤ t → t = a - ((l.length : Int) + (total wtR l : Nat))) := by
 unfold laws_szSeriesS.f
 refine sz_list laws_szSeriesS.l0 (fun _ x a => laws_szSeries.f x.f0 x.f1 a) z225 wtR (fun k x a i => by simp only [laws_szSeriesS.l0]; rfl) l hl (fun e he a h0 h1 => ?_) a h0 h1
 obtain ⟨s0, _⟩ := hb e he
 obtain ⟨t, ht, hw⟩ := sz_one e.f0.size s0 a h0 h1
 exact ⟨t, ⟨0, fun _ _ => by unfold laws_szSeries.f; exact ht⟩, hw⟩
theorem sz_tens (l : List TI) (hl : l.length ≤ maxLen) (hb : ∀ y ∈ l, b159 y) (a : Int) (h0 : 0 ≤ a) (h1 : a ≤ 1048576) :
  ∃ t, Ev (fun k => laws_szTenantS.f k l a) t ∧ (0 ≤ t → t = a - ((l.length : Int) + (total wtTI l : Nat))) := by
 unfold laws_szTenantS.f
 refine sz_list laws_szTenantS.l0 (fun k x a => laws_szTenant.f k x.f0 x.f1 x.f2 x.f3 a) z159 wtTI (fun k x a i => by simp only [laws_szTenantS.l0]; rfl) l hl (fun e he a h0 h1 => ?_) a h0 h1
 obtain ⟨s0, _, ⟨m0, m1⟩, r0, r1⟩ := hb e he
 have s0' : e.f0.size ≤ 9223372036854775807 := s0
 unfold laws_szTenant.f
 have e1 : wrap64 (a - (e.f0.size : Int)) = a - (e.f0.size : Int) := by unfold wrap64; omega
 rw [e1]
 by_cases hneg : a - (e.f0.size : Int) < 0
 ·exact ⟨-1, Ev.ite_pos hneg (Ev.now _), fun h => by omega⟩
 ·obtain ⟨t, ht, hw⟩ := sz_mets e.f2 m0 m1 (a - (e.f0.size : Int)) (by omega) (by omega)
  by_cases hneg2 : t < 0
  ·exact ⟨-1, Ev.ite_neg hneg (Ev.bind ht (Ev.ite_pos hneg2 (Ev.now _))), fun h => by omega⟩
  ·have h3 := hw (by omega)
   obtain ⟨u, hu, hw2⟩ := sz_sers e.f3 r0 r1 t (by omega) (by omega)
   obtain ⟨v, hv, hw3⟩ := sz_hand hu
   refine ⟨v, Ev.ite_neg hneg (Ev.bind ht (Ev.ite_neg hneg2 hv)), fun h => ?_⟩
   have h4 := hw3 h
   have h5 := hw2 (by omega)
   have h6 : wtTI e = e.f0.size + (e.f2.length + total wtM e.f2) + (e.f3.length + total wtR e.f3) := rfl
   omega
theorem sz_state (now : Int) (l : List TI) (hl : l.length ≤ maxLen) (hb : ∀ y ∈ l, b159 y) :
  ∃ t, Ev (fun k => laws_szState.f k now l 1048576) t ∧ (0 ≤ t → l.length + total wtTI l ≤ 1048576) := by
 unfold laws_szState.f
 obtain ⟨t, ht, hw⟩ := sz_tens l hl hb 1048576 (by omega) (by omega)
 obtain ⟨u, hu, hw2⟩ := sz_hand ht
 refine ⟨u, hu, fun h => ?_⟩
 have h3 := hw2 h
 have h4 := hw (by omega)
 omega
theorem in_bounds (l : List TI) (h : l.length + total wtTI l ≤ 1048576) : ∀ x ∈ l, x.f2.length ≤ 1048576 ∧ x.f3.length ≤ 1048576 := by
 intro x hx
 have h5 : wtTI x ≤ total wtTI l := wt_le_total wtTI l x hx
 have h6 : wtTI x = x.f0.size + (x.f2.length + total wtM x.f2) + (x.f3.length + total wtR x.f3) := rfl
 omega
theorem len_map (l : List TI) (hi : ∀ x ∈ l, x.f2.length ≤ 1048576 ∧ x.f3.length ≤ 1048576) : ∀ x ∈ l.map cT, x.f2.length ≤ 1048576 ∧ x.f3.length ≤ 1048576 := by
 intro x hx
 obtain ⟨y, hy, rfl⟩ := List.mem_map.1 hx
 have := hi y hy
 simpa [cT] using this
end Go.Proofs.YtikbfjnbhogihaaGreatDoor.StLaws
/- impl.tenantOK, impl.StateOK: their walks by hand. -/
namespace Go.Proofs.YtikbfjnbhogihaaGreatDoor.M
open Go.RowKit Go.Proofs.YtikbfjnbhogihaaGreatDoor.StOK Go.Proofs.YtikbfjnbhogihaaGreatDoorW.PrintWords Go.Proofs.YtikbfjnbhogihaaGreatDoorW.PrintLast Go.Proofs.YtikbfjnbhogihaaGreatDoorW.PrintMore
set_option linter.unusedVariables false
set_option linter.unusedSimpArgs false
namespace St
theorem tn_imp (a now : Int) (t : Tn) : tnB a now t = (TenN.ok t.f0 && (decide (-1 ≤ t.f1 ∧ t.f1 ≤ 1000000) && (!(idleB t.f1 t.f2 t.f3) && (allFrom (fun i => mlB (t.f2.getD i z91)) 0 (t.f2.length - 0) && (allFrom (fun i => srB a now (t.f3.getD i z93)) 0 (t.f3.length - 0) && (Rise.up (t.f2.map (·.f0)) && (Rise.up (t.f3.map (·.f0)) && true))))))) := by
 rw [Nat.sub_zero, Nat.sub_zero, allFrom_all mlB z91 t.f2 t.f2.length 0 (by omega), allFrom_all (srB a now) z93 t.f3 t.f3.length 0 (by omega), List.drop_zero, List.drop_zero, Bool.and_true]
 rfl
theorem iidle_c (n : ByteArray) (x : Int) (A2 : Option Addr) (c2 : Nat) (m : List S91) (A3 : Option Addr) (c3 : Nat) (s : List S93) (W : World) (hm : Kd.C k91 W A2 m.length m) (h2 : m.length ≤ c2) (hs : Kd.C k93 W A3 s.length s) (h3 : s.length ≤ c3) :
  Calls Tryz.prog 106 #[.agg #[.string n, .int .i64 x, .slice A2 m.length c2, .slice A3 s.length c3]] W fun e w' => ∃ b, e = .returned (.bool (!b)) ∧ (!(idleB x m s)) = b ∧ Below W.heap.size W w' := by
 refine (impl_idle.calls n x A2 c2 m A3 c3 s _ W hm h2 hs h3 (impl_idl n x m s)).mono ?_
 rintro e w' ⟨rfl, h⟩
 exact ⟨_, by rw [Bool.not_not], rfl, h⟩
theorem imet_c (s : ByteArray) (hs : s.size ≤ 1048576) (W : World) (hT : Tabs W) : Calls Tryz.prog 63 #[.string s] W fun e w' => ∃ b, e = .returned (.bool b) ∧ metB s = b ∧ Below W.heap.size W w' := by
 refine (impl_isMetric.calls s _ W (impl_met s (by omega)) hT).mono ?_
 rintro e w' ⟨rfl, h⟩
 exact ⟨_, rfl, rfl, h⟩
theorem ikey_c (s : ByteArray) (hs : s.size ≤ 1048576) (W : World) (hT : Tabs W) : Calls Tryz.prog 88 #[.string s] W fun e w' => ∃ v b, e = .returned (.tuple #[v, .bool b]) ∧ keyB s = b ∧ Below W.heap.size W w' := by
 obtain ⟨l, el, h2, h3⟩ := dec_is s hs
 obtain ⟨k, hk⟩ := h2.rounds
 refine (impl_DecodeKey.calls k s (StOK.dec s).1 (StOK.dec s).2 W hk hT).mono ?_
 rintro e w' ⟨v, rfl, _, h⟩
 exact ⟨v, _, rfl, rfl, h⟩
theorem mlN (l : List Ml) (i : Nat) (hi : i < l.length) (m : Ml) (hm : l.getD i z91 = m) (q : Bool) : (allFrom (fun i => mlB (l.getD i z91)) i (l.length - i) && q) = (metB m.f0 && (decide (0 ≤ m.f1 ∧ m.f1 ≤ 1000000) && (allFrom (fun i => mlB (l.getD i z91)) (i + 1) (l.length - (i + 1)) && q))) := by
 rw [all_step _ i l.length hi, hm]
 unfold mlB
 simp only [Bool.and_assoc]
theorem srN (a now : Int) (l : List Sr) (i : Nat) (hi : i < l.length) (m : Sr) (hm : l.getD i z93 = m) (q : Bool) : (allFrom (fun i => srB a now (l.getD i z93)) i (l.length - i) && q) = (decide (0 ≤ m.f1 ∧ m.f1 ≤ now) && (decide (now - m.f1 < a) && (keyB m.f0 && (allFrom (fun i => srB a now (l.getD i z93)) (i + 1) (l.length - (i + 1)) && q)))) := by
 rw [all_step _ i l.length hi, hm]
 unfold srB
 simp only [Bool.and_assoc]
end St
set_option maxHeartbeats 4000000 in
set_option maxRecDepth 100000 in
theorem St.tn_c (a b c d e f now : Int) (hn : 0 ≤ now) (hn2 : now ≤ 1000000000000) (t : Tn) (hs : Sm t) (A2 : Option Addr) (c2 : Nat) (A3 : Option Addr) (c3 : Nat) (w : World) (i2 : Kd.C k91 w A2 t.f2.length t.f2) (l2 : t.f2.length ≤ c2) (i3 : Kd.C k93 w A3 t.f3.length t.f3) (l3 : t.f3.length ≤ c3) (hT : Tabs w) :
  Calls Tryz.prog 58 #[.agg #[.int .i64 a, .int .i64 b, .int .i64 c, .int .i64 d, .int .i64 e, .int .i64 f], .int .i64 now, .agg #[.string t.f0, .int .i64 t.f1, .slice A2 t.f2.length c2, .slice A3 t.f3.length c3]] w fun x w' => x = .returned (.bool (tnB a now t)) ∧ Below w.heap.size w w' := by
 have hu29 := Tryz.underlying29
 have hu87 := Tryz.underlying87
 have hu91 := Tryz.underlying91
 have hu93 := Tryz.underlying93
 obtain ⟨r, hr⟩ : ∃ r, r = tnB a now t := ⟨_, rfl⟩
 rw [← hr]
 have HV := Aside0.mk (hr.trans (St.tn_imp a now t))
 have HS := Aside0.mk hs
 replace i2 := Aside0.mk i2
 replace i3 := Aside0.mk i3
 replace l2 := Aside0.mk l2
 replace l3 := Aside0.mk l3
 replace hT := Aside0.mk hT
 have hN := Aside0.mk (And.intro hn hn2)
 clear hr hs hn hn2
 obtain ⟨L, hL⟩ : ∃ L, L = [(w.heap.size + 1, St.cT (.string t.f0) (.int .i64 t.f1) (.slice A2 t.f2.length c2) (.slice A3 t.f3.length c3)), (w.heap.size, St.cC a b c d e f)] := ⟨_, rfl⟩
 replace hL := Aside0.mk hL
 go_enter Tryz.func58, Tryz.ntmps58
 go_wp2_with (first
  | (go_at_call 62; refine (impl_isTenant.calls _ _ _ rfl).mono ?_; rintro x w1 ⟨rfl, hB⟩; have K := Aside0.mk (hL.out ▸ (St.two w (St.cC a b c d e f) (St.cT (.string t.f0) (.int .i64 t.f1) (.slice A2 t.f2.length c2) (.slice A3 t.f3.length c3))).step hB : Kp w w1 L); obtain ⟨t0, t1, t2, t3⟩ := St.cells4 (K.out.has _ (by rw [hL.out]; exact List.mem_cons_self)); clear hB; generalize hb : TenN.ok t.f0 = bb; rcases St.and_split HV.out hb with ⟨rfl, h⟩ | ⟨rfl, h⟩ <;> (clear HV hb; have HV := Aside0.mk h; clear h))
  | (go_at_call 55; refine (St.ibetw_c _ _ _ _).mono ?_; rintro x w' ⟨bb, rfl, hb, ⟨nd, rfl⟩⟩; rcases St.and_split HV.out hb with ⟨rfl, h⟩ | ⟨rfl, h⟩ <;> (clear HV hb; have HV := Aside0.mk h; clear h))
  | (go_at_call 106; refine (St.iidle_c _ _ _ _ _ _ _ _ _ (Kd.C_below i2.out (K.out.drewN _).bel) l2.out (Kd.C_below i3.out (K.out.drewN _).bel) l3.out).mono ?_; rintro x w2 ⟨bb, rfl, hb, hB⟩; have K2 := Aside0.mk ((K.out.drewN _).step hB); clear K t0 t1 t2 t3 hB; have K := K2; clear K2; obtain ⟨t0, t1, t2, t3⟩ := St.cells4 (K.out.has _ (by rw [hL.out]; exact List.mem_cons_self)); rcases St.and_split HV.out hb with ⟨rfl, h⟩ | ⟨rfl, h⟩ <;> (simp only [Bool.not_true, Bool.not_false]; clear HV hb; have HV := Aside0.mk h; clear h)))
 all_goals try (go_ret; exact ⟨by rw [HV.out]; rfl, by first | exact K.out.bel | exact (K.out.drewN _).bel⟩)
 case _ =>
 clear t0 t1 t2 t3
 go_loopw [30] (fun v wr => ∃ i : Nat, i ≤ t.f2.length ∧ v = .int .i64 i ∧ Aside0 (Kp w wr L) ∧ Aside0 (r = (allFrom (fun i => mlB (t.f2.getD i z91)) i (t.f2.length - i) && (allFrom (fun i => srB a now (t.f3.getD i z93)) 0 (t.f3.length - 0) && (Rise.up (t.f2.map (·.f0)) && (Rise.up (t.f3.map (·.f0)) && true)))))) (fun v wr => t.f2.length - (intOf v).toNat)
 case atStart => exact ⟨0, by omega, by simp, K, HV⟩
 case round =>
  rename World => wq
  clear K HV
  obtain ⟨i, hi, rfl, K, HV⟩ := hrel
  obtain ⟨t0, t1, t2, t3⟩ := St.cells4 (K.out.has _ (by rw [hL.out]; exact List.mem_cons_self))
  obtain hi5 | hi6 : t.f2.length ≤ i ∨ i < t.f2.length := by omega
  ·obtain rfl : i = t.f2.length := by omega
   replace HV := Aside0.mk (HV.out.trans (by rw [Nat.sub_self]; rfl : _ = (allFrom (fun i => srB a now (t.f3.getD i z93)) 0 (t.f3.length - 0) && (Rise.up (t.f2.map (·.f0)) && (Rise.up (t.f3.map (·.f0)) && true)))))
   go_wp2
   clear t0 t1 t2 t3
   go_loopw [48] (fun v wr => ∃ i : Nat, i ≤ t.f3.length ∧ v = .int .i64 i ∧ Aside0 (Kp w wr L) ∧ Aside0 (r = (allFrom (fun i => srB a now (t.f3.getD i z93)) i (t.f3.length - i) && (Rise.up (t.f2.map (·.f0)) && (Rise.up (t.f3.map (·.f0)) && true))))) (fun v wr => t.f3.length - (intOf v).toNat)
   case atStart => exact ⟨0, by omega, by simp, K, HV⟩
   case round =>
    rename World => wz
    clear K HV
    obtain ⟨i, hi, rfl, K, HV⟩ := hrel
    obtain ⟨t0, t1, t2, t3⟩ := St.cells4 (K.out.has _ (by rw [hL.out]; exact List.mem_cons_self))
    obtain hi5 | hi6 : t.f3.length ≤ i ∨ i < t.f3.length := by omega
    ·obtain rfl : i = t.f3.length := by omega
     replace HV := Aside0.mk (HV.out.trans (by rw [Nat.sub_self]; rfl : _ = (Rise.up (t.f2.map (·.f0)) && (Rise.up (t.f3.map (·.f0)) && true))))
     have n2 := Aside0.mk HS.out.n2
     have n3 := Aside0.mk HS.out.n3
     go_wp2_with (first
      | (go_at_call 107; refine (impl_MetricLimit_string.calls _ _ _ _ _ (Kd.C_below i2.out K.out.bel) l2.out (if_pos (by have := n2.out; omega))).mono ?_; rintro x w1 ⟨rfl, hB⟩; have K2 := Aside0.mk (K.out.step hB); clear K hB t0 t1 t2 t3; have K := K2; clear K2; obtain ⟨t0, t1, t2, t3⟩ := St.cells4 (K.out.has _ (by rw [hL.out]; exact List.mem_cons_self)); generalize hb : Rise.up (t.f2.map (·.f0)) = bb; rcases St.and_split HV.out hb with ⟨rfl, h⟩ | ⟨rfl, h⟩ <;> (clear HV hb; have HV := Aside0.mk h; clear h))
      | (go_at_call 109; refine (impl_Series_string.calls _ _ _ _ _ (Kd.C_below i3.out K.out.bel) l3.out (if_pos (by have := n3.out; omega))).mono ?_; rintro x w1 ⟨rfl, hB⟩; have K2 := Aside0.mk (K.out.step hB); clear K hB t0 t1 t2 t3; have K := K2; clear K2; generalize hb : Rise.up (t.f3.map (·.f0)) = bb; rcases St.and_split HV.out hb with ⟨rfl, h⟩ | ⟨rfl, h⟩ <;> (clear HV hb; have HV := Aside0.mk h; clear h)))
     all_goals (go_ret; exact ⟨by rw [HV.out]; rfl, K.out.bel⟩)
    ·obtain ⟨ad4, eA, x0, x1⟩ := at_T93 i3.out (i : Int) (by omega) (by omega)
     subst eA
     have hz := HS.out.z3 _ (getD_mem t.f3 z93 i hi6)
     have hn2 := Aside0.mk HS.out.n3
     obtain ⟨m, em⟩ : ∃ m, rd_T93 t.f3 (i : Int) = m := ⟨_, rfl⟩
     have em2 := Aside0.mk (show t.f3.getD i z93 = m from em)
     rw [em2.out] at hz
     rw [em] at x0 x1
     simp only [Int.toNat_natCast] at x0 x1
     replace x0 := (K.out.bel.cell (World.block_lt_of_cell? w _ x0)).trans x0
     replace x1 := (K.out.bel.cell (World.block_lt_of_cell? w _ x1)).trans x1
     clear em t0 t1 t2 t3
     have c0 := St.cell6 ((K.out.alloc (.cells #[.string m.f0, .int .i64 m.f1] 93)).has _ (by rw [hL.out]; exact List.mem_cons_of_mem _ List.mem_cons_self))
     replace HV := Aside0.mk (HV.out.trans (St.srN a now t.f3 i hi6 m em2.out _))
     obtain ⟨b4, hb4⟩ : ∃ b, decide (now - m.f1 < a) = !b := ⟨!(decide (now - m.f1 < a)), (Bool.not_not _).symm⟩
     have hge := (St.win2 hb4).trans (Bool.not_not _)
     replace hb4 := Aside0.mk hb4
     go_wp2_with (first
      | (go_at_call 55; refine (St.ibetw_c _ _ _ _).mono ?_; rintro x w' ⟨bb, rfl, hb, ⟨nd, rfl⟩⟩; rcases St.and_split HV.out hb with ⟨rfl, h⟩ | ⟨rfl, h⟩ <;> ((try have hwr := St.win hb (decide_eq_true hN.out)); clear HV hb; have HV := Aside0.mk h; clear h))
      | (go_at_call 88; replace HV := Aside0.mk (HV.out.trans (by rw [hb4.out, ‹b4 = false›]; rfl : _ = (keyB m.f0 && (allFrom (fun i => srB a now (t.f3.getD i z93)) (i + 1) (t.f3.length - (i + 1)) && (Rise.up (t.f2.map (·.f0)) && (Rise.up (t.f3.map (·.f0)) && true)))))); refine (St.ikey_c m.f0 hz _ (hT.out.below ((K.out.alloc _).drewN _).bel)).mono ?_; rintro x w1 ⟨v, bb, rfl, hb, hB⟩; have K2 := Aside0.mk (((K.out.alloc _).drewN _).step hB); clear K hB; have K := K2; clear K2; rcases St.and_split HV.out hb with ⟨rfl, h⟩ | ⟨rfl, h⟩ <;> (clear HV hb; have HV := Aside0.mk h; clear h)))
     all_goals try (go_ret; exact ⟨by first | rw [HV.out]; rfl | (rw [HV.out, hb4.out]; simp [*]), by first | exact K.out.bel | exact ((K.out.alloc _).drewN _).bel⟩)
     case _ =>
     go_roundw
     case rel => have hn3 := hn2.out; exact ⟨i + 1, by omega, by rw [St.sc i (by omega)], K, HV⟩
     case measure => exact St.dec _ i hi6 (Nat.lt_of_lt_of_le hi6 hn2.out)
  ·obtain ⟨ad2, eA, x0, x1⟩ := at_T91 i2.out (i : Int) (by omega) (by omega)
   subst eA
   have hz := HS.out.z2 _ (getD_mem t.f2 z91 i hi6)
   have hn2 := Aside0.mk HS.out.n2
   obtain ⟨m, em⟩ : ∃ m, rd_T91 t.f2 (i : Int) = m := ⟨_, rfl⟩
   have em2 := Aside0.mk (show t.f2.getD i z91 = m from em)
   rw [em2.out] at hz
   rw [em] at x0 x1
   simp only [Int.toNat_natCast] at x0 x1
   replace x0 := (K.out.bel.cell (World.block_lt_of_cell? w _ x0)).trans x0
   replace x1 := (K.out.bel.cell (World.block_lt_of_cell? w _ x1)).trans x1
   clear em t0 t1 t2 t3
   replace HV := Aside0.mk (HV.out.trans (St.mlN t.f2 i hi6 m em2.out _))
   go_wp2_with (first
    | (go_at_call 63; refine (St.imet_c m.f0 hz _ (hT.out.below (K.out.alloc _).bel)).mono ?_; rintro x w1 ⟨bb, rfl, hb, hB⟩; have K2 := Aside0.mk ((K.out.new _).step hB); clear hB; obtain ⟨m0, m1⟩ := St.cells2 K2.out.fst; have K3 := Aside0.mk K2.out.tl; clear K; have K := K3; clear K2 K3; rcases St.and_split HV.out hb with ⟨rfl, h⟩ | ⟨rfl, h⟩ <;> (clear HV hb; have HV := Aside0.mk h; clear h))
    | (go_at_call 55; refine (St.ibetw_c _ _ _ _).mono ?_; rintro x w' ⟨bb, rfl, hb, ⟨nd, rfl⟩⟩; rcases St.and_split HV.out hb with ⟨rfl, h⟩ | ⟨rfl, h⟩ <;> (clear HV hb; have HV := Aside0.mk h; clear h)))
   all_goals try (go_ret; exact ⟨by rw [HV.out]; rfl, by first | exact K.out.bel | exact (K.out.drewN _).bel | exact K.out.tl.bel⟩)
   case _ =>
   skip
   go_roundw
   case rel => have hn3 := hn2.out; exact ⟨i + 1, by omega, by rw [St.sc i (by omega)], ⟨K.out.drewN _⟩, HV⟩
   case measure => exact St.dec _ i hi6 (Nat.lt_of_lt_of_le hi6 hn2.out)
noncomputable def impl_StateOK.f (a b c d e f now : Int) (ts : List S87) : Option Bool := spec_StateOK.f a b c d e f now ts
namespace St
theorem cells6 {W : World} {g : Nat} {a b c d e f : Value} {t : TypeId} (h : W.heap[g]? = some (.cells #[a, b, c, d, e, f] t (0, 0))) : W.cell? ⟨g, 0, none⟩ = some a ∧ W.cell? ⟨g, 1, none⟩ = some b ∧ W.cell? ⟨g, 2, none⟩ = some c ∧ W.cell? ⟨g, 3, none⟩ = some d ∧ W.cell? ⟨g, 4, none⟩ = some e ∧ W.cell? ⟨g, 5, none⟩ = some f := ⟨(blk_cell h 0).trans rfl, (blk_cell h 1).trans rfl, (blk_cell h 2).trans rfl, (blk_cell h 3).trans rfl, (blk_cell h 4).trans rfl, (blk_cell h 5).trans rfl⟩
theorem st_imp (a b c d e f now : Int) (ts : List Tn) : stB a b c d e f now ts = (St.cfgB a b c d e f && (decide (0 ≤ now ∧ now ≤ 1000000000000) && (decide (ts.length ≤ 10000) && (Rise.up (ts.map (·.f0)) && allFrom (fun i => tnB a now (ts.getD i z87)) 0 (ts.length - 0))))) := by
 rw [Nat.sub_zero, allFrom_all (tnB a now) z87 ts ts.length 0 (by omega), List.drop_zero]
 rfl
end St
set_option maxHeartbeats 4000000 in
set_option maxRecDepth 100000 in
theorem impl_StateOK.calls (a b c d e f now : Int) (A : Option Addr) (cp : Nat) (ts : List S87) (r : Bool) (w : World) (hr : Kd.C k87 w A ts.length ts) (hc : ts.length ≤ cp) (h : impl_StateOK.f a b c d e f now ts = some r) (hT : Tabs w) :
  Calls Tryz.prog 16 #[.agg #[.int .i64 a, .int .i64 b, .int .i64 c, .int .i64 d, .int .i64 e, .int .i64 f], .agg #[.int .i64 now, .slice A ts.length cp]] w fun e w' => e = .returned (.bool r) ∧ Below w.heap.size w w' := by
 have hu29 := Tryz.underlying29
 have hu33 := Tryz.underlying33
 have hu87 := Tryz.underlying87
 unfold impl_StateOK.f spec_StateOK.f at h
 by_cases hs : ts.length ≤ 1048576 ∧ ∀ t ∈ ts, Sm t
 case neg => rw [if_neg hs] at h; cases h
 rw [if_pos hs] at h
 have HV := Aside0.mk ((Option.some.inj h).symm.trans (St.st_imp a b c d e f now ts))
 have HS := Aside0.mk hs
 have HR := Aside0.mk hr
 have HC := Aside0.mk hc
 replace hT := Aside0.mk hT
 clear h hs hr hc
 obtain ⟨L, hL⟩ : ∃ L, L = [(w.heap.size + 1, St.cS now A ts.length cp), (w.heap.size, St.cC a b c d e f)] := ⟨_, rfl⟩
 replace hL := Aside0.mk hL
 obtain ⟨q, hq⟩ : ∃ q, decide ((10000 : Int) < (ts.length : Int)) = q := ⟨_, rfl⟩
 have hq2 := Aside0.mk (show decide (ts.length ≤ 10000) = !q by rw [← hq, ← decide_not]; exact decide_eq_decide.2 (by omega))
 cases q
 all_goals
  go_enter Tryz.func16, Tryz.ntmps16
  go_wp2_with (first
   | (go_at_call 54; refine (impl_ConfigOK.calls a b c d e f _ _ rfl).mono ?_; rintro x w1 ⟨rfl, hB⟩; have K := Aside0.mk (hL.out ▸ (St.two w (St.cC a b c d e f) (St.cS now A ts.length cp)).step hB : Kp w w1 L); obtain ⟨s0, s1⟩ := St.cells2 (K.out.has _ (by rw [hL.out]; exact List.mem_cons_self)); clear hB; generalize hb : St.cfgB a b c d e f = bb; rcases St.and_split HV.out hb with ⟨rfl, h⟩ | ⟨rfl, h⟩ <;> (clear HV hb; have HV := Aside0.mk h; clear h))
   | (go_at_call 55; refine (St.ibetw_c _ _ _ _).mono ?_; rintro x w' ⟨bb, rfl, hb, ⟨nd, rfl⟩⟩; rcases St.and_split HV.out hb with ⟨rfl, h⟩ | ⟨rfl, h⟩ <;> (have hNow := Aside0.mk hb; clear HV hb; have HV := Aside0.mk h; clear h))
   | (go_at_call 56; replace HV := Aside0.mk (HV.out.trans (by rw [hq2.out]; rfl : _ = (Rise.up (ts.map (·.f0)) && allFrom (fun i => tnB a now (ts.getD i z87)) 0 (ts.length - 0)))); refine (impl_Tenant_string.calls _ _ _ _ _ (Kd.C_below HR.out (K.out.drewN _).bel) HC.out (if_pos (by have := HS.out.1; omega))).mono ?_; rintro x w1 ⟨rfl, hB⟩; have K2 := Aside0.mk ((K.out.drewN _).step hB); clear K hB s0 s1; have K := K2; clear K2; obtain ⟨s0, s1⟩ := St.cells2 (K.out.has _ (by rw [hL.out]; exact List.mem_cons_self)); generalize hb : Rise.up (ts.map (·.f0)) = bb; rcases St.and_split HV.out hb with ⟨rfl, h⟩ | ⟨rfl, h⟩ <;> (clear HV hb; have HV := Aside0.mk h; clear h)))
 all_goals try (go_ret; exact ⟨by first | rw [HV.out]; rfl | (rw [HV.out, hq2.out]; rfl), by first | exact K.out.bel | exact (K.out.drewN _).bel⟩)
 case _ =>
 clear s0 s1
 go_loopw [31] (fun v wr => ∃ j : Nat, j ≤ ts.length ∧ v = .int .i64 j ∧ Aside0 (Kp w wr L) ∧ Aside0 (r = allFrom (fun i => tnB a now (ts.getD i z87)) j (ts.length - j))) (fun v wr => ts.length - (intOf v).toNat)
 case atStart => exact ⟨0, by omega, by simp, K, HV⟩
 case round =>
  rename World => wo
  clear K HV
  obtain ⟨j, hj, rfl, K, HV⟩ := hrel
  obtain hj5 | hj6 : ts.length ≤ j ∨ j < ts.length := by omega
  ·obtain rfl : j = ts.length := by omega
   go_wp2
   go_ret
   exact ⟨by rw [HV.out, Nat.sub_self]; rfl, K.out.bel⟩
  ·have ht := HS.out.2 _ (getD_mem ts z87 j hj6)
   have hn := Aside0.mk HS.out.1
   obtain ⟨ad, A2, c2, A3, c3, rfl, x0, x1, x2, x3, l2, i2, l3, i3⟩ := at_T87 HR.out (j : Int) (by omega) (by omega)
   obtain ⟨t, et⟩ : ∃ t, rd_T87 ts (j : Int) = t := ⟨_, rfl⟩
   have et2 := Aside0.mk (show ts.getD j z87 = t from et)
   rw [et2.out] at ht
   rw [et] at x0 x1 x2 x3 l2 i2 l3 i3
   simp only [Int.toNat_natCast] at x0 x1 x2 x3
   replace ht := Aside0.mk ht
   replace l2 := Aside0.mk l2
   replace l3 := Aside0.mk l3
   replace i2 := Aside0.mk i2
   replace i3 := Aside0.mk i3
   replace x0 := (K.out.bel.cell (World.block_lt_of_cell? w _ x0)).trans x0
   replace x1 := (K.out.bel.cell (World.block_lt_of_cell? w _ x1)).trans x1
   replace x2 := (K.out.bel.cell (World.block_lt_of_cell? w _ x2)).trans x2
   replace x3 := (K.out.bel.cell (World.block_lt_of_cell? w _ x3)).trans x3
   clear et
   have K4 := Aside0.mk (K.out.alloc (St.cT (.string t.f0) (.int .i64 t.f1) (.slice A2 t.f2.length c2) (.slice A3 t.f3.length c3)))
   obtain ⟨c0, c1, c2', c3', c4, c5⟩ := St.cells6 (K4.out.has _ (by rw [hL.out]; exact List.mem_cons_of_mem _ List.mem_cons_self))
   obtain ⟨s0, s1⟩ := St.cells2 (K4.out.has _ (by rw [hL.out]; exact List.mem_cons_self))
   replace HV := Aside0.mk (HV.out.trans ((St.all_step _ j ts.length hj6).trans (congrArg (· && _) (congrArg (tnB a now) et2.out))))
   go_wp2_with (go_at_call 58; refine (St.tn_c a b c d e f now (of_decide_eq_true hNow.out).1 (of_decide_eq_true hNow.out).2 t ht.out _ _ _ _ _ (Kd.C_below i2.out K4.out.bel) l2.out (Kd.C_below i3.out K4.out.bel) l3.out (hT.out.below K4.out.bel)).mono ?_; rintro x w1 ⟨rfl, hB⟩; have K2 := Aside0.mk (K4.out.step hB); clear K K4 hB c0 c1 c2' c3' c4 c5 s0 s1; have K := K2; clear K2; generalize hb : tnB a now t = bb; rcases St.and_split HV.out hb with ⟨rfl, h⟩ | ⟨rfl, h⟩ <;> (clear HV hb; have HV := Aside0.mk h; clear h))
   all_goals try (go_ret; exact ⟨by rw [HV.out]; rfl, K.out.bel⟩)
   case _ =>
   go_roundw
   case rel => have hn3 := hn.out; exact ⟨j + 1, by omega, by rw [St.sc j (by omega)], K, HV⟩
   case measure => exact St.dec _ j hj6 (Nat.lt_of_lt_of_le hj6 hn.out)
end Go.Proofs.YtikbfjnbhogihaaGreatDoor.M
