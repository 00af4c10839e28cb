import Derived.Test.YtikbfjnbhogihaaGreatDoorF158
import Derived.Test.YtikbfjnbhogihaaGreatDoorCan
import Derived.Test.YtikbfjnbhogihaaGreatDoorM0
import Derived.Test.YtikbfjnbhogihaaGreatDoorF111
import Derived.Lib.DecodeN
import Derived.Test.YtikbfjnbhogihaaGreatDoorMp
/- What impl.Canon's printed form answers. Plain. -/
namespace Go.Proofs.YtikbfjnbhogihaaGreatDoor.Can
open Go.Proofs.YtikbfjnbhogihaaGreatDoor.M Go.Proofs.YtikbfjnbhogihaaGreatDoor.Loops Go.Proofs.YtikbfjnbhogihaaGreatDoor.CanSort Go.Proofs.YtikbfjnbhogihaaGreatDoor.Utf Go.Proofs.YtikbfjnbhogihaaGreatDoorW.PrintWords Go.Proofs.YtikbfjnbhogihaaGreatDoorW.PrintLast Go.Proofs.YtikbfjnbhogihaaGreatDoorW.PrintMore Go.RowKit
set_option linter.unusedVariables false
theorem rd_get (l : List Lb) (j : Nat) (h : j < l.length) : rd_T141 l (j : Int) = l[j] := by
 unfold rd_T141
 rw [Int.toNat_natCast, List.getD_eq_getElem?_getD, List.getElem?_eq_getElem h]; rfl
theorem in_yes (l a : List Lb) (b : Bool) (i : Int) (u v : Int) (row : List Lb) (x : Lb) (hr : row.length ≤ 16) : ∀ m q, q + m = row.length → (row.drop q).any (named x) = true →
  Ev (fun k => impl_Canon.l2 k l a b i l u v row (row.length : Int) (q : Int) x.f0 x.f1) (([] : List Lb), (45 : Int), i) := by
 intro m
 induction m with
 | zero =>
  intro q hq h
  rw [List.drop_eq_nil_of_le (by omega)] at h
  cases h
 | succ m ih =>
  intro q hq h
  have hlt : q < row.length := by omega
  rw [List.drop_eq_getElem_cons hlt, List.any_cons] at h
  by_cases hn : row[q].f0.toList = x.f0.toList
  ·refine Ev.step (f := fun _ => some _) (fun k => ?_) (Ev.now _)
   simp only [impl_Canon.l2]
   rw [if_pos (by omega), if_pos (by omega), if_pos (by omega), rd_get row q hlt, if_pos hn]
  ·have hd : named x row[q] = false := by unfold named; exact decide_eq_false hn
   rw [hd, Bool.false_or] at h
   refine Ev.step (fun k => ?_) (ih (q + 1) (by omega) h)
   conv => lhs; unfold impl_Canon.l2
   rw [if_pos (by omega), if_pos (by omega), if_pos (by omega), rd_get row q hlt, if_neg hn, w_succ q (by omega)]
theorem in_no (l a : List Lb) (b : Bool) (i : Int) (u v : Int) (row : List Lb) (x : Lb) (hr : row.length ≤ 16) (ha : a.length ≤ 16) (R : List Lb × Int × Int)
  (hend : Ev (fun k => if x.f1.toList = ([] : List UInt8) then impl_Canon.l1 k l a b l u (wrap64 (v + 1)) else impl_Canon.l1 k l (a ++ [x]) (b || (x.f0.toList == ([95, 95, 110, 97, 109, 101, 95, 95] : List UInt8))) l u (wrap64 (v + 1))) R) :
  ∀ m q, q + m = row.length → (row.drop q).any (named x) = false → Ev (fun k => impl_Canon.l2 k l a b i l u v row (row.length : Int) (q : Int) x.f0 x.f1) R := by
 intro m
 induction m with
 | zero =>
  intro q hq h
  refine Ev.step (fun k => ?_) hend
  conv => lhs; unfold impl_Canon.l2
  rw [if_neg (by omega)]
  by_cases hv : x.f1.toList = ([] : List UInt8)
  ·rw [if_pos hv, if_pos hv]
  ·rw [if_neg hv, if_neg hv, if_pos (by omega)]
   cases b with
   | true => rfl
   | false => rfl
 | succ m ih =>
  intro q hq h
  have hlt : q < row.length := by omega
  rw [List.drop_eq_getElem_cons hlt, List.any_cons, Bool.or_eq_false_iff] at h
  have hn : ¬ row[q].f0.toList = x.f0.toList := by
   have := h.1
   unfold named at this
   exact of_decide_eq_false this
  refine Ev.step (fun k => ?_) (ih (q + 1) (by omega) h.2)
  conv => lhs; unfold impl_Canon.l2
  rw [if_pos (by omega), if_pos (by omega), if_pos (by omega), rd_get row q hlt, if_neg hn, w_succ q (by omega)]
theorem impl_second (l : List Lb) (h16 : ¬ 16 < l.length) (hf : firstF l 0 = none) : ∀ n j, j + n = l.length → firstT (l.take j) (l.drop j) = firstT [] l →
  Ev (fun k => impl_Canon.l1 k l ((l.take j).filter keep) ((l.take j).any isMet) l (l.length : Int) (j : Int)) (can l) := by
 intro n
 induction n with
 | zero =>
  intro j hj ht
  obtain rfl : j = l.length := by omega
  rw [List.drop_eq_nil_of_le (Nat.le_refl _)] at ht
  have ht0 : firstT [] l = none := ht.symm
  rw [List.take_of_length_le (Nat.le_refl _)]
  cases hm : l.any isMet with
  | true =>
   rw [can_good h16 hf ht0 hm]
   refine Ev.step (f := fun _ => some _) (fun k => ?_) (Ev.now _)
   simp only [impl_Canon.l1]
   rw [if_neg (by omega)]
   have hx : impl_Label_177.f (l.filter keep) = some (order (l.filter keep)) := by
    unfold impl_Label_177.f
    rw [if_pos ⟨once_filter keep (once_all ht0), Nat.lt_of_le_of_lt (List.length_filter_le _ _) (by omega)⟩]
   rw [hx]
   rfl
  | false =>
   rw [can_none h16 hf ht0 hm]
   refine Ev.step (f := fun _ => some _) (fun k => ?_) (Ev.now _)
   simp only [impl_Canon.l1]
   rw [if_neg (by omega), if_neg (by decide)]
 | succ n ih =>
  intro j hj ht
  have hlt : j < l.length := by omega
  obtain ⟨x, hx⟩ : ∃ x, x = l[j] := ⟨_, rfl⟩
  have htk : l.take (j + 1) = l.take j ++ [x] := by rw [List.take_add_one, List.getElem?_eq_getElem hlt, Option.toList_some, hx]
  rw [List.drop_eq_getElem_cons hlt, ← hx] at ht
  have hlen : (l.take j).length = j := by rw [List.length_take]; omega
  refine Ev.step (f := fun k => impl_Canon.l2 k l ((l.take j).filter keep) ((l.take j).any isMet) (j : Int) l (l.length : Int) (j : Int) (l.take j) ((l.take j).length : Int) ((0 : Nat) : Int) x.f0 x.f1) (fun k => by
   conv => lhs; unfold impl_Canon.l1
   rw [if_pos (by omega), if_pos (by omega), if_pos (by omega), if_pos (by omega), Option.bind_some, Int.toNat_natCast, rd_get l j hlt, ← hx]
   rfl) ?_
  cases hany : (l.take j).any (named x) with
  | true =>
   have htw : firstT [] l = some j := by rw [← ht, firstT_yes hany, hlen]
   rw [can_twice h16 hf htw]
   exact in_yes l _ _ _ _ _ (l.take j) x (by omega) j 0 (by omega) hany
  | false =>
   rw [firstT_no hany, ← htk] at ht
   have hn := ih (j + 1) (by omega) ht
   refine in_no l _ _ _ _ _ (l.take j) x (by omega) (Nat.le_trans (List.length_filter_le _ _) (by omega)) (can l) ?_ j 0 (by omega) hany
   rw [w_succ j (by omega)]
   rw [htk, List.filter_append, List.any_append] at hn
   by_cases hv : x.f1.toList = ([] : List UInt8)
   ·refine Ev.ite_pos hv (Ev.congr (fun k => ?_) hn)
    have hk : keep x = false := by unfold keep; exact decide_eq_false (fun h => h hv)
    have h1 : [x].filter keep = [] := by simp [hk]
    have h2 : [x].any isMet = false := by simp [isMet, hk]
    rw [h1, h2, List.append_nil, Bool.or_false]
   ·refine Ev.ite_neg hv (Ev.congr (fun k => ?_) hn)
    have hk : keep x = true := by unfold keep; exact decide_eq_true hv
    have h1 : [x].filter keep = [x] := by simp [hk]
    have h2 : [x].any isMet = (x.f0.toList == ([95, 95, 110, 97, 109, 101, 95, 95] : List UInt8)) := by
     simp only [List.any_cons, List.any_nil, Bool.or_false, isMet, hk, Bool.true_and]
     by_cases hq : x.f0.toList = [95, 95, 110, 97, 109, 101, 95, 95] <;> simp [hq]
    rw [h1, h2]
theorem impl_first (l : List Lb) (h16 : ¬ 16 < l.length) (hF : Fit l) : ∀ n j, j + n = l.length → firstF (l.drop j) j = firstF l 0 →
  Ev (fun k => impl_Canon.l0 k l l (l.length : Int) (j : Int)) (can l) := by
 intro n
 induction n with
 | zero =>
  intro j hj h
  obtain rfl : j = l.length := by omega
  rw [List.drop_eq_nil_of_le (Nat.le_refl _)] at h
  have hf : firstF l 0 = none := h.symm
  refine Ev.step (fun k => ?_) (impl_second l h16 hf l.length 0 (by omega) rfl)
  conv => lhs; unfold impl_Canon.l0
  rw [if_neg (by omega)]
  rfl
 | succ n ih =>
  intro j hj h
  have hlt : j < l.length := by omega
  obtain ⟨x, hx⟩ : ∃ x, x = l[j] := ⟨_, rfl⟩
  rw [List.drop_eq_getElem_cons hlt, ← hx] at h
  have hfx : x.f1.size ≤ 1073741824 := (hF x (by rw [hx]; exact List.getElem_mem _)).2
  have hv : impl_valueFault.f x.f1 = some (vf x.f1) := by unfold impl_valueFault.f; rw [if_pos (by omega)]
  have hl : ∀ k, impl_Canon.l0 (k + 1) l l (l.length : Int) (j : Int) = (impl_isName.f k x.f0).bind fun t => if t = true then (if vf x.f1 = 0 then impl_Canon.l0 k l l (l.length : Int) ((j + 1 : Nat) : Int) else some (([] : List Lb), vf x.f1, (j : Int))) else some (([] : List Lb), 41, (j : Int)) := by
   intro k
   conv => lhs; unfold impl_Canon.l0
   rw [if_pos (by omega), if_pos (by omega), if_pos (by omega), rd_get l j hlt, ← hx, hv, w_succ j (by omega)]
   rfl
  refine Ev.step hl (Ev.bind (impl_name x.f0) ?_)
  cases hn : nameOK x.f0 with
  | false =>
   have hq : fault x = 41 := by unfold fault; rw [hn]; rfl
   rw [firstF_bad (by rw [hq]; decide), hq] at h
   rw [can_fault h16 h.symm]
   exact Ev.now _
  | true =>
   have hq : fault x = vf x.f1 := by unfold fault; rw [hn]; rfl
   simp only [if_true]
   by_cases h0 : vf x.f1 = 0
   ·refine Ev.ite_pos h0 (ih (j + 1) (by omega) ?_)
    rw [← h, firstF_ok (by rw [hq]; exact h0)]
   ·refine Ev.ite_neg h0 ?_
    rw [firstF_bad (by rw [hq]; exact h0), hq] at h
    rw [can_fault h16 h.symm]
    exact Ev.now _
theorem impl_can (l : List Lb) (hF : Fit l) : Ev (fun k => impl_Canon.f k l) (can l) := by
 unfold impl_Canon.f
 by_cases h : 16 < l.length
 ·refine Ev.ite_pos (by omega) ?_
  rw [can_many h]
  exact Ev.now _
 ·exact Ev.ite_neg (by omega) (impl_first l h hF l.length 0 (by omega) rfl)
end Go.Proofs.YtikbfjnbhogihaaGreatDoor.Can
namespace Go.Proofs.YtikbfjnbhogihaaGreatDoor.M
open Go.RowKit Go.Proofs.YtikbfjnbhogihaaGreatDoorW.PrintWords Go.Proofs.YtikbfjnbhogihaaGreatDoorW.PrintLast Go.Proofs.YtikbfjnbhogihaaGreatDoorW.PrintMore
attribute [local go_sem] max2_int min2_int max_two min_two max_three min_three max_four min_four
set_option linter.unusedVariables false
set_option linter.unusedSimpArgs false
/-! ### laws_eqState: function 17 -/
def laws_eqState.f (k : Nat) (a0_0 : Int) (l0_1 : List (S87)) (a1_0 : Int) (l1_1 : List (S87)) : Option (Bool) := if a0_0 = a1_0 then ((laws_eqTenantS.f k l0_1 l1_1).bind fun t336 => (if t336 = true then (some true) else (some false))) else (some false)
set_option maxHeartbeats 8000000 in
set_option maxRecDepth 100000 in
theorem laws_eqState.calls (k : Nat) (a0_0 : Int) (A0_1 : Option Addr) (c0_1 : Nat) (l0_1 : List (S87)) (a1_0 : Int) (A1_1 : Option Addr) (c1_1 : Nat) (l1_1 : List (S87)) (r : Bool) (w : World) (hr0_1 : Kd.C k87 w A0_1 l0_1.length l0_1) (hc0_1 : l0_1.length ≤ c0_1) (hr1_1 : Kd.C k87 w A1_1 l1_1.length l1_1) (hc1_1 : l1_1.length ≤ c1_1) (h : laws_eqState.f k a0_0 l0_1 a1_0 l1_1 = some r) :
  Calls Tryz.prog 17 #[.agg #[.int .i64 a0_0, .slice A0_1 l0_1.length c0_1], .agg #[.int .i64 a1_0, .slice A1_1 l1_1.length c1_1]] w fun e w' => e = .returned (.bool r) ∧ Below w.heap.size w w' := by
 have HR0_1 := Aside0.mk hr0_1
 have HC0_1 := Aside0.mk hc0_1
 clear hr0_1 hc0_1
 have HR1_1 := Aside0.mk hr1_1
 have HC1_1 := Aside0.mk hc1_1
 clear hr1_1 hc1_1
 have HB := Aside0.mk (Below.refl w.heap.size w)
 have H : (if a0_0 = a1_0 then ((laws_eqTenantS.f k l0_1 l1_1).bind fun t336 => (if t336 = true then (some true) else (some false))) else (some false)) = some r := h
 clear h
 by_cases c3 : a0_0 = a1_0
 ·rw [if_pos c3] at H
  have c3b1 : (a0_0 != a1_0) = false := bne_eq_false_iff_eq.mpr c3
  clear c3
  replace H := Option.bind_eq_some_iff.mp H
  obtain ⟨t336, A40, H⟩ := H
  replace H : (if t336 = true then (some true) else (some false)) = some r := H
  have A4 := Aside0.mk A40
  clear A40
  by_cases c5 : t336 = true
  ·subst c5
   have H1 : (some true) = some r := by rw [if_pos rfl] at H; exact H
   clear H
   have H := H1
   clear H1
   obtain rfl := Option.some.inj H
   go_enter Tryz.func17, Tryz.ntmps17
   go_wp2_with (first | ((with_reducible refine gate_dst (N := 2) rfl ?_); refine box_event ?hg (N := 2) ?hd (cs := #[.int .i64 a0_0, .slice A0_1 l0_1.length c0_1]) (t := 33) ?hr ?_; (case hd => rfl); (case hg => rfl); (case hr => (go_simp; done)); intro gb334 hg w6 hbox hb; have n0_ := Aside0.mk (below_step (by repeat ((with_reducible exact HB.out))) hb); have n1_ := Aside0.mk (hbox); clear HB; have HB := n0_; have BK334 := n1_; clear n0_ n1_; clear hb hbox hg) | ((with_reducible refine gate_dst (N := 3) rfl ?_); refine box_event ?hg (N := 3) ?hd (cs := #[.int .i64 a1_0, .slice A1_1 l1_1.length c1_1]) (t := 33) ?hr ?_; (case hd => rfl); (case hg => rfl); (case hr => (go_simp; done)); intro gb335 hg w7 hbox hb; have n0_ := Aside0.mk (blk_below (g := gb334) (o := .cells #[.int .i64 a0_0, .slice A0_1 l0_1.length c0_1] 33 (0, 0)) (by (with_reducible repeat (first | refine blk_drewN ?_ _ | refine blk_drew ?_ | refine blk_alloc ?_ _)); exact BK334.out) hb); have n1_ := Aside0.mk (below_step (by repeat ((with_reducible exact HB.out))) hb); have n2_ := Aside0.mk (hbox); clear BK334; clear HB; have BK334 := n0_; have HB := n1_; have BK335 := n2_; clear n0_ n1_ n2_; clear hb hbox hg; have hcz9_0 : w7.cell? ⟨gb334, 0, none⟩ = some (.int .i64 a0_0) := (blk_cell BK334.out 0).trans rfl; have hcz9_1 : w7.cell? ⟨gb334, 1, none⟩ = some (.slice A0_1 l0_1.length c0_1) := (blk_cell BK334.out 1).trans rfl; have hcz10_0 : w7.cell? ⟨gb335, 0, none⟩ = some (.int .i64 a1_0) := (blk_cell BK335.out 0).trans rfl; have hcz10_1 : w7.cell? ⟨gb335, 1, none⟩ = some (.slice A1_1 l1_1.length c1_1) := (blk_cell BK335.out 1).trans rfl) | ((with_reducible refine gate_callee (f := 59) rfl ?_); refine goesL_ (some 14) rfl rfl Tryz.func59 (by kernel_rfl) rfl #[.slice A0_1 l0_1.length c0_1, .slice A1_1 l1_1.length c1_1] rfl (by (try simp only [List.map_toArray, List.map_cons, List.map_nil]); first | done | rfl) ?_; (with_reducible refine (laws_eqTenantS.calls k _ _ l0_1 _ _ l1_1 true _ ?side1 ?side2 ?side3 ?side4 A4.out).mono ?_); (case side1 => repeat (exact (Kd.C_below HR0_1.out HB.out))); (case side2 => exact HC0_1.out); (case side3 => repeat (exact (Kd.C_below HR1_1.out HB.out))); (case side4 => exact HC1_1.out); rintro e w11 ⟨rfl, hb⟩; refine ⟨_, rfl, ?_⟩; have n2_ := Aside0.mk (below_step (by repeat ((with_reducible exact HB.out))) hb); clear BK334; clear BK335; clear HB; have HB := n2_; clear n2_; (try clear hb)))
   go_ret
   exact ⟨by rfl, by repeat ((with_reducible exact HB.out))⟩
  ·replace c5 := Bool.eq_false_iff.mpr c5
   subst c5
   have H1 : (some false) = some r := by rw [if_neg (show ¬ (false = true) by decide)] at H; exact H
   clear H
   have H := H1
   clear H1
   obtain rfl := Option.some.inj H
   go_enter Tryz.func17, Tryz.ntmps17
   go_wp2_with (first | ((with_reducible refine gate_dst (N := 2) rfl ?_); refine box_event ?hg (N := 2) ?hd (cs := #[.int .i64 a0_0, .slice A0_1 l0_1.length c0_1]) (t := 33) ?hr ?_; (case hd => rfl); (case hg => rfl); (case hr => (go_simp; done)); intro gb334 hg w12 hbox hb; have n0_ := Aside0.mk (below_step (by repeat ((with_reducible exact HB.out))) hb); have n1_ := Aside0.mk (hbox); clear HB; have HB := n0_; have BK334 := n1_; clear n0_ n1_; clear hb hbox hg) | ((with_reducible refine gate_dst (N := 3) rfl ?_); refine box_event ?hg (N := 3) ?hd (cs := #[.int .i64 a1_0, .slice A1_1 l1_1.length c1_1]) (t := 33) ?hr ?_; (case hd => rfl); (case hg => rfl); (case hr => (go_simp; done)); intro gb335 hg w13 hbox hb; have n0_ := Aside0.mk (blk_below (g := gb334) (o := .cells #[.int .i64 a0_0, .slice A0_1 l0_1.length c0_1] 33 (0, 0)) (by (with_reducible repeat (first | refine blk_drewN ?_ _ | refine blk_drew ?_ | refine blk_alloc ?_ _)); exact BK334.out) hb); have n1_ := Aside0.mk (below_step (by repeat ((with_reducible exact HB.out))) hb); have n2_ := Aside0.mk (hbox); clear BK334; clear HB; have BK334 := n0_; have HB := n1_; have BK335 := n2_; clear n0_ n1_ n2_; clear hb hbox hg; have hcz15_0 : w13.cell? ⟨gb334, 0, none⟩ = some (.int .i64 a0_0) := (blk_cell BK334.out 0).trans rfl; have hcz15_1 : w13.cell? ⟨gb334, 1, none⟩ = some (.slice A0_1 l0_1.length c0_1) := (blk_cell BK334.out 1).trans rfl; have hcz16_0 : w13.cell? ⟨gb335, 0, none⟩ = some (.int .i64 a1_0) := (blk_cell BK335.out 0).trans rfl; have hcz16_1 : w13.cell? ⟨gb335, 1, none⟩ = some (.slice A1_1 l1_1.length c1_1) := (blk_cell BK335.out 1).trans rfl) | ((with_reducible refine gate_callee (f := 59) rfl ?_); refine goesL_ (some 14) rfl rfl Tryz.func59 (by kernel_rfl) rfl #[.slice A0_1 l0_1.length c0_1, .slice A1_1 l1_1.length c1_1] rfl (by (try simp only [List.map_toArray, List.map_cons, List.map_nil]); first | done | rfl) ?_; (with_reducible refine (laws_eqTenantS.calls k _ _ l0_1 _ _ l1_1 false _ ?side1 ?side2 ?side3 ?side4 A4.out).mono ?_); (case side1 => repeat (exact (Kd.C_below HR0_1.out HB.out))); (case side2 => exact HC0_1.out); (case side3 => repeat (exact (Kd.C_below HR1_1.out HB.out))); (case side4 => exact HC1_1.out); rintro e w17 ⟨rfl, hb⟩; refine ⟨_, rfl, ?_⟩; have n2_ := Aside0.mk (below_step (by repeat ((with_reducible exact HB.out))) hb); clear BK334; clear BK335; clear HB; have HB := n2_; clear n2_; (try clear hb)))
   go_ret
   exact ⟨by rfl, by repeat ((with_reducible exact HB.out))⟩
 ·rw [if_neg c3] at H
  have c3b1 : (a0_0 != a1_0) = true := bne_iff_ne.mpr c3
  obtain rfl := Option.some.inj H
  go_enter Tryz.func17, Tryz.ntmps17
  go_wp2_with (first | ((with_reducible refine gate_dst (N := 2) rfl ?_); refine box_event ?hg (N := 2) ?hd (cs := #[.int .i64 a0_0, .slice A0_1 l0_1.length c0_1]) (t := 33) ?hr ?_; (case hd => rfl); (case hg => rfl); (case hr => (go_simp; done)); intro gb334 hg w18 hbox hb; have n0_ := Aside0.mk (below_step (by repeat ((with_reducible exact HB.out))) hb); have n1_ := Aside0.mk (hbox); clear HB; have HB := n0_; have BK334 := n1_; clear n0_ n1_; clear hb hbox hg) | ((with_reducible refine gate_dst (N := 3) rfl ?_); refine box_event ?hg (N := 3) ?hd (cs := #[.int .i64 a1_0, .slice A1_1 l1_1.length c1_1]) (t := 33) ?hr ?_; (case hd => rfl); (case hg => rfl); (case hr => (go_simp; done)); intro gb335 hg w19 hbox hb; have n0_ := Aside0.mk (blk_below (g := gb334) (o := .cells #[.int .i64 a0_0, .slice A0_1 l0_1.length c0_1] 33 (0, 0)) (by (with_reducible repeat (first | refine blk_drewN ?_ _ | refine blk_drew ?_ | refine blk_alloc ?_ _)); exact BK334.out) hb); have n1_ := Aside0.mk (below_step (by repeat ((with_reducible exact HB.out))) hb); have n2_ := Aside0.mk (hbox); clear BK334; clear HB; have BK334 := n0_; have HB := n1_; have BK335 := n2_; clear n0_ n1_ n2_; clear hb hbox hg; have hcz21_0 : w19.cell? ⟨gb334, 0, none⟩ = some (.int .i64 a0_0) := (blk_cell BK334.out 0).trans rfl; have hcz22_0 : w19.cell? ⟨gb335, 0, none⟩ = some (.int .i64 a1_0) := (blk_cell BK335.out 0).trans rfl))
  go_ret
  exact ⟨by rfl, by repeat ((with_reducible exact HB.out))⟩
end Go.Proofs.YtikbfjnbhogihaaGreatDoor.M
/- A value's fault, as the reference finds it: plain. -/
namespace Go.Proofs.YtikbfjnbhogihaaGreatDoor.Can
open Go.Proofs.YtikbfjnbhogihaaGreatDoor.M Go.Proofs.YtikbfjnbhogihaaGreatDoor.Loops Go.Proofs.YtikbfjnbhogihaaGreatDoor.Utf Go.Proofs.YtikbfjnbhogihaaGreatDoorW.PrintWords Go.Proofs.YtikbfjnbhogihaaGreatDoorW.PrintLast Go.Proofs.YtikbfjnbhogihaaGreatDoorW.PrintMore Go.RowKit
set_option linter.unusedVariables false
def nb (s : ByteArray) (i : Nat) : Nat := (s.get! i).toNat
theorem nb_lt (s : ByteArray) (i : Nat) : nb s i < 256 := (s.get! i).toNat_lt
theorem bt_nb (s : ByteArray) (i : Nat) (h : i < s.size) : bt s (i : Int) = (nb s i : Int) := by
 rw [← bt_at s (i : Int) (by rw [Int.toNat_natCast]; exact h)]
 unfold nb
 rw [Utf8W.get!_of_lt s i h]
 simp only [Int.toNat_natCast]
def fini (c mn n : Nat) : Int × Int := if c < mn then (0, 0) else if 1114111 < c then (0, 0) else if 55296 ≤ c ∧ c ≤ 57343 then (0, 0) else ((c : Int), (n : Int))
theorem td (b : Nat) (q : Nat) : Int.tdiv (b : Int) ((q : Nat) : Int) = ((b / q : Nat) : Int) := rfl
theorem tm (b : Nat) (q : Nat) : Int.tmod (b : Int) ((q : Nat) : Int) = ((b % q : Nat) : Int) := rfl
theorem rune_go (k : Nat) (s : ByteArray) (n c mn i : Nat) (hi : i < n) (hn : n ≤ s.size) (hc : c < 1000000000) (hz : i < 100) :
  spec_l3Rune.l0 (k + 1) s (n : Int) (c : Int) (mn : Int) (i : Int) = if nb s i / 64 = 2 then spec_l3Rune.l0 k s (n : Int) ((c * 64 + nb s i % 64 : Nat) : Int) (mn : Int) ((i + 1 : Nat) : Int) else some (0, 0) := by
 have hb := nb_lt s i
 conv => lhs; unfold spec_l3Rune.l0
 rw [if_pos (by omega), if_pos (by omega), if_pos (by omega), bt_nb s i (by omega)]
 generalize nb s i = b at hb ⊢
 have e1 : wrap64 (b : Int) = (b : Int) := w_id _ (by omega) (by omega)
 have e2 : Int.tdiv (b : Int) 64 = ((b / 64 : Nat) : Int) := td b 64
 have e3 : Int.tmod (b : Int) 64 = ((b % 64 : Nat) : Int) := tm b 64
 have e4 : wrap64 ((b / 64 : Nat) : Int) = ((b / 64 : Nat) : Int) := w_id _ (by omega) (by omega)
 have e5 : wrap64 ((c : Int) * 64) = ((c * 64 : Nat) : Int) := (w_id _ (by omega) (by omega)).trans (by omega)
 have e6 : wrap64 (((c * 64 : Nat) : Int) + ((b % 64 : Nat) : Int)) = ((c * 64 + b % 64 : Nat) : Int) := (w_id _ (by omega) (by omega)).trans (by omega)
 rw [e1, e2, e3, e4, e5, e6, w_succ i (by omega)]
 by_cases h : b / 64 = 2
 ·rw [if_pos h, if_pos (by omega)]
 ·rw [if_neg h, if_neg (by omega)]
theorem rune_end (k : Nat) (s : ByteArray) (n c mn : Nat) : spec_l3Rune.l0 (k + 1) s (n : Int) (c : Int) (mn : Int) (n : Int) = some (fini c mn n) := by
 conv => lhs; unfold spec_l3Rune.l0
 unfold spec_l1Between.f fini
 rw [if_neg (by omega)]
 by_cases h1 : c < mn
 ·rw [if_pos h1, if_pos (by omega)]
 ·rw [if_neg h1, if_neg (by omega)]
  by_cases h2 : 1114111 < c
  ·rw [if_pos h2, if_pos (by omega)]
  ·rw [if_neg h2, if_neg (by omega)]
   by_cases h3 : 55296 ≤ c
   ·rw [if_pos (show (55296 : Int) ≤ (c : Int) by omega)]
    simp only [Option.bind_some]
    by_cases h4 : c ≤ 57343
    ·rw [if_pos (decide_eq_true (show (c : Int) ≤ 57343 by omega)), if_pos ⟨h3, h4⟩]
    ·rw [if_neg (show ¬ decide ((c : Int) ≤ 57343) = true by simp; omega), if_neg (show ¬ (55296 ≤ c ∧ c ≤ 57343) from fun h => h4 h.2)]
   ·rw [if_neg (show ¬ (55296 : Int) ≤ (c : Int) by omega), if_neg (show ¬ (55296 ≤ c ∧ c ≤ 57343) from fun h => h3 h.1)]
    simp only [Option.bind_some]
    rfl
def told (d : Nat × Nat) : Int × Int := if d.1 = 65533 ∧ d.2 = 1 then (0, 0) else ((d.1 : Int), (d.2 : Int))
theorem told_wide (c w : Nat) (h : w ≠ 1) : told (c, w) = ((c : Int), (w : Int)) := by
 unfold told
 rw [if_neg (fun e => h e.2)]
theorem told1 (n b0 b1 b2 b3 : Nat) (h : b0 < 128) : told (Lib.decodeN n b0 b1 b2 b3) = ((b0 : Int), 1) := by
 unfold Lib.decodeN told
 rw [if_pos h, if_neg (fun e => by have := e.1; omega)]
 rfl
theorem told2 (n b0 b1 b2 b3 : Nat) (h : b0 / 32 = 6) : told (Lib.decodeN n b0 b1 b2 b3) = if n < 2 then (0, 0) else if b1 / 64 = 2 then fini (b0 % 32 * 64 + b1 % 64) 128 2 else (0, 0) := by
 unfold Lib.decodeN
 rw [if_neg (by omega)]
 by_cases hn : n < 2
 ·rw [if_pos hn, if_neg (by omega), if_neg (by omega), if_neg (by omega)]; rfl
 ·rw [if_neg hn]
  by_cases h1 : b1 / 64 = 2
  ·rw [if_pos h1, if_pos ⟨h, by omega, h1⟩]
   unfold fini
   by_cases h2 : b0 % 32 * 64 + b1 % 64 < 128
   ·rw [if_pos h2, if_neg (by omega)]; rfl
   ·rw [if_neg h2, if_pos (by omega), if_neg (by omega), if_neg (by omega)]; exact told_wide _ 2 (by decide)
  ·rw [if_neg h1, if_neg (by omega), if_neg (by omega), if_neg (by omega)]; rfl
theorem told3 (n b0 b1 b2 b3 : Nat) (h : b0 / 16 = 14) : told (Lib.decodeN n b0 b1 b2 b3) = if n < 3 then (0, 0) else if b1 / 64 = 2 then (if b2 / 64 = 2 then fini ((b0 % 16 * 64 + b1 % 64) * 64 + b2 % 64) 2048 3 else (0, 0)) else (0, 0) := by
 unfold Lib.decodeN
 rw [if_neg (by omega), if_neg (by omega)]
 by_cases hn : n < 3
 ·rw [if_pos hn, if_neg (by omega), if_neg (by omega)]; rfl
 ·rw [if_neg hn]
  by_cases h1 : b1 / 64 = 2
  ·by_cases h2 : b2 / 64 = 2
   ·rw [if_pos h1, if_pos h2, if_pos ⟨h, ⟨by omega, h1⟩, by omega, h2⟩]
    have e : b0 % 16 * 4096 + b1 % 64 * 64 + b2 % 64 = (b0 % 16 * 64 + b1 % 64) * 64 + b2 % 64 := by omega
    rw [e]
    have hm : (b0 % 16 * 64 + b1 % 64) * 64 + b2 % 64 < 65536 := by omega
    generalize (b0 % 16 * 64 + b1 % 64) * 64 + b2 % 64 = c at hm ⊢
    unfold fini
    by_cases h3 : c < 2048
    ·rw [if_pos h3, if_neg (by omega)]; rfl
    ·rw [if_neg h3, if_neg (show ¬ 1114111 < c by omega)]
     by_cases h4 : 55296 ≤ c ∧ c ≤ 57343
     ·rw [if_pos h4, if_neg (by omega)]; rfl
     ·rw [if_neg h4, if_pos (by omega)]; exact told_wide _ 3 (by decide)
   ·rw [if_pos h1, if_neg h2, if_neg (by omega), if_neg (by omega)]; rfl
  ·rw [if_neg h1, if_neg (by omega), if_neg (by omega)]; rfl
theorem told4 (n b0 b1 b2 b3 : Nat) (h : b0 / 8 = 30) : told (Lib.decodeN n b0 b1 b2 b3) = if n < 4 then (0, 0) else if b1 / 64 = 2 then (if b2 / 64 = 2 then (if b3 / 64 = 2 then fini (((b0 % 8 * 64 + b1 % 64) * 64 + b2 % 64) * 64 + b3 % 64) 65536 4 else (0, 0)) else (0, 0)) else (0, 0) := by
 unfold Lib.decodeN
 rw [if_neg (by omega), if_neg (by omega), if_neg (by omega)]
 by_cases hn : n < 4
 ·rw [if_pos hn, if_neg (by omega)]; rfl
 ·rw [if_neg hn]
  by_cases h1 : b1 / 64 = 2
  ·by_cases h2 : b2 / 64 = 2
   ·by_cases h3 : b3 / 64 = 2
    ·rw [if_pos h1, if_pos h2, if_pos h3, if_pos ⟨h, ⟨by omega, h1⟩, ⟨by omega, h2⟩, by omega, h3⟩]
     have e : b0 % 8 * 262144 + b1 % 64 * 4096 + b2 % 64 * 64 + b3 % 64 = ((b0 % 8 * 64 + b1 % 64) * 64 + b2 % 64) * 64 + b3 % 64 := by omega
     rw [e]
     generalize ((b0 % 8 * 64 + b1 % 64) * 64 + b2 % 64) * 64 + b3 % 64 = c
     unfold fini
     by_cases h4 : c < 65536
     ·rw [if_pos h4, if_neg (by omega)]; rfl
     ·rw [if_neg h4]
      by_cases h5 : 1114111 < c
      ·rw [if_pos h5, if_neg (by omega)]; rfl
      ·rw [if_neg h5, if_neg (show ¬ (55296 ≤ c ∧ c ≤ 57343) by omega), if_pos (by omega)]; exact told_wide _ 4 (by decide)
    ·rw [if_pos h1, if_pos h2, if_neg h3, if_neg (by omega)]; rfl
   ·rw [if_pos h1, if_neg h2, if_neg (by omega)]; rfl
  ·rw [if_neg h1, if_neg (by omega)]; rfl
theorem told0 (n b0 b1 b2 b3 : Nat) (h0 : ¬ b0 < 128) (h1 : ¬ b0 / 32 = 6) (h2 : ¬ b0 / 16 = 14) (h3 : ¬ b0 / 8 = 30) : told (Lib.decodeN n b0 b1 b2 b3) = (0, 0) := by
 unfold Lib.decodeN
 rw [if_neg h0, if_neg (fun e => h1 e.1), if_neg (fun e => h2 e.1), if_neg (fun e => h3 e.1)]; rfl
theorem rune_j (k : Nat) (s : ByteArray) (n c mn : Nat) : spec_l3Rune.j0 (k + 1) s (n : Int) (c : Int) (mn : Int) = if (s.size : Int) < (n : Int) then some (0, 0) else spec_l3Rune.l0 k s (n : Int) (c : Int) (mn : Int) 1 := by
 simp only [spec_l3Rune.j0]
theorem spec_rune (s : ByteArray) (hs : 0 < s.size) : Ev (fun k => spec_l3Rune.f k s) (told (Utf8.decode s 0)) := by
 refine ⟨8, fun k hk => ?_⟩
 obtain ⟨m, rfl⟩ : ∃ m, k = m + 8 := ⟨k - 8, by omega⟩
 rw [Lib.decode_at s 0]
 show _ = some (told (Lib.decodeN (s.size - 0) (nb s 0) (nb s (0 + 1)) (nb s (0 + 2)) (nb s (0 + 3))))
 rw [Nat.sub_zero, Nat.zero_add, Nat.zero_add, Nat.zero_add]
 simp only [spec_l3Rune.f]
 rw [if_pos (by omega), show bt s 0 = ((nb s 0 : Nat) : Int) from bt_nb s 0 hs]
 have hb := nb_lt s 0
 have e1 : wrap64 ((nb s 0 : Nat) : Int) = ((nb s 0 : Nat) : Int) := w_id _ (by omega) (by omega)
 rw [e1, show Int.tdiv ((nb s 0 : Nat) : Int) 32 = ((nb s 0 / 32 : Nat) : Int) from td _ 32, show Int.tdiv ((nb s 0 : Nat) : Int) 16 = ((nb s 0 / 16 : Nat) : Int) from td _ 16, show Int.tdiv ((nb s 0 : Nat) : Int) 8 = ((nb s 0 / 8 : Nat) : Int) from td _ 8,
  show Int.tmod ((nb s 0 : Nat) : Int) 32 = ((nb s 0 % 32 : Nat) : Int) from tm _ 32, show Int.tmod ((nb s 0 : Nat) : Int) 16 = ((nb s 0 % 16 : Nat) : Int) from tm _ 16, show Int.tmod ((nb s 0 : Nat) : Int) 8 = ((nb s 0 % 8 : Nat) : Int) from tm _ 8,
  w_id ((nb s 0 / 32 : Nat) : Int) (by omega) (by omega), w_id ((nb s 0 / 16 : Nat) : Int) (by omega) (by omega), w_id ((nb s 0 / 8 : Nat) : Int) (by omega) (by omega)]
 by_cases h0 : nb s 0 < 128
 ·rw [if_pos (by omega), told1 _ _ _ _ _ h0]
 ·rw [if_neg (by omega)]
  by_cases h1 : nb s 0 / 32 = 6
  ·rw [if_pos (by omega), told2 _ _ _ _ _ h1]
   refine (rune_j (m + 7) s 2 (nb s 0 % 32) 128).trans ?_
   by_cases hn : s.size < 2
   ·rw [if_pos (by omega), if_pos hn]
   ·rw [if_neg (by omega), if_neg hn]
    refine (rune_go (m + 6) s 2 (nb s 0 % 32) 128 1 (by omega) (by omega) (by omega) (by omega)).trans ?_
    by_cases g1 : nb s 1 / 64 = 2
    ·rw [if_pos g1, if_pos g1]
     exact rune_end (m + 5) s 2 _ 128
    ·rw [if_neg g1, if_neg g1]
  ·rw [if_neg (by omega)]
   by_cases h2 : nb s 0 / 16 = 14
   ·rw [if_pos (by omega), told3 _ _ _ _ _ h2]
    refine (rune_j (m + 7) s 3 (nb s 0 % 16) 2048).trans ?_
    by_cases hn : s.size < 3
    ·rw [if_pos (by omega), if_pos hn]
    ·rw [if_neg (by omega), if_neg hn]
     refine (rune_go (m + 6) s 3 (nb s 0 % 16) 2048 1 (by omega) (by omega) (by omega) (by omega)).trans ?_
     by_cases g1 : nb s 1 / 64 = 2
     ·rw [if_pos g1, if_pos g1]
      refine (rune_go (m + 5) s 3 _ 2048 2 (by omega) (by omega) (by omega) (by omega)).trans ?_
      by_cases g2 : nb s 2 / 64 = 2
      ·rw [if_pos g2, if_pos g2]
       exact rune_end (m + 4) s 3 _ 2048
      ·rw [if_neg g2, if_neg g2]
     ·rw [if_neg g1, if_neg g1]
   ·rw [if_neg (by omega)]
    by_cases h3 : nb s 0 / 8 = 30
    ·rw [if_pos (by omega), told4 _ _ _ _ _ h3]
     refine (rune_j (m + 7) s 4 (nb s 0 % 8) 65536).trans ?_
     by_cases hn : s.size < 4
     ·rw [if_pos (by omega), if_pos hn]
     ·rw [if_neg (by omega), if_neg hn]
      refine (rune_go (m + 6) s 4 (nb s 0 % 8) 65536 1 (by omega) (by omega) (by omega) (by omega)).trans ?_
      by_cases g1 : nb s 1 / 64 = 2
      ·rw [if_pos g1, if_pos g1]
       refine (rune_go (m + 5) s 4 _ 65536 2 (by omega) (by omega) (by omega) (by omega)).trans ?_
       by_cases g2 : nb s 2 / 64 = 2
       ·rw [if_pos g2, if_pos g2]
        refine (rune_go (m + 4) s 4 _ 65536 3 (by omega) (by omega) (by omega) (by omega)).trans ?_
        by_cases g3 : nb s 3 / 64 = 2
        ·rw [if_pos g3, if_pos g3]
         exact rune_end (m + 3) s 4 _ 65536
        ·rw [if_neg g3, if_neg g3]
       ·rw [if_neg g2, if_neg g2]
      ·rw [if_neg g1, if_neg g1]
    ·rw [if_neg (by omega), told0 _ _ _ _ _ h0 h1 h2 h3]
/-! ### a value -/
theorem told_cut (s : ByteArray) (pos : Nat) (h : pos < s.size) : Utf8.decode (s.extract pos s.size) 0 = Utf8.decode s pos := by
 have hh := Vf.decode_cut s pos h
 have hz : (s.extract pos s.size).size = s.size - pos := by rw [ByteArray.size_extract]; omega
 unfold Lib.decodeGo at hh
 rw [if_neg (by omega)] at hh
 exact hh
theorem ctl_loop (rs : List Nat) (hl : rs.length < 1000000) : ∀ n j, j + n = rs.length → Ev (fun k => spec_l3Value.l1 k (rs.map fun (r : Nat) => (r : Int)) (rs.length : Int) (j : Int)) (if (rs.drop j).any ctl = true then (44 : Int) else 0) := by
 intro n
 induction n with
 | zero =>
  intro j hj
  refine Ev.step (f := fun _ => some _) (fun k => by simp only [spec_l3Value.l1]; rw [if_neg (by omega)]) (Ev.eq (Ev.now _) ?_)
  rw [List.drop_eq_nil_of_le (by omega)]; rfl
 | succ n ih =>
  intro j hj
  have hjl : j < rs.length := by omega
  have hget : rd (rs.map fun (r : Nat) => (r : Int)) (j : Int) = ((rs[j] : Nat) : Int) := by
   unfold rd
   rw [Int.toNat_natCast, List.getD_eq_getElem?_getD, List.getElem?_map, List.getElem?_eq_getElem hjl]; rfl
  rw [List.drop_eq_getElem_cons hjl, List.any_cons]
  have hn := ih (j + 1) (by omega)
  generalize rs[j] = r at hget ⊢
  by_cases hc : ctl r = true
  ·refine Ev.step (f := fun _ => some 44) (fun k => ?_) (Ev.eq (Ev.now _) (by rw [hc]; rfl))
   simp only [spec_l3Value.l1]
   rw [if_pos (by omega), if_pos (by omega), if_pos (by rw [List.length_map]; omega), hget]
   unfold spec_l1Between.f
   unfold ctl at hc
   simp only [Bool.or_eq_true, Bool.and_eq_true, decide_eq_true_eq] at hc
   by_cases h1 : r < 32
   ·rw [if_pos (by omega)]
   ·rw [if_neg (by omega), if_pos (by omega)]
    simp only [Option.bind_some]
    rw [if_pos (decide_eq_true (by omega))]
  ·rw [Bool.not_eq_true] at hc
   rw [hc, Bool.false_or]
   refine Ev.step (fun k => ?_) hn
   simp only [spec_l3Value.l1]
   rw [if_pos (by omega), if_pos (by omega), if_pos (by rw [List.length_map]; omega), hget]
   unfold spec_l1Between.f
   unfold ctl at hc
   simp only [Bool.or_eq_false_iff, Bool.and_eq_false_imp, decide_eq_true_eq, decide_eq_false_iff_not] at hc
   rw [if_neg (by omega), w_succ j (by omega)]
   by_cases h2 : (127 : Int) ≤ (r : Int)
   ·rw [if_pos h2]
    simp only [Option.bind_some]
    rw [if_neg (by have := hc.2 (by omega); simp; omega)]
   ·rw [if_neg h2]
    simp only [Option.bind_some]
    rfl
theorem width_fits (s : ByteArray) (pos : Nat) (h : pos < s.size) : pos + (Utf8.decode s pos).2 ≤ s.size := by
 rw [Lib.decode_at]
 rcases Lib.decodeN_shape (s.size - pos) (s.get! pos).toNat (s.get! (pos + 1)).toNat (s.get! (pos + 2)).toNat (s.get! (pos + 3)).toNat with h | h | h | h | h
 ·rw [h.2]; omega
 ·rw [h.2.2.2.2]; have := h.2.1; omega
 ·rw [h.2.2.2.2.2.2]; have := h.2.1; omega
 ·rw [h.2.2.2.2.2.2.2]; have := h.2.1; omega
 ·rw [h]; omega
theorem value_end (s : ByteArray) (hz : s.size ≤ 1073741824) (rs : List Nat) (hr : rs.length ≤ s.size) : Ev (fun k => spec_l3Value.l0 k s (rs.map fun (r : Nat) => (r : Int)) (s.size : Int)) (fin 0 false (some rs)) := by
 unfold fin
 simp only [Nat.zero_add, Bool.false_or]
 by_cases h : 128 < rs.length
 ·rw [if_pos h]
  refine Ev.step (f := fun _ => some 43) (fun k => ?_) (Ev.now _)
  simp only [spec_l3Value.l0]
  rw [if_neg (by omega), if_pos (by rw [List.length_map]; omega)]
 ·rw [if_neg h]
  have hh := ctl_loop rs (by omega) rs.length 0 (by omega)
  rw [List.drop_zero] at hh
  refine Ev.step (fun k => ?_) hh
  simp only [spec_l3Value.l0]
  rw [if_neg (by omega), if_neg (by rw [List.length_map]; omega), List.length_map]
  rfl
theorem value_loop (s : ByteArray) (hz : s.size ≤ 1073741824) : ∀ (b pos : Nat) (rs : List Nat), s.size ≤ pos + b → pos ≤ s.size → rs.length ≤ pos →
  Ev (fun k => spec_l3Value.l0 k s (rs.map fun (r : Nat) => (r : Int)) (pos : Int)) (fin 0 false ((scan s b pos).map (rs ++ ·))) := by
 intro b
 induction b with
 | zero =>
  intro pos rs h1 h2 h3
  obtain rfl : pos = s.size := by omega
  refine Ev.eq (value_end s hz rs h3) ?_
  simp [scan]
 | succ b ih =>
  intro pos rs h1 h2 h3
  by_cases hp : pos < s.size
  ·have hr := spec_rune (s.extract pos s.size) (by rw [ByteArray.size_extract]; omega)
   rw [told_cut s pos hp] at hr
   have hw := width_pos s pos hp
   have hf := width_fits s pos hp
   have hx : ∀ k, spec_l3Value.l0 (k + 1) s (rs.map fun (r : Nat) => (r : Int)) (pos : Int) = (spec_l3Rune.f k (s.extract pos s.size)).bind fun bt109 => (if bt109.2 = 0 then some 42 else spec_l3Value.l0 k s ((rs.map fun (r : Nat) => (r : Int)) ++ [bt109.1]) (wrap64 ((pos : Int) + bt109.2))) := by
    intro k
    simp only [spec_l3Value.l0]
    rw [if_pos (by omega), if_pos (by omega), if_pos (by omega), Int.toNat_natCast, List.length_map]
    simp only [if_pos (show rs.length < 17592186044416 by omega)]
   refine Ev.step hx (Ev.bind hr ?_)
   by_cases hb : bad s pos
   ·rw [scan_bad s b pos hp hb]
    have ht : told (Utf8.decode s pos) = (0, 0) := by unfold told; rw [if_pos (show (Utf8.decode s pos).1 = 65533 ∧ (Utf8.decode s pos).2 = 1 from hb)]
    simp only [ht, if_true]
    exact Ev.now _
   ·rw [scan_step s b pos hp hb]
    have ht : told (Utf8.decode s pos) = (((Utf8.decode s pos).1 : Int), ((Utf8.decode s pos).2 : Int)) := by unfold told; rw [if_neg (show ¬ ((Utf8.decode s pos).1 = 65533 ∧ (Utf8.decode s pos).2 = 1) from hb)]
    have hn := ih (pos + (Utf8.decode s pos).2) (rs ++ [(Utf8.decode s pos).1]) (by omega) hf (by rw [List.length_append]; simp only [List.length_cons, List.length_nil]; omega)
    rw [ht]
    generalize (Utf8.decode s pos).1 = r at hn ⊢
    generalize (Utf8.decode s pos).2 = w at hn hw hf ⊢
    have e : wrap64 ((pos : Int) + (w : Int)) = ((pos + w : Nat) : Int) := (w_id _ (by omega) (by omega)).trans (by omega)
    refine Ev.ite_neg (show ¬ (w : Int) = 0 by omega) ?_
    show Ev (fun k => spec_l3Value.l0 k s ((rs.map fun (r : Nat) => (r : Int)) ++ [(r : Int)]) (wrap64 ((pos : Int) + (w : Int)))) _
    rw [e]
    rw [List.map_append] at hn
    refine Ev.eq hn ?_
    rw [Option.map_map]
    congr 2
    funext t
    simp
  ·obtain rfl : pos = s.size := by omega
   rw [scan_end s (b + 1) s.size (Nat.le_refl _)]
   refine Ev.eq (value_end s hz rs h3) ?_
   simp
theorem spec_value (s : ByteArray) (hz : s.size ≤ 1073741824) : Ev (fun k => spec_l3Value.f k s) (vf s) := by
 unfold spec_l3Value.f vf
 refine Ev.eq (value_loop s hz s.size 0 [] (by omega) (Nat.zero_le _) (Nat.le_refl _)) ?_
 cases scan s s.size 0 <;> simp
end Go.Proofs.YtikbfjnbhogihaaGreatDoor.Can
