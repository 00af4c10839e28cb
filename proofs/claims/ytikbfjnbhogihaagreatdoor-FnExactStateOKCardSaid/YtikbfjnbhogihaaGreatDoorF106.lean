/- Some of this seat's texts, joined by prune.py. -/
import Derived.Test.YtikbfjnbhogihaaGreatDoorM0
import Derived.Test.YtikbfjnbhogihaaGreatDoorF158
import Derived.Test.YtikbfjnbhogihaaGreatDoorCan
-- By pp.py, a program of this repo, with the kit's printer: Lean checks it.
namespace Go.Proofs.YtikbfjnbhogihaaGreatDoor.M
open Go.RowKit Go.Proofs.YtikbfjnbhogihaaGreatDoorW.PrintWords Go.Proofs.YtikbfjnbhogihaaGreatDoorW.PrintLast Go.Proofs.YtikbfjnbhogihaaGreatDoorW.PrintMore
attribute [local go_sem] max2_int min2_int max_two min_two max_three min_three max_four min_four
set_option linter.unusedVariables false
set_option linter.unusedSimpArgs false
/-! ### impl_idle: function 106 -/
def impl_idle.f (a0_0 : ByteArray) (a0_1 : Int) (l0_2 : List (S91)) (l0_3 : List (S93)) : Option (Bool) := if a0_1 = (-1) then (if (l0_2.length : Int) = 0 then (some ((l0_3.length : Int) == 0)) else (some false)) else (some false)
set_option maxHeartbeats 8000000 in
set_option maxRecDepth 100000 in
theorem impl_idle.calls (a0_0 : ByteArray) (a0_1 : Int) (A0_2 : Option Addr) (c0_2 : Nat) (l0_2 : List (S91)) (A0_3 : Option Addr) (c0_3 : Nat) (l0_3 : List (S93)) (r : Bool) (w : World) (hr0_2 : Kd.C k91 w A0_2 l0_2.length l0_2) (hc0_2 : l0_2.length ≤ c0_2) (hr0_3 : Kd.C k93 w A0_3 l0_3.length l0_3) (hc0_3 : l0_3.length ≤ c0_3) (h : impl_idle.f a0_0 a0_1 l0_2 l0_3 = some r) :
  Calls Tryz.prog 106 #[.agg #[.string a0_0, .int .i64 a0_1, .slice A0_2 l0_2.length c0_2, .slice A0_3 l0_3.length c0_3]] w fun e w' => e = .returned (.bool r) ∧ Below w.heap.size w w' := by
 have hu87 := Tryz.underlying87
 have HR0_2 := Aside0.mk hr0_2
 have HC0_2 := Aside0.mk hc0_2
 clear hr0_2 hc0_2
 have HR0_3 := Aside0.mk hr0_3
 have HC0_3 := Aside0.mk hc0_3
 clear hr0_3 hc0_3
 have HB := Aside0.mk (Below.refl w.heap.size w)
 have H : (if a0_1 = (-1) then (if (l0_2.length : Int) = 0 then (some ((l0_3.length : Int) == 0)) else (some false)) else (some false)) = some r := h
 clear h
 by_cases c2 : a0_1 = (-1)
 ·rw [if_pos c2] at H
  have c2b0 : (a0_1 == (-1)) = true := beq_iff_eq.mpr c2
  have c2b1 : (a0_1 != (-1)) = false := bne_eq_false_iff_eq.mpr c2
  clear c2
  by_cases c3 : (l0_2.length : Int) = 0
  ·rw [if_pos c3] at H
   have c3b0 : ((l0_2.length : Int) == 0) = true := beq_iff_eq.mpr c3
   have c3b1 : ((l0_2.length : Int) != 0) = false := bne_eq_false_iff_eq.mpr c3
   clear c3
   obtain rfl := Option.some.inj H
   go_enter Tryz.func106, Tryz.ntmps106
   go_wp2_with (first | ((with_reducible refine gate_dst (N := 1) rfl ?_); (try (refine gate_guard (by rfl) ?_; dsimp only)); refine box_event ?hg (N := 1) ?hd (cs := #[.string a0_0, .int .i64 a0_1, .slice A0_2 l0_2.length c0_2, .slice A0_3 l0_3.length c0_3]) (t := 87) ?hr ?_; (case hd => rfl); (case hg => rfl); (case hr => first | (go_simp; done) | (go_simp; rfl)); intro gb298 hg w4 hbox hb; have n0_ := Aside0.mk (below_step (by repeat (first | (with_reducible first | exact HB.out | apply below_alloc | apply pw_below_drewN | apply below_drew1) | exact HB.out)) hb); have n1_ := Aside0.mk (hbox); have n2_ := Aside0.mk ((by rw [hg]; exact (below_size (by repeat (first | (with_reducible first | exact HB.out | apply below_alloc | apply pw_below_drewN | apply below_drew1) | exact HB.out))) : w.heap.size ≤ gb298)); have n3_ := Aside0.mk ((by rw [hg]; exact (below_size (by repeat (first | (with_reducible first | exact HB.out | apply below_alloc | apply pw_below_drewN | apply below_drew1) | exact HB.out))) : w.heap.size ≤ gb298)); clear HB; have HB := n0_; have BK298 := n1_; have GW298 := n2_; have GE298 := n3_; clear n0_ n1_ n2_ n3_; clear hb hbox hg; have hcz5_0 : w4.cell? ⟨gb298, 0, none⟩ = some (.string a0_0) := (blk_cell BK298.out 0).trans rfl; have hcz5_1 : w4.cell? ⟨gb298, 1, none⟩ = some (.int .i64 a0_1) := (blk_cell BK298.out 1).trans rfl; have hcz5_2 : w4.cell? ⟨gb298, 2, none⟩ = some (.slice A0_2 l0_2.length c0_2) := (blk_cell BK298.out 2).trans rfl; have hcz5_3 : w4.cell? ⟨gb298, 3, none⟩ = some (.slice A0_3 l0_3.length c0_3) := (blk_cell BK298.out 3).trans rfl; have hfz5_0 := blk_frozen BK298.out 0; have hfz5_1 := blk_frozen BK298.out 1; have hfz5_2 := blk_frozen BK298.out 2; have hfz5_3 := blk_frozen BK298.out 3))
   go_ret
   exact ⟨by first | rfl | (simp [errW_none, errW_some] <;> rfl) | (simp [*, errW_none, errW_some] <;> rfl), by repeat (first | (with_reducible first | exact HB.out | apply below_alloc | apply pw_below_drewN | apply below_drew1 | refine below_set ?_ GE298.out) | exact HB.out)⟩
  ·rw [if_neg c3] at H
   have c3b0 : ((l0_2.length : Int) == 0) = false := beq_eq_false_iff_ne.mpr c3
   have c3b1 : ((l0_2.length : Int) != 0) = true := bne_iff_ne.mpr c3
   have c3b2 : ¬ (l0_2 = []) := fun h_ => c3 (by rw [h_]; rfl)
   obtain rfl := Option.some.inj H
   go_enter Tryz.func106, Tryz.ntmps106
   go_wp2_with (first | ((with_reducible refine gate_dst (N := 1) rfl ?_); (try (refine gate_guard (by rfl) ?_; dsimp only)); refine box_event ?hg (N := 1) ?hd (cs := #[.string a0_0, .int .i64 a0_1, .slice A0_2 l0_2.length c0_2, .slice A0_3 l0_3.length c0_3]) (t := 87) ?hr ?_; (case hd => rfl); (case hg => rfl); (case hr => first | (go_simp; done) | (go_simp; rfl)); intro gb298 hg w6 hbox hb; have n0_ := Aside0.mk (below_step (by repeat (first | (with_reducible first | exact HB.out | apply below_alloc | apply pw_below_drewN | apply below_drew1) | exact HB.out)) hb); have n1_ := Aside0.mk (hbox); have n2_ := Aside0.mk ((by rw [hg]; exact (below_size (by repeat (first | (with_reducible first | exact HB.out | apply below_alloc | apply pw_below_drewN | apply below_drew1) | exact HB.out))) : w.heap.size ≤ gb298)); have n3_ := Aside0.mk ((by rw [hg]; exact (below_size (by repeat (first | (with_reducible first | exact HB.out | apply below_alloc | apply pw_below_drewN | apply below_drew1) | exact HB.out))) : w.heap.size ≤ gb298)); clear HB; have HB := n0_; have BK298 := n1_; have GW298 := n2_; have GE298 := n3_; clear n0_ n1_ n2_ n3_; clear hb hbox hg; have hcz7_0 : w6.cell? ⟨gb298, 0, none⟩ = some (.string a0_0) := (blk_cell BK298.out 0).trans rfl; have hcz7_1 : w6.cell? ⟨gb298, 1, none⟩ = some (.int .i64 a0_1) := (blk_cell BK298.out 1).trans rfl; have hcz7_2 : w6.cell? ⟨gb298, 2, none⟩ = some (.slice A0_2 l0_2.length c0_2) := (blk_cell BK298.out 2).trans rfl; have hcz7_3 : w6.cell? ⟨gb298, 3, none⟩ = some (.slice A0_3 l0_3.length c0_3) := (blk_cell BK298.out 3).trans rfl; have hfz7_0 := blk_frozen BK298.out 0; have hfz7_1 := blk_frozen BK298.out 1; have hfz7_2 := blk_frozen BK298.out 2; have hfz7_3 := blk_frozen BK298.out 3))
   go_ret
   exact ⟨by first | rfl | (simp [errW_none, errW_some] <;> rfl) | (simp [*, errW_none, errW_some] <;> rfl), by repeat (first | (with_reducible first | exact HB.out | apply below_alloc | apply pw_below_drewN | apply below_drew1 | refine below_set ?_ GE298.out) | exact HB.out)⟩
 ·rw [if_neg c2] at H
  have c2b0 : (a0_1 == (-1)) = false := beq_eq_false_iff_ne.mpr c2
  have c2b1 : (a0_1 != (-1)) = true := bne_iff_ne.mpr c2
  obtain rfl := Option.some.inj H
  go_enter Tryz.func106, Tryz.ntmps106
  go_wp2_with (first | ((with_reducible refine gate_dst (N := 1) rfl ?_); (try (refine gate_guard (by rfl) ?_; dsimp only)); refine box_event ?hg (N := 1) ?hd (cs := #[.string a0_0, .int .i64 a0_1, .slice A0_2 l0_2.length c0_2, .slice A0_3 l0_3.length c0_3]) (t := 87) ?hr ?_; (case hd => rfl); (case hg => rfl); (case hr => first | (go_simp; done) | (go_simp; rfl)); intro gb298 hg w8 hbox hb; have n0_ := Aside0.mk (below_step (by repeat (first | (with_reducible first | exact HB.out | apply below_alloc | apply pw_below_drewN | apply below_drew1) | exact HB.out)) hb); have n1_ := Aside0.mk (hbox); have n2_ := Aside0.mk ((by rw [hg]; exact (below_size (by repeat (first | (with_reducible first | exact HB.out | apply below_alloc | apply pw_below_drewN | apply below_drew1) | exact HB.out))) : w.heap.size ≤ gb298)); have n3_ := Aside0.mk ((by rw [hg]; exact (below_size (by repeat (first | (with_reducible first | exact HB.out | apply below_alloc | apply pw_below_drewN | apply below_drew1) | exact HB.out))) : w.heap.size ≤ gb298)); clear HB; have HB := n0_; have BK298 := n1_; have GW298 := n2_; have GE298 := n3_; clear n0_ n1_ n2_ n3_; clear hb hbox hg; have hcz9_0 : w8.cell? ⟨gb298, 0, none⟩ = some (.string a0_0) := (blk_cell BK298.out 0).trans rfl; have hcz9_1 : w8.cell? ⟨gb298, 1, none⟩ = some (.int .i64 a0_1) := (blk_cell BK298.out 1).trans rfl; have hcz9_2 : w8.cell? ⟨gb298, 2, none⟩ = some (.slice A0_2 l0_2.length c0_2) := (blk_cell BK298.out 2).trans rfl; have hcz9_3 : w8.cell? ⟨gb298, 3, none⟩ = some (.slice A0_3 l0_3.length c0_3) := (blk_cell BK298.out 3).trans rfl; have hfz9_0 := blk_frozen BK298.out 0; have hfz9_1 := blk_frozen BK298.out 1; have hfz9_2 := blk_frozen BK298.out 2; have hfz9_3 := blk_frozen BK298.out 3))
  go_ret
  exact ⟨by first | rfl | (simp [errW_none, errW_some] <;> rfl) | (simp [*, errW_none, errW_some] <;> rfl), by repeat (first | (with_reducible first | exact HB.out | apply below_alloc | apply pw_below_drewN | apply below_drew1 | refine below_set ?_ GE298.out) | exact HB.out)⟩
end Go.Proofs.YtikbfjnbhogihaaGreatDoor.M
/- What impl.Canon's printed form answers. Plain. -/
namespace Go.Proofs.YtikbfjnbhogihaaGreatDoor.Can
open Go.Proofs.YtikbfjnbhogihaaGreatDoor.M Go.Proofs.YtikbfjnbhogihaaGreatDoor.Loops Go.Proofs.YtikbfjnbhogihaaGreatDoor.CanSort Go.Proofs.YtikbfjnbhogihaaGreatDoor.Utf Go.Proofs.YtikbfjnbhogihaaGreatDoorW.PrintWords Go.Proofs.YtikbfjnbhogihaaGreatDoorW.PrintLast Go.Proofs.YtikbfjnbhogihaaGreatDoorW.PrintMore Go.RowKit
set_option linter.unusedVariables false
theorem rd_get (l : List Lb) (j : Nat) (h : j < l.length) : rd_T141 l (j : Int) = l[j] := by
 unfold rd_T141
 rw [Int.toNat_natCast, List.getD_eq_getElem?_getD, List.getElem?_eq_getElem h]; rfl
theorem in_yes (l a : List Lb) (b : Bool) (i : Int) (u v : Int) (row : List Lb) (x : Lb) (hr : row.length ≤ 16) : ∀ m q, q + m = row.length → (row.drop q).any (named x) = true →
  Ev (fun k => impl_Canon.l2 k l a b i l u v row (row.length : Int) (q : Int) x.f0 x.f1) (([] : List Lb), (45 : Int), i) := by
 intro m
 induction m with
 | zero =>
  intro q hq h
  rw [List.drop_eq_nil_of_le (by omega)] at h
  cases h
 | succ m ih =>
  intro q hq h
  have hlt : q < row.length := by omega
  rw [List.drop_eq_getElem_cons hlt, List.any_cons] at h
  by_cases hn : row[q].f0.toList = x.f0.toList
  ·refine Ev.step (f := fun _ => some _) (fun k => ?_) (Ev.now _)
   simp only [impl_Canon.l2]
   rw [if_pos (by omega), if_pos (by omega), if_pos (by omega), rd_get row q hlt, if_pos hn]
  ·have hd : named x row[q] = false := by unfold named; exact decide_eq_false hn
   rw [hd, Bool.false_or] at h
   refine Ev.step (fun k => ?_) (ih (q + 1) (by omega) h)
   conv => lhs; unfold impl_Canon.l2
   rw [if_pos (by omega), if_pos (by omega), if_pos (by omega), rd_get row q hlt, if_neg hn, w_succ q (by omega)]
theorem in_no (l a : List Lb) (b : Bool) (i : Int) (u v : Int) (row : List Lb) (x : Lb) (hr : row.length ≤ 16) (ha : a.length ≤ 16) (R : List Lb × Int × Int)
  (hend : Ev (fun k => if x.f1.toList = ([] : List UInt8) then impl_Canon.l1 k l a b l u (wrap64 (v + 1)) else impl_Canon.l1 k l (a ++ [x]) (b || (x.f0.toList == ([95, 95, 110, 97, 109, 101, 95, 95] : List UInt8))) l u (wrap64 (v + 1))) R) :
  ∀ m q, q + m = row.length → (row.drop q).any (named x) = false → Ev (fun k => impl_Canon.l2 k l a b i l u v row (row.length : Int) (q : Int) x.f0 x.f1) R := by
 intro m
 induction m with
 | zero =>
  intro q hq h
  refine Ev.step (fun k => ?_) hend
  conv => lhs; unfold impl_Canon.l2
  rw [if_neg (by omega)]
  by_cases hv : x.f1.toList = ([] : List UInt8)
  ·rw [if_pos hv, if_pos hv]
  ·rw [if_neg hv, if_neg hv, if_pos (by omega)]
   cases b with
   | true => rfl
   | false => rfl
 | succ m ih =>
  intro q hq h
  have hlt : q < row.length := by omega
  rw [List.drop_eq_getElem_cons hlt, List.any_cons, Bool.or_eq_false_iff] at h
  have hn : ¬ row[q].f0.toList = x.f0.toList := by
   have := h.1
   unfold named at this
   exact of_decide_eq_false this
  refine Ev.step (fun k => ?_) (ih (q + 1) (by omega) h.2)
  conv => lhs; unfold impl_Canon.l2
  rw [if_pos (by omega), if_pos (by omega), if_pos (by omega), rd_get row q hlt, if_neg hn, w_succ q (by omega)]
theorem impl_second (l : List Lb) (h16 : ¬ 16 < l.length) (hf : firstF l 0 = none) : ∀ n j, j + n = l.length → firstT (l.take j) (l.drop j) = firstT [] l →
  Ev (fun k => impl_Canon.l1 k l ((l.take j).filter keep) ((l.take j).any isMet) l (l.length : Int) (j : Int)) (can l) := by
 intro n
 induction n with
 | zero =>
  intro j hj ht
  obtain rfl : j = l.length := by omega
  rw [List.drop_eq_nil_of_le (Nat.le_refl _)] at ht
  have ht0 : firstT [] l = none := ht.symm
  rw [List.take_of_length_le (Nat.le_refl _)]
  cases hm : l.any isMet with
  | true =>
   rw [can_good h16 hf ht0 hm]
   refine Ev.step (f := fun _ => some _) (fun k => ?_) (Ev.now _)
   simp only [impl_Canon.l1]
   rw [if_neg (by omega)]
   have hx : impl_Label_177.f (l.filter keep) = some (order (l.filter keep)) := by
    unfold impl_Label_177.f
    rw [if_pos ⟨once_filter keep (once_all ht0), Nat.lt_of_le_of_lt (List.length_filter_le _ _) (by omega)⟩]
   rw [hx]
   rfl
  | false =>
   rw [can_none h16 hf ht0 hm]
   refine Ev.step (f := fun _ => some _) (fun k => ?_) (Ev.now _)
   simp only [impl_Canon.l1]
   rw [if_neg (by omega), if_neg (by decide)]
 | succ n ih =>
  intro j hj ht
  have hlt : j < l.length := by omega
  obtain ⟨x, hx⟩ : ∃ x, x = l[j] := ⟨_, rfl⟩
  have htk : l.take (j + 1) = l.take j ++ [x] := by rw [List.take_add_one, List.getElem?_eq_getElem hlt, Option.toList_some, hx]
  rw [List.drop_eq_getElem_cons hlt, ← hx] at ht
  have hlen : (l.take j).length = j := by rw [List.length_take]; omega
  refine Ev.step (f := fun k => impl_Canon.l2 k l ((l.take j).filter keep) ((l.take j).any isMet) (j : Int) l (l.length : Int) (j : Int) (l.take j) ((l.take j).length : Int) ((0 : Nat) : Int) x.f0 x.f1) (fun k => by
   conv => lhs; unfold impl_Canon.l1
   rw [if_pos (by omega), if_pos (by omega), if_pos (by omega), if_pos (by omega), Option.bind_some, Int.toNat_natCast, rd_get l j hlt, ← hx]
   rfl) ?_
  cases hany : (l.take j).any (named x) with
  | true =>
   have htw : firstT [] l = some j := by rw [← ht, firstT_yes hany, hlen]
   rw [can_twice h16 hf htw]
   exact in_yes l _ _ _ _ _ (l.take j) x (by omega) j 0 (by omega) hany
  | false =>
   rw [firstT_no hany, ← htk] at ht
   have hn := ih (j + 1) (by omega) ht
   refine in_no l _ _ _ _ _ (l.take j) x (by omega) (Nat.le_trans (List.length_filter_le _ _) (by omega)) (can l) ?_ j 0 (by omega) hany
   rw [w_succ j (by omega)]
   rw [htk, List.filter_append, List.any_append] at hn
   by_cases hv : x.f1.toList = ([] : List UInt8)
   ·refine Ev.ite_pos hv (Ev.congr (fun k => ?_) hn)
    have hk : keep x = false := by unfold keep; exact decide_eq_false (fun h => h hv)
    have h1 : [x].filter keep = [] := by simp [hk]
    have h2 : [x].any isMet = false := by simp [isMet, hk]
    rw [h1, h2, List.append_nil, Bool.or_false]
   ·refine Ev.ite_neg hv (Ev.congr (fun k => ?_) hn)
    have hk : keep x = true := by unfold keep; exact decide_eq_true hv
    have h1 : [x].filter keep = [x] := by simp [hk]
    have h2 : [x].any isMet = (x.f0.toList == ([95, 95, 110, 97, 109, 101, 95, 95] : List UInt8)) := by
     simp only [List.any_cons, List.any_nil, Bool.or_false, isMet, hk, Bool.true_and]
     by_cases hq : x.f0.toList = [95, 95, 110, 97, 109, 101, 95, 95] <;> simp [hq]
    rw [h1, h2]
theorem impl_first (l : List Lb) (h16 : ¬ 16 < l.length) (hF : Fit l) : ∀ n j, j + n = l.length → firstF (l.drop j) j = firstF l 0 →
  Ev (fun k => impl_Canon.l0 k l l (l.length : Int) (j : Int)) (can l) := by
 intro n
 induction n with
 | zero =>
  intro j hj h
  obtain rfl : j = l.length := by omega
  rw [List.drop_eq_nil_of_le (Nat.le_refl _)] at h
  have hf : firstF l 0 = none := h.symm
  refine Ev.step (fun k => ?_) (impl_second l h16 hf l.length 0 (by omega) rfl)
  conv => lhs; unfold impl_Canon.l0
  rw [if_neg (by omega)]
  rfl
 | succ n ih =>
  intro j hj h
  have hlt : j < l.length := by omega
  obtain ⟨x, hx⟩ : ∃ x, x = l[j] := ⟨_, rfl⟩
  rw [List.drop_eq_getElem_cons hlt, ← hx] at h
  have hfx : x.f1.size ≤ 1073741824 := (hF x (by rw [hx]; exact List.getElem_mem _)).2
  have hv : impl_valueFault.f x.f1 = some (vf x.f1) := by unfold impl_valueFault.f; rw [if_pos (by omega)]
  have hl : ∀ k, impl_Canon.l0 (k + 1) l l (l.length : Int) (j : Int) = (impl_isName.f k x.f0).bind fun t => if t = true then (if vf x.f1 = 0 then impl_Canon.l0 k l l (l.length : Int) ((j + 1 : Nat) : Int) else some (([] : List Lb), vf x.f1, (j : Int))) else some (([] : List Lb), 41, (j : Int)) := by
   intro k
   conv => lhs; unfold impl_Canon.l0
   rw [if_pos (by omega), if_pos (by omega), if_pos (by omega), rd_get l j hlt, ← hx, hv, w_succ j (by omega)]
   rfl
  refine Ev.step hl (Ev.bind (impl_name x.f0) ?_)
  cases hn : nameOK x.f0 with
  | false =>
   have hq : fault x = 41 := by unfold fault; rw [hn]; rfl
   rw [firstF_bad (by rw [hq]; decide), hq] at h
   rw [can_fault h16 h.symm]
   exact Ev.now _
  | true =>
   have hq : fault x = vf x.f1 := by unfold fault; rw [hn]; rfl
   simp only [if_true]
   by_cases h0 : vf x.f1 = 0
   ·refine Ev.ite_pos h0 (ih (j + 1) (by omega) ?_)
    rw [← h, firstF_ok (by rw [hq]; exact h0)]
   ·refine Ev.ite_neg h0 ?_
    rw [firstF_bad (by rw [hq]; exact h0), hq] at h
    rw [can_fault h16 h.symm]
    exact Ev.now _
theorem impl_can (l : List Lb) (hF : Fit l) : Ev (fun k => impl_Canon.f k l) (can l) := by
 unfold impl_Canon.f
 by_cases h : 16 < l.length
 ·refine Ev.ite_pos (by omega) ?_
  rw [can_many h]
  exact Ev.now _
 ·exact Ev.ite_neg (by omega) (impl_first l h hF l.length 0 (by omega) rfl)
end Go.Proofs.YtikbfjnbhogihaaGreatDoor.Can
