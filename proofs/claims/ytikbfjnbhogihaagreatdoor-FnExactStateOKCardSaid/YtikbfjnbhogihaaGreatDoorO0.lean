/- Some of this seat's texts, joined by prune.py. -/
import Derived.Test.YtikbfjnbhogihaaGreatDoorM0
import Derived.Test.YtikbfjnbhogihaaGreatDoorF161
import Derived.Test.YtikbfjnbhogihaaGreatDoorKeyDec
import Derived.Test.YtikbfjnbhogihaaGreatDoorMetr
/- Some of this seat's texts, joined by prune.py. -/
-- By pp.py, a program of this repo, with the kit's printer: Lean checks it.
namespace Go.Proofs.YtikbfjnbhogihaaGreatDoor.M
open Go.RowKit Go.Proofs.YtikbfjnbhogihaaGreatDoorW.PrintWords Go.Proofs.YtikbfjnbhogihaaGreatDoorW.PrintLast Go.Proofs.YtikbfjnbhogihaaGreatDoorW.PrintMore
attribute [local go_sem] max2_int min2_int max_two min_two max_three min_three max_four min_four
set_option linter.unusedVariables false
set_option linter.unusedSimpArgs false
open Go.Proofs.YtikbfjnbhogihaaGreatDoor.Opn
theorem opensP23 : Opens Tryz.prog 23 (Kd.pair (Kd.int .i64) (Kd.pair (Kd.int .i64) (Kd.pair (Kd.int .i64) (Kd.pair (Kd.int .i64) (Kd.pair (Kd.int .i64) (Kd.int .i64)))))) (fun x => (Lit.int .i64 x.1).wf = true ∧ (Lit.int .i64 x.2.1).wf = true ∧ (Lit.int .i64 x.2.2.1).wf = true ∧ (Lit.int .i64 x.2.2.2.1).wf = true ∧ (Lit.int .i64 x.2.2.2.2.1).wf = true ∧ (Lit.int .i64 x.2.2.2.2.2).wf = true) := Opens.struct Tryz.underlying23 (by kernel_rfl) (OpensFrom.cons rfl (by kernel_rfl) (Opens.int Tryz.underlying3) (OpensFrom.cons rfl (by kernel_rfl) (Opens.int Tryz.underlying3) (OpensFrom.cons rfl (by kernel_rfl) (Opens.int Tryz.underlying3) (OpensFrom.cons rfl (by kernel_rfl) (Opens.int Tryz.underlying3) (OpensFrom.cons rfl (by kernel_rfl) (Opens.int Tryz.underlying3) (OpensFrom.one rfl (by kernel_rfl) (Opens.int Tryz.underlying3)))))))
instance : Inhabited S223 := ⟨z223⟩
def b223 (x : S223) : Prop := x.f0.size ≤ maxLen ∧ (Lit.int .i64 x.f1).wf = true
theorem opens223 : Opens Tryz.prog 223 k223 b223 := Opens.iso (Opens.struct Tryz.underlying223 (by kernel_rfl) (OpensFrom.cons rfl (by kernel_rfl) (Opens.string Tryz.underlying9) (OpensFrom.one rfl (by kernel_rfl) (Opens.int Tryz.underlying3)))) (fun x : S223 => (x.f0, x.f1)) (fun a => (⟨a.1, a.2⟩ : S223)) (fun _ => rfl)
instance : Inhabited S225 := ⟨z225⟩
def b225 (x : S225) : Prop := x.f0.size ≤ maxLen ∧ (Lit.int .i64 x.f1).wf = true
theorem opens225 : Opens Tryz.prog 225 k225 b225 := Opens.iso (Opens.struct Tryz.underlying225 (by kernel_rfl) (OpensFrom.cons rfl (by kernel_rfl) (Opens.string Tryz.underlying9) (OpensFrom.one rfl (by kernel_rfl) (Opens.int Tryz.underlying3)))) (fun x : S225 => (x.f0, x.f1)) (fun a => (⟨a.1, a.2⟩ : S225)) (fun _ => rfl)
instance : Inhabited S159 := ⟨z159⟩
def b159 (x : S159) : Prop := x.f0.size ≤ maxLen ∧ (Lit.int .i64 x.f1).wf = true ∧ (x.f2.length ≤ maxLen ∧ ∀ y_ ∈ x.f2, b223 y_) ∧ (x.f3.length ≤ maxLen ∧ ∀ y_ ∈ x.f3, b225 y_)
theorem opens159 : Opens Tryz.prog 159 k159 b159 := Opens.iso (Opens.struct Tryz.underlying159 (by kernel_rfl) (OpensFrom.cons rfl (by kernel_rfl) (Opens.string Tryz.underlying9) (OpensFrom.cons rfl (by kernel_rfl) (Opens.int Tryz.underlying3) (OpensFrom.cons rfl (by kernel_rfl) (Opens.slice Tryz.underlying156 (by kernel_rfl) opens223) (OpensFrom.one rfl (by kernel_rfl) (Opens.slice Tryz.underlying157 (by kernel_rfl) opens225)))))) (fun x : S159 => (x.f0, x.f1, x.f2, x.f3)) (fun a => (⟨a.1, a.2.1, a.2.2.1, a.2.2.2⟩ : S159)) (fun _ => rfl)
theorem opensP26 : Opens Tryz.prog 26 (Kd.pair (Kd.int .i64) (Kd.slice 159 k159)) (fun x => (Lit.int .i64 x.1).wf = true ∧ (x.2.length ≤ maxLen ∧ ∀ y_ ∈ x.2, b159 y_)) := Opens.struct Tryz.underlying26 (by kernel_rfl) (OpensFrom.cons rfl (by kernel_rfl) (Opens.int Tryz.underlying3) (OpensFrom.one rfl (by kernel_rfl) (Opens.slice Tryz.underlying24 (by kernel_rfl) opens159)))
end Go.Proofs.YtikbfjnbhogihaaGreatDoor.M
/- FnKey, what is plain: the canonical form hangs on the set alone; equal keys, equal lists. UNDER WAY. -/
namespace Go.Proofs.YtikbfjnbhogihaaGreatDoor.KeyLaw
open Go.Proofs.YtikbfjnbhogihaaGreatDoor.M Go.Proofs.YtikbfjnbhogihaaGreatDoor.DecLib Go.Proofs.YtikbfjnbhogihaaGreatDoor.Loops Go.Proofs.YtikbfjnbhogihaaGreatDoor.Can Go.Proofs.YtikbfjnbhogihaaGreatDoor.CanSort Go.Proofs.YtikbfjnbhogihaaGreatDoor.Key Go.Proofs.YtikbfjnbhogihaaGreatDoor.KeyDec Go.Proofs.YtikbfjnbhogihaaGreatDoor.LabLaws Go.Proofs.YtikbfjnbhogihaaGreatDoorW.PrintWords Go.Proofs.YtikbfjnbhogihaaGreatDoorW.PrintLast Go.Proofs.YtikbfjnbhogihaaGreatDoorW.PrintMore Go.RowKit
set_option linter.unusedVariables false
abbrev Lab := S141
theorem text_eq {a b : ByteArray} (h : a.toList = b.toList) : a = b := by
 apply ByteArray.ext
 apply Array.ext'
 rw [ByteArray.toList_eq, ByteArray.toList_eq] at h
 exact h
theorem sm_eq : ∀ x y : List Lab, x.length = y.length → sm x y = true → x = y
 | [], [], _, _ => rfl
 | [], _ :: _, h, _ => by simp at h
 | _ :: _, [], h, _ => by simp at h
 | a :: x, b :: y, h, hs => by
  unfold sm at hs
  by_cases hc : (!((a.f0.toList) == (b.f0.toList)) || (!((a.f1.toList) == (b.f1.toList)))) = true
  ·rw [if_pos hc] at hs; cases hs
  ·rw [if_neg hc] at hs
   have ih := sm_eq x y (by simpa using h) hs
   simp only [Bool.or_eq_true, Bool.not_eq_true', beq_eq_false_iff_ne, ne_eq, not_or, Decidable.not_not] at hc
   have h0 := text_eq hc.1
   have h1 := text_eq hc.2
   cases a; cases b
   simp only at h0 h1
   rw [h0, h1, ih]
theorem sm_refl : ∀ x : List Lab, sm x x = true
 | [] => rfl
 | a :: x => by unfold sm; simp [sm_refl x]
theorem same_iff (x y : List Lab) : same x y = true ↔ x = y := by
 constructor
 ·intro h
  have hl := same_len h
  unfold same at h
  rw [if_pos (by omega)] at h
  exact sm_eq x y hl h
 ·rintro rfl
  unfold same
  rw [if_pos rfl]
  exact sm_refl x
def Ok (l : List Lab) : Prop := ¬ 16 < l.length ∧ (∀ x ∈ l, fault x = 0) ∧ Once l ∧ l.any isMet = true
theorem firstF_all : ∀ (l : List Lab) (i : Nat), (∀ x ∈ l, fault x = 0) → firstF l i = none
 | [], _, _ => rfl
 | x :: l, i, h => by rw [firstF_ok (h x List.mem_cons_self)]; exact firstF_all l _ (fun y hy => h y (List.mem_cons_of_mem _ hy))
theorem firstT_once : ∀ (l b : List Lab), Once (b ++ l) → firstT b l = none
 | [], _, _ => rfl
 | x :: l, b, h => by
  have hx : b.any (named x) = false := by
   rw [List.any_eq_false]
   intro y hy
   unfold Once at h
   have := (List.pairwise_append.1 h).2.2 y hy x List.mem_cons_self
   unfold named
   simpa using this
  rw [firstT_no hx]
  exact firstT_once l (b ++ [x]) (by simpa using h)
theorem ok_can {l : List Lab} (h : Ok l) : can l = (order (l.filter keep), 0, 0) :=
 can_good h.1 (firstF_all l 0 h.2.1) (firstT_once l [] (by simpa using h.2.2.1)) h.2.2.2
theorem can_zero {l : List Lab} (h : (can l).2.1 = 0) : Ok l := by
 by_cases h16 : 16 < l.length
 ·rw [can_many h16] at h; cases h
 ·cases hf : firstF l 0 with
  | some cj =>
   obtain ⟨c, j⟩ := cj
   rw [can_fault h16 hf] at h
   exact absurd h (firstF_some l 0 c j hf)
  | none =>
   cases ht : firstT [] l with
   | some i => rw [can_twice h16 hf ht] at h; cases h
   | none =>
    cases hm : l.any isMet with
    | false => rw [can_none h16 hf ht hm] at h; cases h
    | true => exact ⟨h16, firstF_none l 0 hf, once_all ht, hm⟩
end Go.Proofs.YtikbfjnbhogihaaGreatDoor.KeyLaw
-- By pp.py, a program of this repo, with the kit's printer: Lean checks it.
namespace Go.Proofs.YtikbfjnbhogihaaGreatDoor.M
open Go.RowKit Go.Proofs.YtikbfjnbhogihaaGreatDoorW.PrintWords Go.Proofs.YtikbfjnbhogihaaGreatDoorW.PrintLast Go.Proofs.YtikbfjnbhogihaaGreatDoorW.PrintMore
attribute [local go_sem] max2_int min2_int max_two min_two max_three min_three max_four min_four
set_option linter.unusedVariables false
set_option linter.unusedSimpArgs false
/-! ### laws_szState: function 12 -/
def laws_szState.f (k : Nat) (a0_0 : Int) (l0_1 : List (S159)) (a1 : Int) : Option (Int) := (laws_szTenantS.f k l0_1 a1).bind fun t113 => (if t113 < 0 then (some (-1)) else (some t113))
theorem laws_szState.mono : ∀ a0 a1 a2 k, LeO (laws_szState.f k a0 a1 a2) (laws_szState.f (k + 1) a0 a1 a2) := by
 intro a0 a1 a2 k
 unfold laws_szState.f
 repeat' first
   | (with_reducible exact laws_szTenantS.mono _ _ _)
   | (with_reducible exact LeO.refl _)
   | (with_reducible exact LeO.none _)
   | (with_reducible refine LeO.ite ?_ ?_)
   | (with_reducible refine LeO.bind ?_ (fun _ => ?_))
   | exact laws_szTenantS.mono _ _ _
   | exact LeO.none _
   | refine LeO.ite ?_ ?_
   | refine LeO.bind ?_ (fun _ => ?_)
set_option maxHeartbeats 8000000 in
set_option maxRecDepth 100000 in
theorem laws_szState.calls (k : Nat) (a0_0 : Int) (A0_1 : Option Addr) (c0_1 : Nat) (l0_1 : List (S159)) (a1 : Int) (r : Int) (w : World) (hr0_1 : Kd.C k159 w A0_1 l0_1.length l0_1) (hc0_1 : l0_1.length ≤ c0_1) (h : laws_szState.f k a0_0 l0_1 a1 = some r) :
  Calls Tryz.prog 12 #[.agg #[.int .i64 a0_0, .slice A0_1 l0_1.length c0_1], .int .i64 a1] w fun e w' => e = .returned (.int .i64 r) ∧ Below w.heap.size w w' := by
 have hu26 := Tryz.underlying26
 have HR0_1 := Aside0.mk hr0_1
 have HC0_1 := Aside0.mk hc0_1
 clear hr0_1 hc0_1
 have HB := Aside0.mk (Below.refl w.heap.size w)
 have H : ((laws_szTenantS.f k l0_1 a1).bind fun t113 => (if t113 < 0 then (some (-1)) else (some t113))) = some r := h
 clear h
 replace H := Option.bind_eq_some_iff.mp H
 obtain ⟨t113, A30, H⟩ := H
 replace H : (if t113 < 0 then (some (-1)) else (some t113)) = some r := H
 have A3 := Aside0.mk A30
 clear A30
 by_cases c4 : t113 < 0
 ·rw [if_pos c4] at H
  have c4b0 : decide (t113 < 0) = true := decide_eq_true c4
  clear c4
  obtain rfl := Option.some.inj H
  go_enter Tryz.func12, Tryz.ntmps12
  go_wp2_with (first | ((with_reducible refine gate_dst (N := 2) rfl ?_); refine box_event ?hg (N := 2) ?hd (cs := #[.int .i64 a0_0, .slice A0_1 l0_1.length c0_1]) (t := 26) ?hr ?_; (case hd => rfl); (case hg => rfl); (case hr => first | (go_simp; done) | (go_simp; rfl)); intro gb112 hg w5 hbox hb; have n0_ := Aside0.mk (below_step (by repeat (first | (with_reducible first | exact HB.out | apply below_alloc | apply pw_below_drewN | apply below_drew1) | exact HB.out)) hb); have n1_ := Aside0.mk (hbox); have n2_ := Aside0.mk ((by rw [hg]; exact (below_size (by repeat (first | (with_reducible first | exact HB.out | apply below_alloc | apply pw_below_drewN | apply below_drew1) | exact HB.out))) : w.heap.size ≤ gb112)); have n3_ := Aside0.mk ((by rw [hg]; exact (below_size (by repeat (first | (with_reducible first | exact HB.out | apply below_alloc | apply pw_below_drewN | apply below_drew1) | exact HB.out))) : w.heap.size ≤ gb112)); clear HB; have HB := n0_; have BK112 := n1_; have GW112 := n2_; have GE112 := n3_; clear n0_ n1_ n2_ n3_; clear hb hbox hg; have hcz6_0 : w5.cell? ⟨gb112, 0, none⟩ = some (.int .i64 a0_0) := (blk_cell BK112.out 0).trans rfl; have hcz6_1 : w5.cell? ⟨gb112, 1, none⟩ = some (.slice A0_1 l0_1.length c0_1) := (blk_cell BK112.out 1).trans rfl; have hfz6_0 := blk_frozen BK112.out 0; have hfz6_1 := blk_frozen BK112.out 1) | ((with_reducible refine gate_callee (f := 46) rfl ?_); refine goesL_ (some 8) rfl rfl Tryz.func46 (by kernel_rfl) rfl #[.slice A0_1 l0_1.length c0_1, .int .i64 a1] rfl (by (try simp only [List.map_toArray, List.map_cons, List.map_nil]); first | done | rfl | (simp only [List.length_drop, List.length_take]; rfl)) ?_; (with_reducible refine (laws_szTenantS.calls k _ _ l0_1 a1 t113 _ ?side1 ?side2 A3.out).mono ?_); (case side1 => repeat (first | exact (Kd.C_below HR0_1.out HB.out) | (with_reducible refine Kd.C_alloc ?_ _) | (with_reducible refine Kd.C_drewN ?_ _) | (with_reducible refine Kd.C_drew ?_))); (case side2 => exact HC0_1.out); rintro e w7 ⟨rfl, hb⟩; refine ⟨_, rfl, ?_⟩; have n0_ := Aside0.mk (blk_below (g := gb112) (o := .cells #[.int .i64 a0_0, .slice A0_1 l0_1.length c0_1] 26 (0, 0)) (by (with_reducible repeat (first | refine blk_drewN ?_ _ | refine blk_drew ?_ | refine blk_alloc ?_ _)); exact BK112.out) hb); have n1_ := Aside0.mk (below_step (by repeat (first | (with_reducible first | exact HB.out | apply below_alloc | apply pw_below_drewN | apply below_drew1 | refine below_set ?_ GE112.out) | exact HB.out)) hb); clear BK112; clear HB; have BK112 := n0_; have HB := n1_; clear n0_ n1_; (try clear hb); (try clear hb2); (try clear hk); (try clear hi)))
  go_ret
  exact ⟨by first | rfl | (simp [errW_none, errW_some] <;> rfl) | (simp [*, errW_none, errW_some] <;> rfl), by repeat (first | (with_reducible first | exact HB.out | apply below_alloc | apply pw_below_drewN | apply below_drew1 | refine below_set ?_ GE112.out) | exact HB.out)⟩
 ·rw [if_neg c4] at H
  have c4b0 : decide (t113 < 0) = false := decide_eq_false c4
  clear c4
  obtain rfl := Option.some.inj H
  go_enter Tryz.func12, Tryz.ntmps12
  go_wp2_with (first | ((with_reducible refine gate_dst (N := 2) rfl ?_); refine box_event ?hg (N := 2) ?hd (cs := #[.int .i64 a0_0, .slice A0_1 l0_1.length c0_1]) (t := 26) ?hr ?_; (case hd => rfl); (case hg => rfl); (case hr => first | (go_simp; done) | (go_simp; rfl)); intro gb112 hg w8 hbox hb; have n0_ := Aside0.mk (below_step (by repeat (first | (with_reducible first | exact HB.out | apply below_alloc | apply pw_below_drewN | apply below_drew1) | exact HB.out)) hb); have n1_ := Aside0.mk (hbox); have n2_ := Aside0.mk ((by rw [hg]; exact (below_size (by repeat (first | (with_reducible first | exact HB.out | apply below_alloc | apply pw_below_drewN | apply below_drew1) | exact HB.out))) : w.heap.size ≤ gb112)); have n3_ := Aside0.mk ((by rw [hg]; exact (below_size (by repeat (first | (with_reducible first | exact HB.out | apply below_alloc | apply pw_below_drewN | apply below_drew1) | exact HB.out))) : w.heap.size ≤ gb112)); clear HB; have HB := n0_; have BK112 := n1_; have GW112 := n2_; have GE112 := n3_; clear n0_ n1_ n2_ n3_; clear hb hbox hg; have hcz9_0 : w8.cell? ⟨gb112, 0, none⟩ = some (.int .i64 a0_0) := (blk_cell BK112.out 0).trans rfl; have hcz9_1 : w8.cell? ⟨gb112, 1, none⟩ = some (.slice A0_1 l0_1.length c0_1) := (blk_cell BK112.out 1).trans rfl; have hfz9_0 := blk_frozen BK112.out 0; have hfz9_1 := blk_frozen BK112.out 1) | ((with_reducible refine gate_callee (f := 46) rfl ?_); refine goesL_ (some 8) rfl rfl Tryz.func46 (by kernel_rfl) rfl #[.slice A0_1 l0_1.length c0_1, .int .i64 a1] rfl (by (try simp only [List.map_toArray, List.map_cons, List.map_nil]); first | done | rfl | (simp only [List.length_drop, List.length_take]; rfl)) ?_; (with_reducible refine (laws_szTenantS.calls k _ _ l0_1 a1 t113 _ ?side1 ?side2 A3.out).mono ?_); (case side1 => repeat (first | exact (Kd.C_below HR0_1.out HB.out) | (with_reducible refine Kd.C_alloc ?_ _) | (with_reducible refine Kd.C_drewN ?_ _) | (with_reducible refine Kd.C_drew ?_))); (case side2 => exact HC0_1.out); rintro e w10 ⟨rfl, hb⟩; refine ⟨_, rfl, ?_⟩; have n0_ := Aside0.mk (blk_below (g := gb112) (o := .cells #[.int .i64 a0_0, .slice A0_1 l0_1.length c0_1] 26 (0, 0)) (by (with_reducible repeat (first | refine blk_drewN ?_ _ | refine blk_drew ?_ | refine blk_alloc ?_ _)); exact BK112.out) hb); have n1_ := Aside0.mk (below_step (by repeat (first | (with_reducible first | exact HB.out | apply below_alloc | apply pw_below_drewN | apply below_drew1 | refine below_set ?_ GE112.out) | exact HB.out)) hb); clear BK112; clear HB; have BK112 := n0_; have HB := n1_; clear n0_ n1_; (try clear hb); (try clear hb2); (try clear hk); (try clear hi)))
  go_ret
  exact ⟨by first | rfl | (simp [errW_none, errW_some] <;> rfl) | (simp [*, errW_none, errW_some] <;> rfl), by repeat (first | (with_reducible first | exact HB.out | apply below_alloc | apply pw_below_drewN | apply below_drew1 | refine below_set ?_ GE112.out) | exact HB.out)⟩
end Go.Proofs.YtikbfjnbhogihaaGreatDoor.M
