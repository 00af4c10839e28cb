/- Some of this seat's texts, joined by prune.py. -/
import Derived.Test.YtdfgfhnbcifheaaDoorM0
import Derived.Test.YtdfgfhnbcifheaaDoorF44
import Derived.Test.YtdfgfhnbcifheaaDoorF45
import Derived.Test.YtdfgfhnbcifheaaDoorF46
import Derived.Shelf.SlGeneric
import Derived.Shelf.SlSortCmp.WholeK
import Derived.Ground.SlsfProg
import Derived.Test.YtdfgfhnbcifheaaDoorProg
import Derived.Shelf.SlSortCmp.NoneTotal
import Derived.WalkKit
import Derived.Test.YtdfgfhnbcifheaaDoorF24
import Derived.Test.YtdfgfhnbcifheaaDoorShelf
-- By pp.py, a program of this repo, with the kit's printer: Lean checks it.
namespace Go.Proofs.YtdfgfhnbcifheaaDoor.M
open Go.RowKit Go.Proofs.YtdfgfhnbcifheaaDoorW.PrintWords Go.Proofs.YtdfgfhnbcifheaaDoorW.PrintLast Go.Proofs.YtdfgfhnbcifheaaDoorW.PrintMore
attribute [local go_sem] max2_int min2_int max_two min_two max_three min_three max_four min_four
set_option linter.unusedVariables false
set_option linter.unusedSimpArgs false

/-! ### spec_DrawCanon: function 19 -/
def spec_DrawCanon.f (k : Nat) (l0 : List Int) : Option ((List (S38))) := (spec_l3DrawLabels.f k l0 0 0).bind fun bt433 => ((spec_l1Cur_pick.f l0 bt433.2.1 bt433.2.2 2).bind fun bt438 => (if bt438.1 = 0 then ((spec_l3SpoilLabels.f k l0 bt438.2.1 bt438.2.2 bt433.1).bind fun bt441 => (some bt441.1)) else (some bt433.1)))
theorem spec_DrawCanon.mono : ∀ a0 k, LeO (spec_DrawCanon.f k a0) (spec_DrawCanon.f (k + 1) a0) := by
  intro a0 k
  unfold spec_DrawCanon.f
  repeat' first
      | (with_reducible exact spec_l3DrawLabels.mono _ _ _ _)
      | (with_reducible exact spec_l3SpoilLabels.mono _ _ _ _ _)
      | (with_reducible exact LeO.refl _)
      | (with_reducible exact LeO.none _)
      | (with_reducible refine LeO.ite ?_ ?_)
      | (with_reducible refine LeO.bind ?_ (fun _ => ?_))
      | exact spec_l3DrawLabels.mono _ _ _ _
      | exact spec_l3SpoilLabels.mono _ _ _ _ _
      | exact LeO.none _
      | refine LeO.ite ?_ ?_
      | refine LeO.bind ?_ (fun _ => ?_)
set_option maxHeartbeats 8000000 in
set_option maxRecDepth 100000 in
theorem spec_DrawCanon.calls (k : Nat) (A0 : Option Addr) (c0 : Nat) (l0 : List Int) (r : List (S38)) (w : World) (hr0 : Kd.C (Kd.int .u8) w A0 l0.length l0) (hc0 : l0.length ≤ c0) (h : spec_DrawCanon.f k l0 = some r) :
    Calls Tryd.prog 19 #[.slice A0 l0.length c0] w fun e w' => ∃ v0_ : Value, e = .returned (v0_) ∧ Kd.R k38 38 w' w.heap.size (fun _ => True) v0_ r ∧ Below w.heap.size w w' := by
  have hu56 := Tryd.underlying56
  have HR0 := Aside0.mk hr0
  have HC0 := Aside0.mk hc0
  clear hr0 hc0
  have HB := Aside0.mk (Below.refl w.heap.size w)
  have H : ((spec_l3DrawLabels.f k l0 0 0).bind fun bt433 => ((spec_l1Cur_pick.f l0 bt433.2.1 bt433.2.2 2).bind fun bt438 => (if bt438.1 = 0 then ((spec_l3SpoilLabels.f k l0 bt438.2.1 bt438.2.2 bt433.1).bind fun bt441 => (some bt441.1)) else (some bt433.1)))) = some r := h
  clear h
  replace H := Option.bind_eq_some_iff.mp H
  obtain ⟨⟨t433, t436, t437⟩, A20, H⟩ := H
  replace H : ((spec_l1Cur_pick.f l0 t436 t437 2).bind fun bt438 => (if bt438.1 = 0 then ((spec_l3SpoilLabels.f k l0 bt438.2.1 bt438.2.2 t433).bind fun bt441 => (some bt441.1)) else (some t433))) = some r := H
  have A2 := Aside0.mk A20
  clear A20
  replace H := Option.bind_eq_some_iff.mp H
  obtain ⟨⟨t438, t439, t440⟩, A30, H⟩ := H
  replace H : (if t438 = 0 then ((spec_l3SpoilLabels.f k l0 t439 t440 t433).bind fun bt441 => (some bt441.1)) else (some t433)) = some r := H
  have A3 := Aside0.mk A30
  clear A30
  by_cases c4 : t438 = 0
  · rw [if_pos c4] at H
    have c4b0 : (t438 == 0) = true := beq_iff_eq.mpr c4
    have c4b1 : (t438 != 0) = false := bne_eq_false_iff_eq.mpr c4
    clear c4
    replace H := Option.bind_eq_some_iff.mp H
    obtain ⟨⟨t441, t444, t445⟩, A50, H⟩ := H
    replace H : (some t441) = some r := H
    have A5 := Aside0.mk A50
    clear A50
    obtain rfl := Option.some.inj H
    go_enter Tryd.func19, Tryd.ntmps19
    go_wp2_with (first | ((with_reducible refine gate_dst (N := 7) rfl ?_); refine box_event ?hg (N := 7) ?hd (cs := #[.slice A0 l0.length c0, .int .i64 0, .int .i64 0]) (t := 56) ?hr ?_; (case hd => rfl); (case hg => rfl); (case hr => first | (go_simp; done) | (go_simp; rfl)); intro gb432 hg w6 hbox hb; have n0_ := Aside0.mk (below_step (by repeat (first | (with_reducible first | exact HB.out | apply below_alloc | apply pw_below_drewN | apply below_drew1) | exact HB.out)) hb); have n1_ := Aside0.mk (show IsS56 w w6 gb432 l0 0 0 from ⟨_, _, hbox, (by rw [hg]; exact (below_size (by repeat (first | (with_reducible first | exact HB.out | apply below_alloc | apply pw_below_drewN | apply below_drew1) | exact HB.out))) : w.heap.size ≤ gb432), HR0.out⟩); clear HB; have HB := n0_; have HI432 := n1_; clear n0_ n1_; clear hb hbox hg) | ((with_reducible refine gate_callee (f := 44) rfl ?_); refine goesL_ (some 9) rfl rfl Tryd.func44 (by kernel_rfl) rfl #[.pointer (some ⟨gb432, 0, none⟩)] rfl (by (try simp only [List.map_toArray, List.map_cons, List.map_nil]); first | done | rfl | (simp only [List.length_drop, List.length_take]; rfl)) ?_; (with_reducible refine (spec_l3DrawLabels.calls k gb432 l0 0 0 t433 t436 t437 w _ ?side1 ?side2 A2.out).mono ?_); (case side1 => repeat (first | (with_reducible first | exact HI432.out | apply IsS56.alloc | apply IsS56.drewN | apply IsS56.drew | apply IsS56.set_1 | apply IsS56.set_2) | exact HI432.out)); (case side2 => repeat (first | (with_reducible first | exact HB.out | apply below_alloc | apply pw_below_drewN | apply below_drew1 | refine below_set ?_ (IsS56.ge HI432.out)) | exact HB.out)); rintro e w7 ⟨v434, rfl, ho0, hi, hb, hk⟩; refine ⟨_, rfl, ?_⟩; have n0_ := Aside0.mk (Kd.R_lower ho0 (below_size (by repeat (first | (with_reducible first | exact HB.out | apply below_alloc | apply pw_below_drewN | apply below_drew1 | refine below_set ?_ (IsS56.ge HI432.out)) | exact HB.out)))); have n1_ := Aside0.mk (hb); have n2_ := Aside0.mk (hi); clear HB; clear HI432; have HO435 := n0_; have HB := n1_; have HI432 := n2_; clear n0_ n1_ n2_; (try clear hb); (try clear hb2); (try clear hk); (try clear hi); (try clear ho0)) | ((with_reducible refine gate_callee (f := 45) rfl ?_); refine goesL_ (some 11) rfl rfl Tryd.func45 (by kernel_rfl) rfl #[.pointer (some ⟨gb432, 0, none⟩), .int .i64 2] rfl (by (try simp only [List.map_toArray, List.map_cons, List.map_nil]); first | done | rfl | (simp only [List.length_drop, List.length_take]; rfl)) ?_; (with_reducible refine (spec_l1Cur_pick.calls gb432 l0 t436 t437 2 t438 t439 t440 w _ ?side1 ?side2 A3.out).mono ?_); (case side1 => repeat (first | (with_reducible first | exact HI432.out | apply IsS56.alloc | apply IsS56.drewN | apply IsS56.drew | apply IsS56.set_1 | apply IsS56.set_2) | exact HI432.out)); (case side2 => repeat (first | (with_reducible first | exact HB.out | apply below_alloc | apply pw_below_drewN | apply below_drew1 | refine below_set ?_ (IsS56.ge HI432.out)) | exact HB.out)); rintro e w8 ⟨rfl, hi, hb, hk⟩; refine ⟨_, rfl, ?_⟩; have n0_ := Aside0.mk (Kd.R_mono (Kd.R_keep (IsS56.apart (show IsS56 w _ gb432 l0 t436 t437 from by repeat (first | (with_reducible first | exact HI432.out | apply IsS56.alloc | apply IsS56.drewN | apply IsS56.drew | apply IsS56.set_1 | apply IsS56.set_2) | exact HI432.out)) (by (with_reducible repeat (first | apply Kd.R_alloc | apply Kd.R_drewN | apply Kd.R_drew)); exact HO435.out) (by decide)) hk (fun _ h => h.2)) (fun _ h => h.1)); have n1_ := Aside0.mk (hb); have n2_ := Aside0.mk (hi); clear HO435; clear HB; clear HI432; have HO435 := n0_; have HB := n1_; have HI432 := n2_; clear n0_ n1_ n2_; (try clear hb); (try clear hb2); (try clear hk); (try clear hi); obtain ⟨Ao9, co9, eo9⟩ := Kd.R_slice HO435.out; subst eo9) | ((with_reducible refine gate_callee (f := 46) rfl ?_); refine goesL_ (some 15) rfl rfl Tryd.func46 (by kernel_rfl) rfl #[.pointer (some ⟨gb432, 0, none⟩), .slice Ao9 t433.length co9] rfl (by (try simp only [List.map_toArray, List.map_cons, List.map_nil]); first | done | rfl | (simp only [List.length_drop, List.length_take]; rfl)) ?_; (with_reducible refine (spec_l3SpoilLabels.calls k gb432 l0 t439 t440 _ _ t433 t441 t444 t445 w _ ?side1 ?side2 ?side3 ?side4 A5.out).mono ?_); (case side1 => repeat (first | (with_reducible first | exact HI432.out | apply IsS56.alloc | apply IsS56.drewN | apply IsS56.drew | apply IsS56.set_1 | apply IsS56.set_2) | exact HI432.out)); (case side2 => repeat (first | (with_reducible first | exact HB.out | apply below_alloc | apply pw_below_drewN | apply below_drew1 | refine below_set ?_ (IsS56.ge HI432.out)) | exact HB.out)); (case side3 => exact Kd.C_foot_own (IsS56.apart (show IsS56 w _ gb432 l0 t439 t440 from by repeat (first | (with_reducible first | exact HI432.out | apply IsS56.alloc | apply IsS56.drewN | apply IsS56.drew | apply IsS56.set_1 | apply IsS56.set_2) | exact HI432.out)) (by (with_reducible repeat (first | apply Kd.R_alloc | apply Kd.R_drewN | apply Kd.R_drew)); exact HO435.out) (by decide)) (fun _ h_ => h_.2)); (case side4 => exact (Kd.R_reads' HO435.out).2.1); rintro e w10 ⟨v442, rfl, ho0, hi, hb, hk⟩; refine ⟨_, rfl, ?_⟩; have n0_ := Aside0.mk (Kd.R_mono (Kd.R_told (Kd.R_oldK (IsS56.apart (show IsS56 w _ gb432 l0 t439 t440 from by repeat (first | (with_reducible first | exact HI432.out | apply IsS56.alloc | apply IsS56.drewN | apply IsS56.drew | apply IsS56.set_1 | apply IsS56.set_2) | exact HI432.out)) (by (with_reducible repeat (first | apply Kd.R_alloc | apply Kd.R_drewN | apply Kd.R_drew)); exact HO435.out) (by decide)) hk) (Kd.R_base ho0)) (fun _ h_ => h_.1)); have n1_ := Aside0.mk (Kd.R_lower (Kd.R_new' ho0 (Kd.R_lt (by (with_reducible repeat (first | apply Kd.R_alloc | apply Kd.R_drewN | apply Kd.R_drew)); exact HO435.out))) (below_size (by repeat (first | (with_reducible first | exact HB.out | apply below_alloc | apply pw_below_drewN | apply below_drew1 | refine below_set ?_ (IsS56.ge HI432.out)) | exact HB.out)))); have n2_ := Aside0.mk (hb); have n3_ := Aside0.mk (hi); clear HO435; clear HB; clear HI432; have HO435 := n0_; have HO443 := n1_; have HB := n2_; have HI432 := n3_; clear n0_ n1_ n2_ n3_; (try clear hb); (try clear hb2); (try clear hk); (try clear hi); (try clear ho0)))
    go_ret
    exact ⟨_, by first | rfl | (simp [errW_none, errW_some] <;> rfl) | (simp [*, errW_none, errW_some] <;> rfl), by (with_reducible repeat (first | apply Kd.R_alloc | apply Kd.R_drewN | apply Kd.R_drew)); exact Kd.R_mono HO443.out (fun _ hk => trivial), by repeat (first | (with_reducible first | exact HB.out | apply below_alloc | apply pw_below_drewN | apply below_drew1 | refine below_set ?_ (IsS56.ge HI432.out)) | exact HB.out)⟩
  · rw [if_neg c4] at H
    have c4b0 : (t438 == 0) = false := beq_eq_false_iff_ne.mpr c4
    have c4b1 : (t438 != 0) = true := bne_iff_ne.mpr c4
    obtain rfl := Option.some.inj H
    go_enter Tryd.func19, Tryd.ntmps19
    go_wp2_with (first | ((with_reducible refine gate_dst (N := 7) rfl ?_); refine box_event ?hg (N := 7) ?hd (cs := #[.slice A0 l0.length c0, .int .i64 0, .int .i64 0]) (t := 56) ?hr ?_; (case hd => rfl); (case hg => rfl); (case hr => first | (go_simp; done) | (go_simp; rfl)); intro gb432 hg w11 hbox hb; have n0_ := Aside0.mk (below_step (by repeat (first | (with_reducible first | exact HB.out | apply below_alloc | apply pw_below_drewN | apply below_drew1) | exact HB.out)) hb); have n1_ := Aside0.mk (show IsS56 w w11 gb432 l0 0 0 from ⟨_, _, hbox, (by rw [hg]; exact (below_size (by repeat (first | (with_reducible first | exact HB.out | apply below_alloc | apply pw_below_drewN | apply below_drew1) | exact HB.out))) : w.heap.size ≤ gb432), HR0.out⟩); clear HB; have HB := n0_; have HI432 := n1_; clear n0_ n1_; clear hb hbox hg) | ((with_reducible refine gate_callee (f := 44) rfl ?_); refine goesL_ (some 9) rfl rfl Tryd.func44 (by kernel_rfl) rfl #[.pointer (some ⟨gb432, 0, none⟩)] rfl (by (try simp only [List.map_toArray, List.map_cons, List.map_nil]); first | done | rfl | (simp only [List.length_drop, List.length_take]; rfl)) ?_; (with_reducible refine (spec_l3DrawLabels.calls k gb432 l0 0 0 t433 t436 t437 w _ ?side1 ?side2 A2.out).mono ?_); (case side1 => repeat (first | (with_reducible first | exact HI432.out | apply IsS56.alloc | apply IsS56.drewN | apply IsS56.drew | apply IsS56.set_1 | apply IsS56.set_2) | exact HI432.out)); (case side2 => repeat (first | (with_reducible first | exact HB.out | apply below_alloc | apply pw_below_drewN | apply below_drew1 | refine below_set ?_ (IsS56.ge HI432.out)) | exact HB.out)); rintro e w12 ⟨v434, rfl, ho0, hi, hb, hk⟩; refine ⟨_, rfl, ?_⟩; have n0_ := Aside0.mk (Kd.R_lower ho0 (below_size (by repeat (first | (with_reducible first | exact HB.out | apply below_alloc | apply pw_below_drewN | apply below_drew1 | refine below_set ?_ (IsS56.ge HI432.out)) | exact HB.out)))); have n1_ := Aside0.mk (hb); have n2_ := Aside0.mk (hi); clear HB; clear HI432; have HO435 := n0_; have HB := n1_; have HI432 := n2_; clear n0_ n1_ n2_; (try clear hb); (try clear hb2); (try clear hk); (try clear hi); (try clear ho0)) | ((with_reducible refine gate_callee (f := 45) rfl ?_); refine goesL_ (some 11) rfl rfl Tryd.func45 (by kernel_rfl) rfl #[.pointer (some ⟨gb432, 0, none⟩), .int .i64 2] rfl (by (try simp only [List.map_toArray, List.map_cons, List.map_nil]); first | done | rfl | (simp only [List.length_drop, List.length_take]; rfl)) ?_; (with_reducible refine (spec_l1Cur_pick.calls gb432 l0 t436 t437 2 t438 t439 t440 w _ ?side1 ?side2 A3.out).mono ?_); (case side1 => repeat (first | (with_reducible first | exact HI432.out | apply IsS56.alloc | apply IsS56.drewN | apply IsS56.drew | apply IsS56.set_1 | apply IsS56.set_2) | exact HI432.out)); (case side2 => repeat (first | (with_reducible first | exact HB.out | apply below_alloc | apply pw_below_drewN | apply below_drew1 | refine below_set ?_ (IsS56.ge HI432.out)) | exact HB.out)); rintro e w13 ⟨rfl, hi, hb, hk⟩; refine ⟨_, rfl, ?_⟩; have n0_ := Aside0.mk (Kd.R_mono (Kd.R_keep (IsS56.apart (show IsS56 w _ gb432 l0 t436 t437 from by repeat (first | (with_reducible first | exact HI432.out | apply IsS56.alloc | apply IsS56.drewN | apply IsS56.drew | apply IsS56.set_1 | apply IsS56.set_2) | exact HI432.out)) (by (with_reducible repeat (first | apply Kd.R_alloc | apply Kd.R_drewN | apply Kd.R_drew)); exact HO435.out) (by decide)) hk (fun _ h => h.2)) (fun _ h => h.1)); have n1_ := Aside0.mk (hb); have n2_ := Aside0.mk (hi); clear HO435; clear HB; clear HI432; have HO435 := n0_; have HB := n1_; have HI432 := n2_; clear n0_ n1_ n2_; (try clear hb); (try clear hb2); (try clear hk); (try clear hi)))
    go_ret
    exact ⟨_, by first | rfl | (simp [errW_none, errW_some] <;> rfl) | (simp [*, errW_none, errW_some] <;> rfl), by (with_reducible repeat (first | apply Kd.R_alloc | apply Kd.R_drewN | apply Kd.R_drew)); exact HO435.out, by repeat (first | (with_reducible first | exact HB.out | apply below_alloc | apply pw_below_drewN | apply below_drew1 | refine below_set ?_ (IsS56.ge HI432.out)) | exact HB.out)⟩

end Go.Proofs.YtdfgfhnbcifheaaDoor.M
/- Some of this seat's texts, joined by prune.py. -/
/- Some of this seat's texts, joined by prune.py. -/
/-
  DERIVED: THE SHELF's CONTRACTS AT THIS DUMP, IN PLAIN WORDS (tools/lay-plain.mjs out of 'TrydSShelf.lean', which tools/lay-shelf.mjs wrote): THE SAME DECLARATIONS UNDER THE SAME NAMES: 'import', 'namespace', 'open', 'def', 'theorem' AND NOTHING ELSE: no command of the shelf's: FOR A HAND-IN. Each laying: the table of numbers ('.._ren') and one theorem, a field a fact of the dump's own or the kernel's comparison; each contract: ONE APPLICATION.
-/
namespace Go.Proofs
open Go.Shelf
def Tryd.sortL_ren : Go.Shelf.Ren := ⟨fun | 6 => 30 | 15 => 55 | 14 => 54 | 28 => 73 | 29 => 74 | 20 => 65 | 21 => 66 | 22 => 67 | 23 => 68 | 24 => 69 | 25 => 70 | 26 => 71 | 27 => 72 | 46 => 79 | 47 => 80 | 48 => 81 | 49 => 82 | 50 => 83 | 57 => 86 | n => n, fun | 22 => 24 | 24 => 38 | 25 => 48 | 3 => 3 | 39 => 73 | 0 => 0 | 53 => 90 | 55 => 92 | 4 => 4 | 46 => 83 | 45 => 82 | 50 => 87 | 5 => 5 | 9 => 9 | 66 => 105 | 70 => 109 | 76 => 112 | 77 => 67 | n => n, fun | n => n⟩
theorem Tryd.sortL : Go.Proofs.SlLaysF0.n6 Tryd.prog Tryd.sortL_ren := {
  mixed := by kernel_rfl
  f6 := ⟨Tryd.f30.name, by decide, Tryd.func30.trans (congrArg some (by kernel_rfl))⟩
  f14 := ⟨Tryd.f54.name, by decide, Tryd.func54.trans (congrArg some (by kernel_rfl))⟩
  f15 := Tryd.func55.trans (congrArg some (by kernel_rfl))
  f20 := ⟨Tryd.f65.name, by decide, Tryd.func65.trans (congrArg some (by kernel_rfl))⟩
  f21 := ⟨Tryd.f66.name, by decide, Tryd.func66.trans (congrArg some (by kernel_rfl))⟩
  f22 := ⟨Tryd.f67.name, by decide, Tryd.func67.trans (congrArg some (by kernel_rfl))⟩
  f23 := ⟨Tryd.f68.name, by decide, Tryd.func68.trans (congrArg some (by kernel_rfl))⟩
  f24 := ⟨Tryd.f69.name, by decide, Tryd.func69.trans (congrArg some (by kernel_rfl))⟩
  f25 := ⟨Tryd.f70.name, by decide, Tryd.func70.trans (congrArg some (by kernel_rfl))⟩
  f26 := ⟨Tryd.f71.name, by decide, Tryd.func71.trans (congrArg some (by kernel_rfl))⟩
  f27 := ⟨Tryd.f72.name, by decide, Tryd.func72.trans (congrArg some (by kernel_rfl))⟩
  f28 := Tryd.func73.trans (congrArg some (by kernel_rfl))
  f29 := Tryd.func74.trans (congrArg some (by kernel_rfl))
  f46 := ⟨Tryd.f79.name, by decide, Tryd.func79.trans (congrArg some (by kernel_rfl))⟩
  f47 := Tryd.func80.trans (congrArg some (by kernel_rfl))
  f48 := Tryd.func81.trans (congrArg some (by kernel_rfl))
  f49 := ⟨Tryd.f82.name, by decide, Tryd.func82.trans (congrArg some (by kernel_rfl))⟩
  f50 := ⟨Tryd.f83.name, by decide, Tryd.func83.trans (congrArg some (by kernel_rfl))⟩
  f57 := ⟨Tryd.f86.name, by decide, Tryd.func86.trans (congrArg some (by kernel_rfl))⟩
  t0 := Tryd.underlying0
  a0 := Tryd.isAgg0
  z0 := Tryd.sizeOf0
  v0 := Tryd.zeroValue0
  t3 := Tryd.underlying3
  a3 := Tryd.isAgg3
  z3 := Tryd.sizeOf3
  v3 := Tryd.zeroValue3
  t4 := Tryd.underlying4
  a4 := Tryd.isAgg4
  z4 := Tryd.sizeOf4
  v4 := Tryd.zeroValue4
  t5 := Tryd.underlying5
  a5 := Tryd.isAgg5
  z5 := Tryd.sizeOf5
  v5 := Tryd.zeroValue5
  t9 := Tryd.underlying9
  a9 := Tryd.isAgg9
  z9 := Tryd.sizeOf9
  v9 := Tryd.zeroValue9
  t22 := Tryd.underlying24
  a22 := Tryd.isAgg24
  z22 := Tryd.sizeOf24
  v22 := Tryd.zeroValue24
  t25 := Tryd.underlying48
  a25 := Tryd.isAgg48
  z25 := Tryd.sizeOf48
  v25 := Tryd.zeroValue48
  t39 := Tryd.underlying73
  a39 := Tryd.isAgg73
  z39 := Tryd.sizeOf73
  v39 := Tryd.zeroValue73
  t45 := Tryd.underlying82
  a45 := Tryd.isAgg82
  z45 := Tryd.sizeOf82
  v45 := Tryd.zeroValue82
  t46 := Tryd.underlying83
  a46 := Tryd.isAgg83
  z46 := Tryd.sizeOf83
  v46 := Tryd.zeroValue83
  t50 := Tryd.underlying87
  a50 := Tryd.isAgg87
  z50 := Tryd.sizeOf87
  v50 := Tryd.zeroValue87
  t53 := Tryd.underlying90
  a53 := Tryd.isAgg90
  z53 := Tryd.sizeOf90
  v53 := Tryd.zeroValue90
  t55 := Tryd.underlying92
  a55 := Tryd.isAgg92
  z55 := Tryd.sizeOf92
  v55 := Tryd.zeroValue92
  t66 := Tryd.underlying105
  a66 := Tryd.isAgg105
  z66 := Tryd.sizeOf105
  v66 := Tryd.zeroValue105
  t70 := Tryd.underlying109
  a70 := Tryd.isAgg109
  z70 := Tryd.sizeOf109
  v70 := Tryd.zeroValue109
  t76 := Tryd.underlying112
  a76 := Tryd.isAgg112
  z76 := Tryd.sizeOf112
  v76 := Tryd.zeroValue112
  t77 := Tryd.underlying67
  a77 := Tryd.isAgg67
  z77 := Tryd.sizeOf67
  v77 := Tryd.zeroValue67 }
end Go.Proofs
-- By pp.py, a program of this repo, with the kit's printer: Lean checks it.
namespace Go.Proofs.YtdfgfhnbcifheaaDoor.M
open Go.RowKit Go.Proofs.YtdfgfhnbcifheaaDoorW.PrintWords Go.Proofs.YtdfgfhnbcifheaaDoorW.PrintLast Go.Proofs.YtdfgfhnbcifheaaDoorW.PrintMore
attribute [local go_sem] max2_int min2_int max_two min_two max_three min_three max_four min_four
set_option linter.unusedVariables false
set_option linter.unusedSimpArgs false

/-! ### laws_hPick: function 21 -/
def laws_hPick.f (l0 : List Int) (a1 : Int) (a2 : Int) : Option (Int) := if (l0.length : Int) = 0 then (some 0) else (if a2 ≤ 1 then (some 0) else (if 0 ≤ (Int.tmod a1 (l0.length : Int)) then (if (Int.tmod a1 (l0.length : Int)) < (l0.length : Int) then (if a2 = 0 then (none) else (some (Int.tmod (wrap64 (rd l0 (Int.tmod a1 (l0.length : Int)))) a2))) else (none)) else (none)))
set_option maxHeartbeats 8000000 in
set_option maxRecDepth 100000 in
theorem laws_hPick.calls (A0 : Option Addr) (c0 : Nat) (l0 : List Int) (a1 : Int) (a2 : Int) (r : Int) (w : World) (hr0 : Kd.C (Kd.int .u8) w A0 l0.length l0) (hc0 : l0.length ≤ c0) (h : laws_hPick.f l0 a1 a2 = some r) :
    Calls Tryd.prog 21 #[.slice A0 l0.length c0, .int .i64 a1, .int .i64 a2] w fun e w' => e = .returned (.int .i64 r) ∧ Drawn0 w w' := by
  have HR0 := Aside0.mk hr0
  have HC0 := Aside0.mk hc0
  clear hr0 hc0
  have H : (if (l0.length : Int) = 0 then (some 0) else (if a2 ≤ 1 then (some 0) else (if 0 ≤ (Int.tmod a1 (l0.length : Int)) then (if (Int.tmod a1 (l0.length : Int)) < (l0.length : Int) then (if a2 = 0 then (none) else (some (Int.tmod (wrap64 (rd l0 (Int.tmod a1 (l0.length : Int)))) a2))) else (none)) else (none)))) = some r := h
  clear h
  by_cases c4 : (l0.length : Int) = 0
  · rw [if_pos c4] at H
    have c4b0 : ((l0.length : Int) == 0) = true := beq_iff_eq.mpr c4
    have c4b1 : ((l0.length : Int) != 0) = false := bne_eq_false_iff_eq.mpr c4
    clear c4
    obtain rfl := Option.some.inj H
    go_enter Tryd.func21, Tryd.ntmps21
    go_wp2
    go_ret
    exact ⟨by first | rfl | (simp; done) | (simp [*]; done), by repeat (first | exact Drawn0.refl _ | apply Drawn0.step)⟩
  · rw [if_neg c4] at H
    have c4b0 : ((l0.length : Int) == 0) = false := beq_eq_false_iff_ne.mpr c4
    have c4b1 : ((l0.length : Int) != 0) = true := bne_iff_ne.mpr c4
    have c4b2 : ¬ (l0 = []) := fun h_ => c4 (by rw [h_]; rfl)
    by_cases c5 : a2 ≤ 1
    · rw [if_pos c5] at H
      have c5b0 : decide (a2 ≤ 1) = true := decide_eq_true c5
      clear c5
      obtain rfl := Option.some.inj H
      go_enter Tryd.func21, Tryd.ntmps21
      go_wp2
      go_ret
      exact ⟨by first | rfl | (simp; done) | (simp [*]; done), by repeat (first | exact Drawn0.refl _ | apply Drawn0.step)⟩
    · rw [if_neg c5] at H
      have c5b0 : decide (a2 ≤ 1) = false := decide_eq_false c5
      clear c5
      obtain ⟨ji6, hji6⟩ : ∃ j_ : Int, (Int.tmod a1 (l0.length : Int)) = j_ := ⟨_, rfl⟩
      replace H : (if 0 ≤ (ji6) then (if (ji6) < (l0.length : Int) then (if a2 = 0 then (none) else (some (Int.tmod (wrap64 (rd l0 (ji6))) a2))) else (none)) else (none)) = some r := by first | (rw [hji6] at H; exact H) | (simp only [hji6] at H ⊢; exact H)
      by_cases c7 : 0 ≤ (ji6)
      · rw [if_pos c7] at H
        have c7b0 : decide (0 ≤ (ji6)) = true := decide_eq_true c7
        clear c7
        by_cases c8 : (ji6) < (l0.length : Int)
        · rw [if_pos c8] at H
          have c8b0 : decide ((ji6) < (l0.length : Int)) = true := decide_eq_true c8
          clear c8
          by_cases c9 : a2 = 0
          · rw [if_pos c9] at H
            exact absurd H (by simp)
          · rw [if_neg c9] at H
            have c9b0 : (a2 == 0) = false := beq_eq_false_iff_ne.mpr c9
            have c9b1 : (a2 != 0) = true := bne_iff_ne.mpr c9
            obtain rfl := Option.some.inj H
            have p448 : 0 ≤ ((ji6) : Int) := of_decide_eq_true (by first | (with_reducible assumption) | assumption)
            have q448 : (ji6) < (l0.length : Int) := of_decide_eq_true (by first | (with_reducible assumption) | assumption)
            obtain ⟨ad448, e448, hx448_0⟩ := Kd.at_int HR0.out (ji6) p448 q448
            cases e448
            replace p448 := eq_true p448
            replace q448 := eq_true q448
            go_enter Tryd.func21, Tryd.ntmps21
            go_wp2
            go_ret
            exact ⟨by first | rfl | (simp; done) | (simp only [← hji6] <;> (first | rfl | simp)) | (simp [*]; done), by repeat (first | exact Drawn0.refl _ | apply Drawn0.step)⟩
        · rw [if_neg c8] at H
          exact absurd H (by simp)
      · rw [if_neg c7] at H
        exact absurd H (by simp)

end Go.Proofs.YtdfgfhnbcifheaaDoor.M
/- slices.SortFunc at labels by their names: the row holds them in order. -/
namespace Go.Proofs.YtdfgfhnbcifheaaDoor.M
open Go.RowKit Go.Shelf Go.Sort Go.Proofs.YtdfgfhnbcifheaaDoor.CanSort Go.Proofs.YtdfgfhnbcifheaaDoorW.PrintWords Go.Proofs.YtdfgfhnbcifheaaDoorW.PrintLast Go.Proofs.YtdfgfhnbcifheaaDoorW.PrintMore
set_option linter.unusedVariables false
set_option linter.unusedSimpArgs false
namespace Srt
/-- A label's two cells. -/
def enc (x : Lb) : List Value := [.string x.f0, .string x.f1]
set_option maxHeartbeats 1000000 in
theorem closure (x y : Lb) (W : World) : Calls Tryd.prog 31 #[.agg #[.string x.f0, .string x.f1], .agg #[.string y.f0, .string y.f1]] W fun e w' => e = .returned (.int .i64 (cf x y)) ∧ ∃ q os', w' = grow (W.drewN q) os' := by
  obtain ⟨r, hr⟩ : ∃ r, r = cf x y := ⟨_, rfl⟩
  have hc := fun W' => Tryd.strings_Compare x.f0 y.f0 W'
  have e : Lib.compareBytes x.f0.data.toList y.f0.data.toList = r := hr.symm
  rw [e] at hc
  rw [← hr]
  clear e hr
  go_enter Tryd.func31, Tryd.ntmps31
  go_wp2_with fail
  refine (hc _).mono ?_
  rintro e w' ⟨rfl, rfl⟩
  go_wp2_with fail
  go_ret
  exact ⟨rfl, 0, _, by rw [alloc_eq_grow, alloc_eq_grow, grow_grow]; rfl⟩
theorem lays (blk off size : Nat) (w : World) : CmpLays Tryd.prog 31 #[] enc 2 cf blk off size w := fun _ _ _ _ x y => closure x y _
theorem flat_seg (d : Array Lb) (j : Nat) (hj : j < d.size) : ((flatK enc 2 d).toList.drop (j * 2)).take 2 = enc d[j]! := by
  have hs : (flatK enc 2 d).size = d.size * 2 := size_flatK enc 2 d
  have g : ∀ i, i < 2 → (flatK enc 2 d).toList[j * 2 + i]? = (enc d[j]!)[i]? := by
    intro i hi
    have hlt : j * 2 + i < (flatK enc 2 d).size := by omega
    rw [Array.getElem?_toList, Array.getElem?_eq_getElem hlt, ← getElem!_pos (flatK enc 2 d) _ hlt, get_flatK enc 2 d _ (by omega), show (j * 2 + i) / 2 = j by omega, show (j * 2 + i) % 2 = i by omega]
    have : i = 0 ∨ i = 1 := by omega
    rcases this with rfl | rfl <;> rfl
  apply List.ext_getElem?
  intro i
  by_cases hi : i < 2
  · rw [List.getElem?_take_of_lt hi, List.getElem?_drop, g i hi]
  · rw [List.getElem?_eq_none (by simp; omega), List.getElem?_eq_none (by simp [enc]; omega)]
theorem put_take (F cur : Array Value) (h : F.size ≤ cur.size) : (putCells id 0 F cur).toList.take F.size = F.toList := by
  apply List.ext_getElem?
  intro i
  by_cases hi : i < F.size
  · rw [List.getElem?_take_of_lt hi, Array.getElem?_toList, Array.getElem?_toList]
    unfold putCells
    rw [Array.getElem?_mapIdx, Array.getElem?_eq_getElem (by omega), Array.getElem?_eq_getElem hi]
    simp only [Option.map_some, Nat.zero_add, Nat.sub_zero, id]
    rw [if_pos ⟨Nat.zero_le _, hi⟩, getElem!_pos F i hi]
  · rw [List.getElem?_eq_none (by simp; omega), List.getElem?_eq_none (by simp; omega)]
theorem put_size (F cur : Array Value) : (putCells id 0 F cur).size = cur.size := by unfold putCells; simp
theorem reps_flat {w : World} {base : Nat} {ok : Nat → Prop} (d : Array Lb) : Reps (k38.M w base ok) k38.sz d.toList (flatK enc 2 d).toList := by
  refine ⟨by rw [Array.length_toList, Array.length_toList, size_flatK]; rfl, fun j p hp => ?_⟩
  have hj : j < d.size := by
    have := (List.getElem?_eq_some_iff.1 hp).1
    simpa using this
  have e : d[j]! = p := by
    rw [getElem!_pos d j hj]
    rw [Array.getElem?_toList, Array.getElem?_eq_getElem hj] at hp
    exact Option.some.inj hp
  rw [show k38.sz = 2 from rfl, flat_seg d j hj, e]
  exact k38_mkM w base ok p
theorem reps_eq {w : World} {base : Nat} {ok : Nat → Prop} (d : Array Lb) (inner : List Value) (h : Reps (k38.M w base ok) k38.sz d.toList inner) (t : Nat) (ht : t < d.size * 2) : inner[t]? = some (flatK enc 2 d)[t]! := by
  have hj : t / 2 < d.size := by omega
  have hp : d.toList[t / 2]? = some d[t / 2]! := by rw [Array.getElem?_toList, Array.getElem?_eq_getElem hj, getElem!_pos d _ hj]
  have h2 := k38_openM (h.2 (t / 2) _ hp)
  have h3 : ((inner.drop (t / 2 * 2)).take 2)[t % 2]? = (enc d[t / 2]!)[t % 2]? := congrArg (fun l : List Value => l[t % 2]?) h2
  rw [List.getElem?_take_of_lt (by omega), List.getElem?_drop, show t / 2 * 2 + t % 2 = t by omega] at h3
  rw [h3, get_flatK enc 2 d t ht]
  have : t % 2 = 0 ∨ t % 2 = 1 := by omega
  rcases this with h | h <;> rw [h] <;> rfl
end Srt
/-- What the sort leaves (told where no name stands twice). -/
noncomputable def impl_Label_30.f (l : List S38) : Option (List S38) := @ite _ (CanSort.Once l ∧ l.length < 4611686018427387904) (Classical.propDecidable _) (some (CanSort.order l)) none
set_option maxHeartbeats 1000000 in
theorem impl_Label_30.calls (P0 : Nat → Prop) (u : Value) (l r : List S38) (w0 w : World) (hB : Below w0.heap.size w0 w) (ho : Kd.R k38 38 w w0.heap.size P0 u l)
    (h : impl_Label_30.f l = some r) :
    Calls Tryd.prog 30 #[u, .func (.func 31) #[] #[]] w fun e w' => e = .returned (.tuple #[]) ∧ Kd.R k38 38 w' w0.heap.size (fun k => P0 k ∨ w.heap.size ≤ k) u r ∧ Below w0.heap.size w0 w' ∧ Kept w w' (fun k => P0 k) := by
  unfold impl_Label_30.f at h
  by_cases hz : CanSort.Once l ∧ l.length < 4611686018427387904
  · rw [if_pos hz] at h
    obtain rfl := Option.some.inj h
    obtain ⟨hok, inner, hown, hreps⟩ := ho
    rcases hown.2 with ⟨rfl, hn⟩ | ⟨g, cap, cur, rfl, hbg, hx, hcap, hmax, hcs, htk⟩
    · obtain rfl : l = [] := List.length_eq_zero_iff.1 hn
      refine (AnyF.slices_SortFunc_none Tryd.sortL none 0 (.func (.func 31) #[] #[]) w).mono ?_
      rintro e w' ⟨rfl, rfl⟩
      exact ⟨rfl, Kd.R_nil _ _ _ _ _, hB, Kept.refl _ _⟩
    · obtain ⟨d, hd⟩ : ∃ d : Array S38, d.toList = l := ⟨l.toArray, by simp⟩
      subst hd
      have hlen : d.toList.length = d.size := Array.length_toList
      have hglt : g < w.heap.size := blk_lt hx
      have hil : inner.length = d.size * 2 := by rw [hown.1, hlen]; rfl
      have hH : HoldsK Srt.enc 2 w g 0 d := by
        intro t ht
        rw [size_flatK] at ht
        have h1 := Srt.reps_eq d inner hreps t ht
        have h2 : cur.toList[t]? = some (flatK Srt.enc 2 d)[t]! := by
          rw [← htk, List.getElem?_take_of_lt (by rw [hlen]; exact ht)] at h1
          exact h1
        refine ⟨?_, blk_frozen hx _⟩
        rw [Nat.zero_add]
        refine (blk_cell hx t).trans ?_
        rw [← Array.getElem?_toList, h2]; rfl
      have eg : ∀ args w, (callFunc 31 args).run Tryd.prog w = .ok (.enter 31 args) w := enters_of Tryd.func31 (by kernel_rfl) rfl
      have hcon := AnyQ.slices_SortFunc Tryd.sortL 2 Tryd.isAgg38 Tryd.sizeOf38 Srt.enc (fun _ => rfl) (fun x v hv => by simp [Srt.enc] at hv; rcases hv with rfl | rfl <;> rfl) cf swo 31 #[] g 0 cap d w eg (Srt.lays g 0 d.size w) hH hglt (by rw [← hlen]; exact hz.2)
      rw [hlen]
      refine Calls.mono hcon ?_
      rintro e w' ⟨rfl, d', n, os, hp, hs, rfl⟩
      have hord := sorted_order d d' hp hs hz.1
      have hd' : d'.size = d.size := hp.1
      have hw : ∀ k, k < w.heap.size → (sortWorldK Srt.enc 2 w g 0 n d' os).heap[k]? = if k = g then some (.cells (putCells id 0 (flatK Srt.enc 2 d') cur) 38 (0, 0)) else w.heap[k]? := by
        intro k hk
        show ((w.heap.modify g (onCells (putCells id 0 (flatK Srt.enc 2 d')))) ++ os)[k]? = _
        rw [Array.getElem?_append_left (by simpa using hk), Array.getElem?_modify]
        by_cases hkg : g = k
        · subst hkg
          rw [if_pos rfl, if_pos rfl, hx]; rfl
        · rw [if_neg hkg, if_neg (fun e => hkg e.symm)]
      have hsz : w.heap.size ≤ (sortWorldK Srt.enc 2 w g 0 n d' os).heap.size := by
        show _ ≤ ((w.heap.modify g (onCells (putCells id 0 (flatK Srt.enc 2 d')))) ++ os).size
        simp
      have hf : (flatK Srt.enc 2 d').size = d.size * 2 := by rw [size_flatK, hd']
      have hge : w0.heap.size ≤ g := hbg
      refine ⟨rfl, ⟨fun k hk => .inl (hok k hk), (flatK Srt.enc 2 d').toList, ⟨?_, .inr ⟨g, cap, putCells id 0 (flatK Srt.enc 2 d') cur, ?_, hbg, ?_, ?_, hmax, ?_, ?_⟩⟩, ?_⟩, ⟨hB.os, hB.tape, hB.output, Nat.le_trans hB.size hsz, fun k hk => ?_⟩, ⟨hsz, fun k hk hn => ?_⟩⟩
      · rw [← hord, Array.length_toList, Array.length_toList, hf, hd']; rfl
      · rw [← hord, Array.length_toList, hd']
      · rw [hw g hglt, if_pos rfl]
      · rw [← hord, Array.length_toList, hd']; rw [hlen] at hcap; exact hcap
      · rw [Srt.put_size]; exact hcs
      · rw [← hord, Array.length_toList, show d'.size * k38.sz = (flatK Srt.enc 2 d').size by rw [size_flatK]; rfl]
        exact Srt.put_take _ _ (by rw [hf, hcs, show k38.sz = 2 from rfl]; rw [hlen] at hcap; omega)
      · rw [← hord]; exact Srt.reps_flat d'
      · have hkw : k < w.heap.size := Nat.lt_of_lt_of_le hk hB.size
        rw [hw k hkw, if_neg (by omega)]
        exact hB.block k hk
      · rw [hw k hk, if_neg (fun e => hn (by subst e; exact hok _ (by simp [Value.ownBlock])))]
  · rw [if_neg hz] at h; cases h
end Go.Proofs.YtdfgfhnbcifheaaDoor.M
