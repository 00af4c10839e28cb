/- Some of this seat's texts, joined by prune.py. -/
import Derived.Test.YtogoblkehdmapaaDoorM0
import Derived.Test.YtogoblkehdmapaaDoorF47
import Derived.Test.YtogoblkehdmapaaDoorF20
import Derived.Test.YtogoblkehdmapaaDoorF19
import Derived.Test.YtogoblkehdmapaaDoorTie
import Derived.Test.YtogoblkehdmapaaDoorXLift
import Derived.LaidLaws
import Derived.Lib.LaidU8
import Derived.Lib.SmallJoins
import Derived.Test.YtogoblkehdmapaaDoorF22
import Derived.Test.YtogoblkehdmapaaDoorF32
/- Some of this seat's texts, joined by prune.py. -/
/- Some of this seat's texts, joined by prune.py. -/
/- Some of this seat's texts, joined by prune.py. -/
-- By pp.py, a program of this repo, with the kit's printer: Lean checks it.
namespace Go.Proofs.YtogoblkehdmapaaDoor.M
open Go.RowKit Go.Proofs.YtogoblkehdmapaaDoorW.PrintWords Go.Proofs.YtogoblkehdmapaaDoorW.PrintLast Go.Proofs.YtogoblkehdmapaaDoorW.PrintMore
attribute [local go_sem] max2_int min2_int max_two min_two max_three min_three max_four min_four
set_option linter.unusedVariables false
set_option linter.unusedSimpArgs false

open Go.Proofs.YtogoblkehdmapaaDoor.Opn
instance : Inhabited S73 := ⟨z73⟩
end Go.Proofs.YtogoblkehdmapaaDoor.M
/- Some of this seat's texts, joined by prune.py. -/
/- A list's weight, counted down from what is left: plain. -/
namespace Go.Proofs.YtogoblkehdmapaaDoor.Loops
open Go.RowKit Go.Proofs.YtogoblkehdmapaaDoorW.PrintWords
end Go.Proofs.YtogoblkehdmapaaDoor.Loops
/- Small plain facts: the reference's l1Between; the size of a text. -/
namespace Go.Proofs.YtogoblkehdmapaaDoor.FramePlain
open Go.Proofs.YtogoblkehdmapaaDoor.M Go.Proofs.YtogoblkehdmapaaDoorW.PrintWords Go.Proofs.YtogoblkehdmapaaDoorW.PrintLast Go.RowKit
theorem between_eq (a b c : Int) : spec_l1Between.f a b c = some (decide (b ≤ a ∧ a ≤ c)) := by
  unfold spec_l1Between.f
  by_cases h : b ≤ a
  · rw [if_pos h]; simp [h]
  · rw [if_neg h]; simp [h]
end Go.Proofs.YtogoblkehdmapaaDoor.FramePlain
/- The variable errShape, as the rows list it: what a walk reads; a world that holds it. -/
namespace Go.Proofs.YtogoblkehdmapaaDoor.Laid
open Go Go.Lib Go.Proofs Go.Proofs.YtogoblkehdmapaaDoor.M
theorem tabs {W : World} (h : laidMet Tryd.prog [("loop.example/s02176/impl.errShape", Rows.laid_loop_example_s02176_impl_errShape)] W) : Tabs W := by
  have hv : VarReads Tryd.prog W "loop.example/s02176/impl.errShape" Rows.laid_loop_example_s02176_impl_errShape := laidMet.reads h (by simp)
  obtain ⟨g, t, cs, fuel, p, hg, hty, hvar, hd⟩ := hv
  obtain rfl : 0 = g := Option.some.inj ((show Tryd.prog.globalNamed "loop.example/s02176/impl.errShape" = some 0 by kernel_rfl).symm.trans hg)
  obtain rfl : 77 = t := Option.some.inj ((show (Tryd.prog.globals[0]?).map (·.type) = some 77 by kernel_rfl).symm.trans hty)
  obtain ⟨f', u, v, hcs, _, _⟩ := iface_of_trod Tryd.underlying77 hd
  refine ⟨u, v, ?_⟩
  unfold Bat.Shp
  rw [World.var?_cell hg hvar 0, ← Array.getElem?_toList, hcs]
  rfl
def putRow_ (cs : Array Value) : Obj → Obj
  | .cells _ t frozen => .cells cs t frozen
  | o => o
noncomputable def holds (os : Os) : World := World.holding Tryd.prog os ⟨#[], #[], []⟩
/-- A world for the witness: the settled one; the variable's block holds a pointer to a block of its own. -/
noncomputable def laidWorld (os : Os) : World :=
  { holds os with heap := ((holds os).heap.modify 0 (putRow_ #[.iface 146 (.pointer (some ⟨(holds os).heap.size, 0, none⟩))])).push (.cells #[.string ⟨#[97, 110, 111, 116, 104, 101, 114, 32, 115, 104, 97, 112, 101]⟩] 148 (0, 0)) }
end Go.Proofs.YtogoblkehdmapaaDoor.Laid
/- (*source).num: the number that the next bytes give, high byte first; what is missing is short. -/
namespace Go.Proofs.YtogoblkehdmapaaDoor.M
open Go.RowKit Go.Proofs.YtogoblkehdmapaaDoorW.PrintWords Go.Proofs.YtogoblkehdmapaaDoorW.PrintLast Go.Proofs.YtogoblkehdmapaaDoorW.PrintMore
set_option linter.unusedVariables false
set_option linter.unusedSimpArgs false
namespace SrcNum
/-- The number of the first k bytes of t. -/
def upto (t : ByteArray) : Nat → Int
  | 0 => 0
  | k + 1 => Go.bits .or .i64 (wrap64 (upto t k * 256)) (wrap64 (bt t (k : Int)))
end SrcNum
def impl_source_num.f (s0_0 : ByteArray) (a1 : Int) : Option (Int × ByteArray) := (impl_source_text.f s0_0 a1).bind fun t => if t.1.size ≤ 9223372036854775807 then some (SrcNum.upto t.1 t.1.size, t.2) else none
open SrcNum in
set_option maxHeartbeats 2000000 in
set_option maxRecDepth 100000 in
theorem impl_source_num.calls (g : Nat) (s0_0 : ByteArray) (a1 : Int) (r1 : Int) (r2 : ByteArray) (w0 w : World) (hI : IsS59 w0 w g s0_0) (hB : Below w0.heap.size w0 w) (h : impl_source_num.f s0_0 a1 = some (r1, r2)) :
    Calls Tryd.prog 29 #[.pointer (some ⟨g, 0, none⟩), .int .i64 a1] w fun e w' => e = .returned (.int .i64 r1) ∧ IsS59 w0 w' g r2 ∧ Below w0.heap.size w0 w' ∧ KeepBut w w' g none := by
  unfold impl_source_num.f at h
  obtain ⟨⟨t1, t2⟩, ht, h⟩ := Option.bind_eq_some_iff.mp h
  have hz : t1.size ≤ 9223372036854775807 := by
    by_cases hz : t1.size ≤ 9223372036854775807
    · exact hz
    · rw [if_neg hz] at h; cases h
  rw [if_pos hz] at h
  obtain ⟨hr1, hr2⟩ := Prod.mk.inj (Option.some.inj h)
  have HR1 := Aside0.mk hr1
  dsimp only at hr2
  subst hr2
  clear h hr1
  have HT := Aside0.mk ht
  clear ht
  have HIw := Aside0.mk hI
  have HBw := Aside0.mk hB
  clear hI hB
  go_enter Tryd.func29, Tryd.ntmps29
  go_wp2_with fail
  refine (impl_source_text.calls g s0_0 a1 t1 t2 w0 w HIw.out HBw.out HT.out).mono ?_
  rintro e w1 ⟨rfl, hi, hb, hk⟩
  have HI := Aside0.mk hi
  have HB := Aside0.mk hb
  have HK := Aside0.mk hk
  clear hi hb hk
  have hcv := Lib.run_convert_string_bytes (P := Tryd.prog) w1 9 44 5 t1 Tryd.underlying9 Tryd.underlying44 Tryd.underlying5
  go_wp2_with fail
  have HC := Aside0.mk (bytes_reads w1 5 t1 hz)
  have HB2 := Aside0.mk (Joins.below_bytesWorld w1.heap.size w1 5 t1 (Nat.le_refl _))
  clear hcv
  generalize Lib.bytesWorld w1 5 t1 = W2 at HC HB2 ⊢
  go_loop [5, 13] (fun v i => ∃ k : Nat, k ≤ t1.size ∧ i = .int .i64 k ∧ v = .int .i64 (upto t1 k)) (fun _ i => t1.size - (intOf i).toNat)
  case atStart => exact ⟨0, by omega, by simp, rfl⟩
  case round =>
    obtain ⟨k, hk, rfl, rfl⟩ := hrel
    obtain hk5 | hk6 : t1.size ≤ k ∨ k < t1.size := by omega
    · obtain rfl : k = t1.size := by omega
      go_wp2
      go_ret
      exact ⟨by rw [← HR1.out]; rfl, HI.out.below HB2.out, below_then HB.out HB.out.size HB2.out, KeepBut.trans HK.out (KeepBut.of_below HB2.out g none) (.inl rfl)⟩
    · obtain ⟨ad, e, hcell⟩ := HC.out.at_ (k : Int) (by omega) (by omega)
      obtain rfl : (⟨w1.heap.size, 0, none⟩ : Addr) = ad := by injection e
      rw [rd_bytesOf, add_plain, Int.toNat_natCast] at hcell
      clear e
      go_wp2
      go_round
      case rel => exact ⟨k + 1, by omega, by go_num, rfl⟩
      case measure => simp [intOf]; omega
end Go.Proofs.YtogoblkehdmapaaDoor.M
-- By pp.py, a program of this repo, with the kit's printer: Lean checks it.
namespace Go.Proofs.YtogoblkehdmapaaDoor.M
open Go.RowKit Go.Proofs.YtogoblkehdmapaaDoorW.PrintWords Go.Proofs.YtogoblkehdmapaaDoorW.PrintLast Go.Proofs.YtogoblkehdmapaaDoorW.PrintMore
attribute [local go_sem] max2_int min2_int max_two min_two max_three min_three max_four min_four
set_option linter.unusedVariables false
set_option linter.unusedSimpArgs false

/-! ### laws_markBatch: function 13 -/
def laws_markBatch.f (k : Nat) (a0_0 : Int) (l0_1 : List (S47)) (a1 : Int) : Option (Int × (List (S47))) := (laws_markRecS.f k l0_1 a1).bind fun bt205 => (some (bt205.1, bt205.2))
theorem laws_markBatch.mono : ∀ a0 a1 a2 k, LeO (laws_markBatch.f k a0 a1 a2) (laws_markBatch.f (k + 1) a0 a1 a2) := by
  intro a0 a1 a2 k
  unfold laws_markBatch.f
  repeat' first
      | (with_reducible exact laws_markRecS.mono _ _ _)
      | (with_reducible exact LeO.refl _)
      | (with_reducible exact LeO.none _)
      | (with_reducible refine LeO.ite ?_ ?_)
      | (with_reducible refine LeO.bind ?_ (fun _ => ?_))
      | exact laws_markRecS.mono _ _ _
      | exact LeO.none _
      | refine LeO.ite ?_ ?_
      | refine LeO.bind ?_ (fun _ => ?_)
set_option maxHeartbeats 8000000 in
set_option maxRecDepth 100000 in
theorem laws_markBatch.calls (k : Nat) (a0_0 : Int) (P0_1_ : Nat → Prop) (u9000_ : Value) (l0_1 : List (S47)) (a1 : Int) (r1 : Int) (r2 : List (S47)) (w0 w : World) (hB : Below w0.heap.size w0 w) (ho0_1 : Kd.R k47 47 w w0.heap.size P0_1_ u9000_ l0_1) (h : laws_markBatch.f k a0_0 l0_1 a1 = some (r1, r2)) :
    Calls Tryd.prog 13 #[.agg #[.int .i64 a0_0, u9000_], .int .i64 a1] w fun e w' => e = .returned (.int .i64 r1) ∧ Kd.R k47 47 w' w0.heap.size (fun k_ => (P0_1_ k_ ∨ w.heap.size ≤ k_)) u9000_ r2 ∧ Below w0.heap.size w0 w' ∧ Kept w w' (fun k_ => P0_1_ k_) := by
  have hu29 := Tryd.underlying29
  have HO0_1 := Aside0.mk (show Kd.R k47 47 w w0.heap.size (fun k_ => (P0_1_ k_ ∨ w.heap.size ≤ k_)) u9000_ l0_1 from Kd.R_mono ho0_1 (fun k_ hk => (.inl hk)))
  have HK := Aside0.mk (Kept.refl w (fun k_ => P0_1_ k_))
  have HW0 := Aside0.mk hB.size
  have HB := Aside0.mk hB
  clear hB
  have H : ((laws_markRecS.f k l0_1 a1).bind fun bt205 => (some (bt205.1, bt205.2))) = some (r1, r2) := h
  clear h
  replace H := Option.bind_eq_some_iff.mp H
  obtain ⟨⟨t205, t206⟩, A30, H⟩ := H
  replace H : (some (t205, t206)) = some (r1, r2) := H
  have A3 := Aside0.mk A30
  clear A30
  simp only [Option.some.injEq, Prod.mk.injEq] at H
  obtain ⟨rfl, rfl⟩ := H
  obtain ⟨Ao4, co4, eo4⟩ := Kd.R_slice HO0_1.out
  subst eo4
  go_enter Tryd.func13, Tryd.ntmps13
  go_wp2_with (first | ((with_reducible refine gate_dst (N := 2) rfl ?_); refine box_event ?hg (N := 2) ?hd (cs := #[.int .i64 a0_0, .slice Ao4 l0_1.length co4]) (t := 29) ?hr ?_; (case hd => rfl); (case hg => rfl); (case hr => first | (go_simp; done) | (go_simp; rfl)); intro gb204 hg w5 hbox hb; have n0_ := Aside0.mk (Kd.R_below (by (with_reducible repeat (first | apply Kd.R_alloc | apply Kd.R_drewN | apply Kd.R_drew)); exact HO0_1.out) hb); have n1_ := Aside0.mk (Kept.below (S := (fun k_ => P0_1_ k_)) (by repeat (first | (with_reducible first | exact HK.out | apply Kept.alloc | apply Kept.drewN | apply Kept.drew) | exact HK.out)) hb); have n2_ := Aside0.mk (below_step (by repeat (first | (with_reducible first | exact HB.out | apply below_alloc | apply pw_below_drewN | apply below_drew1) | exact HB.out)) hb); have n3_ := Aside0.mk (hbox); have n4_ := Aside0.mk ((by rw [hg]; exact (by first | exact HK.out.1 | exact (show Kept w _ (fun k_ => P0_1_ k_) from by repeat (first | (with_reducible first | exact HK.out | apply Kept.alloc | apply Kept.drewN | apply Kept.drew) | exact HK.out)).1) : w.heap.size ≤ gb204)); have n5_ := Aside0.mk ((by rw [hg]; exact (below_size (by repeat (first | (with_reducible first | exact HB.out | apply below_alloc | apply pw_below_drewN | apply below_drew1) | exact HB.out))) : w0.heap.size ≤ gb204)); clear HO0_1; clear HK; clear HB; have HO0_1 := n0_; have HK := n1_; have HB := n2_; have BK204 := n3_; have GW204 := n4_; have GE204 := n5_; clear n0_ n1_ n2_ n3_ n4_ n5_; clear hb hbox hg; have hcz6_0 : w5.cell? ⟨gb204, 0, none⟩ = some (.int .i64 a0_0) := (blk_cell BK204.out 0).trans rfl; have hcz6_1 : w5.cell? ⟨gb204, 1, none⟩ = some (.slice Ao4 l0_1.length co4) := (blk_cell BK204.out 1).trans rfl; have hfz6_0 := blk_frozen BK204.out 0; have hfz6_1 := blk_frozen BK204.out 1) | ((with_reducible refine gate_callee (f := 32) rfl ?_); refine goesL_ (some 8) rfl rfl Tryd.func32 (by kernel_rfl) rfl #[.slice Ao4 l0_1.length co4, .int .i64 a1] rfl (by (try simp only [List.map_toArray, List.map_cons, List.map_nil]); first | done | rfl | (simp only [List.length_drop, List.length_take]; rfl)) ?_; (with_reducible refine (laws_markRecS.calls k (fun k_ => some k_ = (.slice Ao4 l0_1.length co4 : Value).ownBlock) (.slice Ao4 l0_1.length co4) l0_1 a1 t205 t206 w0 _ ?side1 ?side2 A3.out).mono ?_); (case side1 => repeat (first | (with_reducible first | exact HB.out | apply below_alloc | apply pw_below_drewN | apply below_drew1 | refine below_set ?_ GE204.out) | exact HB.out)); (case side2 => exact Kd.R_tight rfl HO0_1.out); rintro e w7 ⟨rfl, hy0, hb, hkp⟩; refine ⟨_, rfl, ?_⟩; have n0_ := Aside0.mk (Kd.R_reok rfl hy0 (fun k_ e_ => HO0_1.out.1 k_ e_)); have n1_ := Aside0.mk (blk_kept (by (with_reducible repeat (first | refine blk_drewN ?_ _ | refine blk_drew ?_ | refine blk_alloc ?_ _)); exact BK204.out) hkp (fun hs_ => (fun e_ => (Kd.R_ne HO0_1.out BK204.out (by decide)) e_) hs_)); have n2_ := Aside0.mk (Kept.then_ (S := (fun k_ => P0_1_ k_)) (by repeat (first | (with_reducible first | exact HK.out | apply Kept.alloc | apply Kept.drewN | apply Kept.drew | refine Kept.setCell ?_ (.inr GW204.out) _) | exact HK.out)) hkp (fun k_ hs_ => (fun e_ => (HO0_1.out.1 k_ e_.symm)) hs_)); have n3_ := Aside0.mk (hb); clear HO0_1; clear BK204; clear HK; clear HB; have HO0_1 := n0_; have BK204 := n1_; have HK := n2_; have HB := n3_; clear n0_ n1_ n2_ n3_; (try clear hb); (try clear hkp); (try clear hy0)))
  go_ret
  exact ⟨by first | rfl | (simp [errW_none, errW_some] <;> rfl) | (simp [*, errW_none, errW_some] <;> rfl), by (with_reducible repeat (first | apply Kd.R_alloc | apply Kd.R_drewN | apply Kd.R_drew)); exact HO0_1.out, by repeat (first | (with_reducible first | exact HB.out | apply below_alloc | apply pw_below_drewN | apply below_drew1 | refine below_set ?_ GE204.out) | exact HB.out), by repeat (first | (with_reducible first | exact HK.out | apply Kept.alloc | apply Kept.drewN | apply Kept.drew | refine Kept.setCell ?_ (.inr GW204.out) _) | exact HK.out)⟩

end Go.Proofs.YtogoblkehdmapaaDoor.M
