/- Some of this seat's texts, joined by prune.py. -/
import Derived.Test.YtogoblkehdmapaaDoorTie
import Derived.Test.YtogoblkehdmapaaDoorXLift
import Derived.LaidLaws
import Derived.Lib.LaidU8
import Derived.Test.YtogoblkehdmapaaDoorM0
/- The variable errShape, as the rows list it: what a walk reads; a world that holds it. -/
namespace Go.Proofs.YtogoblkehdmapaaDoor.Laid
open Go Go.Lib Go.Proofs Go.Proofs.YtogoblkehdmapaaDoor.M
theorem tabs {W : World} (h : laidMet Tryd.prog [("loop.example/s02176/impl.errShape", Rows.laid_loop_example_s02176_impl_errShape)] W) : Tabs W := by
  have hv : VarReads Tryd.prog W "loop.example/s02176/impl.errShape" Rows.laid_loop_example_s02176_impl_errShape := laidMet.reads h (by simp)
  obtain ⟨g, t, cs, fuel, p, hg, hty, hvar, hd⟩ := hv
  obtain rfl : 0 = g := Option.some.inj ((show Tryd.prog.globalNamed "loop.example/s02176/impl.errShape" = some 0 by kernel_rfl).symm.trans hg)
  obtain rfl : 77 = t := Option.some.inj ((show (Tryd.prog.globals[0]?).map (·.type) = some 77 by kernel_rfl).symm.trans hty)
  obtain ⟨f', u, v, hcs, _, _⟩ := iface_of_trod Tryd.underlying77 hd
  refine ⟨u, v, ?_⟩
  unfold Bat.Shp
  rw [World.var?_cell hg hvar 0, ← Array.getElem?_toList, hcs]
  rfl
def putRow_ (cs : Array Value) : Obj → Obj
  | .cells _ t frozen => .cells cs t frozen
  | o => o
noncomputable def holds (os : Os) : World := World.holding Tryd.prog os ⟨#[], #[], []⟩
/-- A world for the witness: the settled one; the variable's block holds a pointer to a block of its own. -/
noncomputable def laidWorld (os : Os) : World :=
  { holds os with heap := ((holds os).heap.modify 0 (putRow_ #[.iface 146 (.pointer (some ⟨(holds os).heap.size, 0, none⟩))])).push (.cells #[.string ⟨#[97, 110, 111, 116, 104, 101, 114, 32, 115, 104, 97, 112, 101]⟩] 148 (0, 0)) }
end Go.Proofs.YtogoblkehdmapaaDoor.Laid
-- By pp.py, a program of this repo, with the kit's printer: Lean checks it.
namespace Go.Proofs.YtogoblkehdmapaaDoor.M
open Go.RowKit Go.Proofs.YtogoblkehdmapaaDoorW.PrintWords Go.Proofs.YtogoblkehdmapaaDoorW.PrintLast Go.Proofs.YtogoblkehdmapaaDoorW.PrintMore
attribute [local go_sem] max2_int min2_int max_two min_two max_three min_three max_four min_four
set_option linter.unusedVariables false
set_option linter.unusedSimpArgs false

/-! ### spec_l1Between: function 19 -/
def spec_l1Between.f (a0 : Int) (a1 : Int) (a2 : Int) : Option (Bool) := if a1 ≤ a0 then (some (decide (a0 ≤ a2))) else (some false)
set_option maxHeartbeats 8000000 in
set_option maxRecDepth 100000 in
theorem spec_l1Between.calls (a0 : Int) (a1 : Int) (a2 : Int) (r : Bool) (w : World) (h : spec_l1Between.f a0 a1 a2 = some r) :
    Calls Tryd.prog 19 #[.int .i64 a0, .int .i64 a1, .int .i64 a2] w fun e w' => e = .returned (.bool r) ∧ Drawn0 w w' := by
  have H : (if a1 ≤ a0 then (some (decide (a0 ≤ a2))) else (some false)) = some r := h
  clear h
  by_cases c4 : a1 ≤ a0
  · rw [if_pos c4] at H
    have c4b0 : decide (a1 ≤ a0) = true := decide_eq_true c4
    clear c4
    obtain rfl := Option.some.inj H
    go_enter Tryd.func19, Tryd.ntmps19
    go_wp2
    go_ret
    exact ⟨by first | rfl | (simp; done) | (simp [*]; done), by repeat (first | exact Drawn0.refl _ | apply Drawn0.step)⟩
  · rw [if_neg c4] at H
    have c4b0 : decide (a1 ≤ a0) = false := decide_eq_false c4
    clear c4
    obtain rfl := Option.some.inj H
    go_enter Tryd.func19, Tryd.ntmps19
    go_wp2
    go_ret
    exact ⟨by first | rfl | (simp; done) | (simp [*]; done), by repeat (first | exact Drawn0.refl _ | apply Drawn0.step)⟩

end Go.Proofs.YtogoblkehdmapaaDoor.M
