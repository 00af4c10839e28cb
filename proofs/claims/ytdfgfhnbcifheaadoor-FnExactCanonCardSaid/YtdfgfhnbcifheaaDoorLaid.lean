/- The two tables of unicode/utf8, as the rows list them: what a walk reads; a world that holds them. -/
import Derived.Test.YtdfgfhnbcifheaaDoorTie
import Derived.Test.YtdfgfhnbcifheaaDoorXVf
import Derived.LaidLaws
import Derived.Lib.LaidU8
namespace Go.Proofs.YtdfgfhnbcifheaaDoor.Laid
open Go Go.Lib Go.Proofs Go.Proofs.YtdfgfhnbcifheaaDoor.M
theorem extra : U8Extra Tryd.prog Tryd.lays260_ren where
  n3 := by kernel_rfl
  n4 := by kernel_rfl
  y3 := by kernel_rfl
  y4 := by kernel_rfl
  c5 := by kernel_rfl
  c119 := by kernel_rfl
  c138 := by kernel_rfl
theorem first_eq : Rows.laid_unicode_utf8_first = firstData := by kernel_rfl
theorem accept_eq : (Rows.laid_unicode_utf8_acceptRanges : DataW Unit) = acceptData := by kernel_rfl
theorem tabs {W : World} (h : laidMet Tryd.prog [("unicode/utf8.acceptRanges", Rows.laid_unicode_utf8_acceptRanges), ("unicode/utf8.first", Rows.laid_unicode_utf8_first)] W) : Tabs W := by
  rw [first_eq, accept_eq] at h
  exact utf8Tabs_of_reads Tryd.lays260 extra (laidMet.reads h (by simp)) (laidMet.reads h (by simp))
/-- The cells of the two tables. -/
def firstCells : Array Value := (firstTab.map fun z => Value.int .u8 z).toArray
def acceptCells : Array Value := ((List.range 16).flatMap fun i => [Value.int .u8 (accLo i), Value.int .u8 (accHi i)]).toArray
def putRow_ (cs : Array Value) : Obj → Obj
  | .cells _ t frozen => .cells cs t frozen
  | o => o
/-- A world for the witness: the settled one, the tables' blocks hold what their initialisers lay. -/
noncomputable def laidWorld (os : Os) : World :=
  { World.holding Tryd.prog os ⟨#[], #[], []⟩ with heap := ((World.holding Tryd.prog os ⟨#[], #[], []⟩).heap.modify (Tryd.lays260_ren.g 3) (putRow_ firstCells)).modify (Tryd.lays260_ren.g 4) (putRow_ acceptCells) }
end Go.Proofs.YtdfgfhnbcifheaaDoor.Laid
