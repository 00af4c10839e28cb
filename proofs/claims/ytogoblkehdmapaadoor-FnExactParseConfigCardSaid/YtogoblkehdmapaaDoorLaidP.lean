/- What FnExactParseConfig's row gives: bytealg's variable holds a number (of the world's shape). -/
import Derived.Test.YtogoblkehdmapaaDoorTie
import Derived.Test.YtogoblkehdmapaaDoorXSplit
import Derived.LaidLaws
import Derived.Lib.LaidU8
namespace Go.Proofs.YtogoblkehdmapaaDoor.Laid
open Go Go.Lib Go.Proofs Go.Proofs.YtogoblkehdmapaaDoor.M
theorem tabs {W : World} (h : W.ShapedOpen Tryd.prog) : Tabs W := by
  obtain ⟨m, hm⟩ := Go.Proofs.cell_of_shapedOpen_int (P := Tryd.prog) (g := 1) (zero := #[.int .i64 0]) (t := 3) h (of_decide_eq_true (by kernel_rfl)) (by kernel_rfl) rfl (by kernel_rfl) (by kernel_rfl) Tryd.underlying3
  refine ⟨?_, m, hm⟩
  rcases Nat.lt_or_ge 1 W.heap.size with h1 | h1
  · exact h1
  · have : W.heap[1]? = none := Array.getElem?_eq_none h1
    simp [World.cell?, this] at hm
def putRow_ (cs : Array Value) : Obj → Obj
  | .cells _ t frozen => .cells cs t frozen
  | o => o
def cell1 : DataW Unit → List Value
  | .lit (.int k n) => [.int k n]
  | _ => []
def cell2 : DataW Unit → List Value
  | .agg l => l.flatMap cell1
  | d => cell1 d
/-- The cells that a datum of numbers is. -/
def cellsD : DataW Unit → Array Value
  | .agg l => (l.flatMap cell2).toArray
  | _ => #[]
noncomputable def holds (os : Os) : World := World.holding Tryd.prog os ⟨#[], #[], []⟩
/-- A world for the witness: the settled one; the tables' blocks hold what their initialisers lay, the two errors point to blocks of their own. -/
noncomputable def laidWorld (os : Os) : World :=
  { holds os with heap := (((((((((holds os).heap.modify 2 (putRow_ (cellsD Rows.laid_unicode_utf8_first))).modify 3 (putRow_ (cellsD Rows.laid_unicode_utf8_acceptRanges))).modify 6 (putRow_ (cellsD Rows.laid_internal_strconv_uint64pow10))).modify 7 (putRow_ (cellsD Rows.laid_math_bits_deBruijn32tab))).modify 8 (putRow_ (cellsD Rows.laid_math_bits_deBruijn64tab))).modify 4 (putRow_ #[.iface 146 (.pointer (some ⟨(holds os).heap.size, 0, none⟩))])).modify 5 (putRow_ #[.iface 146 (.pointer (some ⟨(holds os).heap.size + 1, 0, none⟩))])).push (.cells #[.string ⟨#[105, 110, 118, 97, 108, 105, 100, 32, 115, 121, 110, 116, 97, 120]⟩] 148 (0, 0))).push (.cells #[.string ⟨#[118, 97, 108, 117, 101, 32, 111, 117, 116, 32, 111, 102, 32, 114, 97, 110, 103, 101]⟩] 148 (0, 0)) }
end Go.Proofs.YtogoblkehdmapaaDoor.Laid
