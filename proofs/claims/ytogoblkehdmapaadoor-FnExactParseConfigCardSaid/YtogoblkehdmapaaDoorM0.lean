-- By pp.py, a program of this repo, with the kit's printer: Lean checks it.
import Derived.Test.YtogoblkehdmapaaDoorProg
import Derived.Below
import Derived.Deep.Draws
import Derived.Deep.AppendLies
import Derived.Maps.AppendAt
import Derived.OwnWalk
import Derived.Laws.BytesArg
import Derived.Laws.MakeOwn
import Derived.Laws.OwnMore
import Derived.Deep.OwnRows
import Derived.Tactics
import Derived.Lib.ConvBytes
import Derived.Laws.Slices
import Derived.WalkKit
import Derived.KernelRfl
import Derived.RowKit3
import Derived.Deep.LoopGhost
import Derived.Deep.QuietTactic
import Derived.BigQuiet
import Derived.WideLaws
import Derived.Deep.DeepCutAuto
import Derived.Deep.CutBlock
import Derived.Deep.RegionHeld3
import Derived.Laws.Rows
import Derived.Lib.AppendStr
import Derived.ArgAppend
import Derived.Laws.IdiomCopy
import Derived.OrdersHeld
import Derived.Laws.BitsLemmas
import Derived.RowKit
import Derived.Laws.Cover1
import Derived.Test.YtogoblkehdmapaaDoorWWords
import Derived.Test.YtogoblkehdmapaaDoorWLast
import Derived.Test.YtogoblkehdmapaaDoorWTab
import Derived.Test.YtogoblkehdmapaaDoorWFour
import Derived.Test.YtogoblkehdmapaaDoorWQPut
import Derived.Test.YtogoblkehdmapaaDoorWApart
import Derived.Test.YtogoblkehdmapaaDoorWArr
import Derived.Test.YtogoblkehdmapaaDoorWZeros
import Derived.Test.YtogoblkehdmapaaDoorWFoot
import Derived.Test.YtogoblkehdmapaaDoorWKept
import Derived.Test.YtogoblkehdmapaaDoorWShare
import Derived.Test.YtogoblkehdmapaaDoorWN
import Derived.Test.YtogoblkehdmapaaDoorWFootNe
import Derived.Test.YtogoblkehdmapaaDoorWAt
import Derived.Test.YtogoblkehdmapaaDoorWEqStruct
import Derived.Test.YtogoblkehdmapaaDoorWRepsOne
import Derived.Test.YtogoblkehdmapaaDoorWInv
import Derived.Test.YtogoblkehdmapaaDoorWInvWords
import Derived.Test.YtogoblkehdmapaaDoorWGuard
import Derived.Test.YtogoblkehdmapaaDoorWNEv
import Derived.Test.YtogoblkehdmapaaDoorWMore
namespace Go.Proofs.YtogoblkehdmapaaDoor.M
open Go.RowKit Go.Proofs.YtogoblkehdmapaaDoorW.PrintWords Go.Proofs.YtogoblkehdmapaaDoorW.PrintLast Go.Proofs.YtogoblkehdmapaaDoorW.PrintMore
attribute [local go_sem] max2_int min2_int max_two min_two max_three min_three max_four min_four
set_option linter.unusedVariables false
set_option linter.unusedSimpArgs false

def errW : Option Int → Value
  | none => .nilIface
  | some c => .iface 123 (.int .i64 c)
theorem errW_none : errW none = .nilIface := rfl
theorem errW_some (c : Int) : errW (some c) = .iface 123 (.int .i64 c) := rfl

theorem info3 : (Tryd.prog.info? 3).map (fun i => (i.zero, i.size, i.bytes)) = some (some (.int .i64 0), 1, 8) := by kernel_rfl
theorem info9 : (Tryd.prog.info? 9).map (fun i => (i.zero, i.size, i.bytes)) = some (some (.string ⟨#[]⟩), 1, 16) := by kernel_rfl
-- the values' own types
end Go.Proofs.YtogoblkehdmapaaDoor.M
