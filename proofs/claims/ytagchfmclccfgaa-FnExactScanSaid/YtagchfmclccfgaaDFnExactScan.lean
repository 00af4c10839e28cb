-- By pp.py, a program of this repo, with the kit's printer: Lean checks it.
import Derived.Test.YtagchfmclccfgaaF10
import Derived.Test.YtagchfmclccfgaaO0
namespace Go.Proofs.Ytagchfmclccfgaa.M
open Go.RowKit Go.Proofs.YtagchfmclccfgaaW.PrintWords Go.Proofs.YtagchfmclccfgaaW.PrintLast Go.Proofs.YtagchfmclccfgaaW.PrintMore
attribute [local go_sem] max2_int min2_int max_two min_two max_three min_three max_four min_four
set_option linter.unusedVariables false
set_option linter.unusedSimpArgs false

end Go.Proofs.Ytagchfmclccfgaa.M
namespace Go.Proofs.Ytagchfmclccfgaa.Pure
open Go.Proofs.Ytagchfmclccfgaa.M Go.RowKit
/-- What is left to prove of laws_FnExactScan. -/
def FnExactScanPure : Prop := ∀ (a0 : ByteArray), a0.size ≤ maxLen → ∃ k, laws_FnExactScan.f k a0 = some true
end Go.Proofs.Ytagchfmclccfgaa.Pure
namespace Go.Proofs.Ytagchfmclccfgaa.M
end Go.Proofs.Ytagchfmclccfgaa.M
