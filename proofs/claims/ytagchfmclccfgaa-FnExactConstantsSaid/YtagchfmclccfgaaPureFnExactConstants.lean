/- The program's constants are the reference's: the call answers true. No conditions. -/
import Derived.Test.YtagchfmclccfgaaPFnExactConstantsx1
namespace Go.Proofs.Ytagchfmclccfgaa.Pure
open Go.RowKit Go.Proofs.Ytagchfmclccfgaa.PFnExactConstants Go.Proofs.YtagchfmclccfgaaW.PrintWords Go.Proofs.YtagchfmclccfgaaW.PrintLast

/-- YOURS: laws_FnExactConstants.f  = some true
What it reaches (each with k first where it has rounds; `.mono`: more rounds tell the same; `.l0`, ..: its loops, with `.mono_l`): laws_FnExactConstants.f -/
theorem FnExactConstants : laws_FnExactConstants.Pure := by
  rfl

end Go.Proofs.Ytagchfmclccfgaa.Pure
