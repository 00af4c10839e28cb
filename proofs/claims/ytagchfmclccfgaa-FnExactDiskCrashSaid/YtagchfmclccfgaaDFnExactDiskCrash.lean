-- By pp.py, a program of this repo, with the kit's printer: Lean checks it.
import Derived.Test.YtagchfmclccfgaaF12
import Derived.Test.YtagchfmclccfgaaO0
namespace Go.Proofs.Ytagchfmclccfgaa.M
open Go.RowKit Go.Proofs.YtagchfmclccfgaaW.PrintWords Go.Proofs.YtagchfmclccfgaaW.PrintLast Go.Proofs.YtagchfmclccfgaaW.PrintMore
attribute [local go_sem] max2_int min2_int max_two min_two max_three min_three max_four min_four
set_option linter.unusedVariables false
set_option linter.unusedSimpArgs false

end Go.Proofs.Ytagchfmclccfgaa.M
namespace Go.Proofs.Ytagchfmclccfgaa.Pure
open Go.Proofs.Ytagchfmclccfgaa.M Go.RowKit
/-- What is left to prove of laws_FnExactDiskCrash. -/
def FnExactDiskCrashPure : Prop := ∀ (l0_0 : List (S93)) (a0_1 : Int) (a0_2 : Int) (a0_3 : Int) (a0_4 : Int) (a0_5 : Bool) (l1 : List Int), (l0_0.length ≤ maxLen ∧ ∀ y_ ∈ l0_0, b93 y_) → (Lit.int .i64 a0_1).wf = true → (Lit.int .i64 a0_2).wf = true → (Lit.int .i64 a0_3).wf = true → (Lit.int .i64 a0_4).wf = true → (l1.length ≤ maxLen ∧ ∀ y_ ∈ l1, (fun n => (Lit.int .i64 n).wf = true) y_) → ∃ k, laws_FnExactDiskCrash.f k l0_0 a0_1 a0_2 a0_3 a0_4 a0_5 l1 = some true
end Go.Proofs.Ytagchfmclccfgaa.Pure
namespace Go.Proofs.Ytagchfmclccfgaa.M
end Go.Proofs.Ytagchfmclccfgaa.M
