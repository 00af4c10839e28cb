-- By pp.py, a program of this repo, with the kit's printer: Lean checks it.
import Derived.Test.YtogoblkehdmapaaDoorF5
import Derived.Test.YtogoblkehdmapaaDoorO0
namespace Go.Proofs.YtogoblkehdmapaaDoor.M
open Go.RowKit Go.Proofs.YtogoblkehdmapaaDoorW.PrintWords Go.Proofs.YtogoblkehdmapaaDoorW.PrintLast Go.Proofs.YtogoblkehdmapaaDoorW.PrintMore
attribute [local go_sem] max2_int min2_int max_two min_two max_three min_three max_four min_four
set_option linter.unusedVariables false
set_option linter.unusedSimpArgs false

end Go.Proofs.YtogoblkehdmapaaDoor.M
namespace Go.Proofs.YtogoblkehdmapaaDoor.Pure
open Go.Proofs.YtogoblkehdmapaaDoor.M Go.RowKit
/-- What is left to prove of laws_FnExactParseConfig. -/
def FnExactParseConfigPure : Prop := ∀ (a0 : ByteArray), a0.size ≤ maxLen → ∃ k, laws_FnExactParseConfig.f k a0 = some true
end Go.Proofs.YtogoblkehdmapaaDoor.Pure
namespace Go.Proofs.YtogoblkehdmapaaDoor.M
end Go.Proofs.YtogoblkehdmapaaDoor.M
