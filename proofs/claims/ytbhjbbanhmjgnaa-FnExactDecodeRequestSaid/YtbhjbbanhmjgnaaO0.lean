-- By pp.py, a program of this repo, with the kit's printer: Lean checks it.
import Derived.Test.YtbhjbbanhmjgnaaM0
import Derived.Test.YtbhjbbanhmjgnaaOpens
namespace Go.Proofs.Ytbhjbbanhmjgnaa.M
open Go.RowKit Go.Proofs.YtbhjbbanhmjgnaaW.PrintWords Go.Proofs.YtbhjbbanhmjgnaaW.PrintLast Go.Proofs.YtbhjbbanhmjgnaaW.PrintMore
attribute [local go_sem] max2_int min2_int max_two min_two max_three min_three max_four min_four
set_option linter.unusedVariables false
set_option linter.unusedSimpArgs false

open Go.Proofs.Ytbhjbbanhmjgnaa.Opn
instance : Inhabited S135 := ⟨z135⟩
instance : Inhabited S98 := ⟨z98⟩
instance : Inhabited S139 := ⟨z139⟩
instance : Inhabited S141 := ⟨z141⟩
instance : Inhabited S113 := ⟨z113⟩
end Go.Proofs.Ytbhjbbanhmjgnaa.M
