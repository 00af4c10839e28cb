/- Some of this seat's texts, joined by prune.py. -/
import Derived.Test.YtdfgfhnbcifheaaDoorM0
import Derived.Test.YtdfgfhnbcifheaaDoorOpens
import Derived.Test.YtdfgfhnbcifheaaDoorF3
-- By pp.py, a program of this repo, with the kit's printer: Lean checks it.
namespace Go.Proofs.YtdfgfhnbcifheaaDoor.M
open Go.RowKit Go.Proofs.YtdfgfhnbcifheaaDoorW.PrintWords Go.Proofs.YtdfgfhnbcifheaaDoorW.PrintLast Go.Proofs.YtdfgfhnbcifheaaDoorW.PrintMore
attribute [local go_sem] max2_int min2_int max_two min_two max_three min_three max_four min_four
set_option linter.unusedVariables false
set_option linter.unusedSimpArgs false

open Go.Proofs.YtdfgfhnbcifheaaDoor.Opn
instance : Inhabited S43 := ⟨z43⟩
def b43 (x : S43) : Prop := x.f0.size ≤ maxLen ∧ x.f1.size ≤ maxLen
theorem opens43 : Opens Tryd.prog 43 k43 b43 := Opens.iso (Opens.struct Tryd.underlying43 (by kernel_rfl) (OpensFrom.cons rfl (by kernel_rfl) (Opens.string Tryd.underlying9) (OpensFrom.one rfl (by kernel_rfl) (Opens.string Tryd.underlying9)))) (fun x : S43 => (x.f0, x.f1)) (fun a => (⟨a.1, a.2⟩ : S43)) (fun _ => rfl)
end Go.Proofs.YtdfgfhnbcifheaaDoor.M
-- By pp.py, a program of this repo, with the kit's printer: Lean checks it.
namespace Go.Proofs.YtdfgfhnbcifheaaDoor.M
open Go.RowKit Go.Proofs.YtdfgfhnbcifheaaDoorW.PrintWords Go.Proofs.YtdfgfhnbcifheaaDoorW.PrintLast Go.Proofs.YtdfgfhnbcifheaaDoorW.PrintMore
attribute [local go_sem] max2_int min2_int max_two min_two max_three min_three max_four min_four
set_option linter.unusedVariables false
set_option linter.unusedSimpArgs false

end Go.Proofs.YtdfgfhnbcifheaaDoor.M
namespace Go.Proofs.YtdfgfhnbcifheaaDoor.Pure
open Go.Proofs.YtdfgfhnbcifheaaDoor.M Go.RowKit
/-- What is left to prove of laws_FnExactCanon. -/
def FnExactCanonPure : Prop := ∀ (l0 : List (S43)), (l0.length ≤ maxLen ∧ ∀ y_ ∈ l0, b43 y_) → ∃ k, laws_FnExactCanon.f k l0 = some true
end Go.Proofs.YtdfgfhnbcifheaaDoor.Pure
namespace Go.Proofs.YtdfgfhnbcifheaaDoor.M
end Go.Proofs.YtdfgfhnbcifheaaDoor.M
