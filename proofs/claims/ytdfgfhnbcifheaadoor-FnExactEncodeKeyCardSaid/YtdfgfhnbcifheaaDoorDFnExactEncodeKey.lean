/- Some of this seat's texts, joined by prune.py. -/
import Derived.Test.YtdfgfhnbcifheaaDoorF4
import Derived.Test.YtdfgfhnbcifheaaDoorE0
import Derived.Test.YtdfgfhnbcifheaaDoorKeyPlain
-- By pp.py, a program of this repo, with the kit's printer: Lean checks it.
namespace Go.Proofs.YtdfgfhnbcifheaaDoor.M
open Go.RowKit Go.Proofs.YtdfgfhnbcifheaaDoorW.PrintWords Go.Proofs.YtdfgfhnbcifheaaDoorW.PrintLast Go.Proofs.YtdfgfhnbcifheaaDoorW.PrintMore
attribute [local go_sem] max2_int min2_int max_two min_two max_three min_three max_four min_four
set_option linter.unusedVariables false
set_option linter.unusedSimpArgs false

end Go.Proofs.YtdfgfhnbcifheaaDoor.M
namespace Go.Proofs.YtdfgfhnbcifheaaDoor.Pure
open Go.Proofs.YtdfgfhnbcifheaaDoor.M Go.RowKit
/-- What is left to prove of laws_FnExactEncodeKey. -/
def FnExactEncodeKeyPure : Prop := ∀ (l0 : List (S43)), (l0.length ≤ maxLen ∧ ∀ y_ ∈ l0, b43 y_) → ∃ k, laws_FnExactEncodeKey.f k l0 = some true
end Go.Proofs.YtdfgfhnbcifheaaDoor.Pure
namespace Go.Proofs.YtdfgfhnbcifheaaDoor.M
end Go.Proofs.YtdfgfhnbcifheaaDoor.M
/- FnExactEncodeKey: what is left, plain. -/
namespace Go.Proofs.YtdfgfhnbcifheaaDoor.Pure
open Go.Proofs.YtdfgfhnbcifheaaDoor.M Go.Proofs.YtdfgfhnbcifheaaDoor.Loops Go.Proofs.YtdfgfhnbcifheaaDoor.LabLaws Go.Proofs.YtdfgfhnbcifheaaDoorW.PrintWords Go.Proofs.YtdfgfhnbcifheaaDoorW.PrintLast Go.RowKit
theorem FnExactEncodeKey : FnExactEncodeKeyPure := by
  rintro l ⟨hl, hbl⟩
  obtain ⟨s, hs, hw⟩ := sz_labels l hl hbl 1048576 (by decide) (by decide)
  refine Ev.rounds ?_
  unfold laws_FnExactEncodeKey.f
  refine Ev.bind hs ?_
  by_cases hneg : s < 0
  · exact Ev.ite_pos hneg (Ev.now _)
  · have hq := hw (by omega)
    have hf : l.length + total wtL l ≤ 1048576 := by omega
    have ht := to_labels l (by omega)
    have hF := fits l hf
    have hml : (l.map cL).length ≤ 1048576 := by rw [List.length_map]; omega
    refine Ev.ite_neg hneg (Ev.bind ht (Ev.bind (Key.spec_key _ hml hF) (Ev.bind ht (Ev.bind (Key.impl_key _ hml hF) (Ev.ite_pos rfl (Ev.bind ht (Ev.bind (eq_labels _ (by omega)) (Ev.ite_pos rfl (Ev.now _)))))))))
end Go.Proofs.YtdfgfhnbcifheaaDoor.Pure
