-- By pp.py, a program of this repo, with the kit's printer: Lean checks it.
import Derived.Test.YtagchfmclccfgaaM0
import Derived.Test.YtagchfmclccfgaaOpens
namespace Go.Proofs.Ytagchfmclccfgaa.M
open Go.RowKit Go.Proofs.YtagchfmclccfgaaW.PrintWords Go.Proofs.YtagchfmclccfgaaW.PrintLast Go.Proofs.YtagchfmclccfgaaW.PrintMore
attribute [local go_sem] max2_int min2_int max_two min_two max_three min_three max_four min_four
set_option linter.unusedVariables false
set_option linter.unusedSimpArgs false

open Go.Proofs.Ytagchfmclccfgaa.Opn
instance : Inhabited S93 := ⟨z93⟩
def b93 (x : S93) : Prop := x.f0.size ≤ maxLen ∧ x.f1.size ≤ maxLen ∧ (Lit.int .i64 x.f2).wf = true
theorem opens93 : Opens Try.prog 93 k93 b93 := Opens.iso (Opens.struct Try.underlying93 (by kernel_rfl) (OpensFrom.cons rfl (by kernel_rfl) (Opens.string Try.underlying9) (OpensFrom.cons rfl (by kernel_rfl) (Opens.string Try.underlying9) (OpensFrom.one rfl (by kernel_rfl) (Opens.int Try.underlying3))))) (fun x : S93 => (x.f0, x.f1, x.f2)) (fun a => (⟨a.1, a.2.1, a.2.2⟩ : S93)) (fun _ => rfl)
theorem opensP36 : Opens Try.prog 36 (Kd.pair (Kd.slice 93 k93) (Kd.pair (Kd.int .i64) (Kd.pair (Kd.int .i64) (Kd.pair (Kd.int .i64) (Kd.pair (Kd.int .i64) Kd.bool))))) (fun x => (x.1.length ≤ maxLen ∧ ∀ y_ ∈ x.1, b93 y_) ∧ (Lit.int .i64 x.2.1).wf = true ∧ (Lit.int .i64 x.2.2.1).wf = true ∧ (Lit.int .i64 x.2.2.2.1).wf = true ∧ (Lit.int .i64 x.2.2.2.2.1).wf = true ∧ True) := Opens.struct Try.underlying36 (by kernel_rfl) (OpensFrom.cons rfl (by kernel_rfl) (Opens.slice Try.underlying34 (by kernel_rfl) opens93) (OpensFrom.cons rfl (by kernel_rfl) (Opens.int Try.underlying3) (OpensFrom.cons rfl (by kernel_rfl) (Opens.int Try.underlying3) (OpensFrom.cons rfl (by kernel_rfl) (Opens.int Try.underlying3) (OpensFrom.cons rfl (by kernel_rfl) (Opens.int Try.underlying3) (OpensFrom.one rfl (by kernel_rfl) (Opens.bool Try.underlying4)))))))
end Go.Proofs.Ytagchfmclccfgaa.M
