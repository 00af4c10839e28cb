/- The program's ConfigOK answers what the reference's answers, for every Config. No conditions. -/
import Derived.Test.YtagchfmclccfgaaDFnExactConfigOK
namespace Go.Proofs.Ytagchfmclccfgaa.Pure
open Go.Proofs.Ytagchfmclccfgaa.M Go.Proofs.YtagchfmclccfgaaW.PrintWords Go.Proofs.YtagchfmclccfgaaW.PrintLast Go.RowKit

theorem spec_between (a b c : Int) : spec_l1Between.f a b c = some (decide (b ≤ a ∧ a ≤ c)) := by
  unfold spec_l1Between.f
  by_cases h : b ≤ a
  · rw [if_pos h]; simp [h]
  · rw [if_neg h]; simp [h]
theorem impl_between_eq (a b c : Int) : impl_between.f a b c = some (decide (b ≤ a ∧ a ≤ c)) := by
  unfold impl_between.f
  by_cases h : b ≤ a
  · rw [if_pos h]; simp [h]
  · rw [if_neg h]; simp [h]
theorem cfg_same (a b c d e f : Int) : ∃ r, spec_ConfigOK.f a b c d e f = some r ∧ impl_ConfigOK.f a b c d e f = some r := by
  unfold spec_ConfigOK.f impl_ConfigOK.f
  simp only [spec_between, impl_between_eq, Option.bind_some, decide_eq_true_eq]
  repeat' split
  all_goals exact ⟨_, rfl, rfl⟩

theorem FnExactConfigOK : FnExactConfigOKPure := by
  intro a b c d e f _ _ _ _ _ _
  obtain ⟨r, h1, h2⟩ := cfg_same a b c d e f
  unfold laws_FnExactConfigOK.f laws_toConfig.f
  simp only [Option.bind_some, h1, h2]
  simp

end Go.Proofs.Ytagchfmclccfgaa.Pure
