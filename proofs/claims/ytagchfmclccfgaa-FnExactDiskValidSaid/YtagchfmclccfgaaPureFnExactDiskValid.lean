/- The program's DiskValid answers what the reference's answers, for every disk that the statement's guard lets in. No conditions. -/
import Derived.Test.YtagchfmclccfgaaDFnExactDiskValid
import Derived.Test.YtagchfmclccfgaaDiskValid
namespace Go.Proofs.Ytagchfmclccfgaa.Pure
open Go.Proofs.Ytagchfmclccfgaa.M Go.Proofs.Ytagchfmclccfgaa.Loops Go.Proofs.Ytagchfmclccfgaa.DiskLaws Go.Proofs.Ytagchfmclccfgaa.DiskValid Go.Proofs.YtagchfmclccfgaaW.PrintWords Go.Proofs.YtagchfmclccfgaaW.PrintLast Go.RowKit
theorem FnExactDiskValid : FnExactDiskValidPure := by
  rintro l a b c d e ⟨hl, hb⟩ _ _ _ _
  obtain ⟨t, ht, hw⟩ := sz_disk l a b c d e hl hb
  refine Ev.rounds ?_
  unfold laws_FnExactDiskValid.f
  refine Ev.bind ht ?_
  by_cases hneg : t < 0
  · exact Ev.ite_pos hneg (Ev.now _)
  · obtain ⟨h1, h2⟩ := hw (by omega)
    have h3 := total_cF l
    refine Ev.ite_neg hneg (Ev.bind (to_disk l a b c d e h1) (Ev.bind (spec_valid (l.map cF) a b c d e (by simpa using h1) (by omega)) (Ev.bind (to_disk l a b c d e h1) (Ev.bind (impl_valid (l.map cF) a b c d e (by simpa using h1) (by omega)) ?_))))
    refine Ev.ite_neg (by simp) (Ev.bind (to_disk l a b c d e h1) (Ev.bind (eq_disk (l.map cF) a b c d e (by rw [List.length_map]; omega)) ?_))
    exact Ev.ite_pos rfl (Ev.now _)
end Go.Proofs.Ytagchfmclccfgaa.Pure
