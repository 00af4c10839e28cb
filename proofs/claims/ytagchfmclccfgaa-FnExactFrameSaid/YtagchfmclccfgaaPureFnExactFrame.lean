/- The program's Frame answers what the reference's answers, for every payload. No conditions. -/
import Derived.Test.YtagchfmclccfgaaDFnExactFrame
import Derived.Test.YtagchfmclccfgaaFramePlain
namespace Go.Proofs.Ytagchfmclccfgaa.Pure
open Go.Proofs.Ytagchfmclccfgaa.M Go.Proofs.YtagchfmclccfgaaW.PrintWords Go.Proofs.YtagchfmclccfgaaW.PrintLast Go.RowKit
theorem FnExactFrame : FnExactFramePure := by
  intro a ha
  obtain ⟨r, h1, h2⟩ := FramePlain.frame_same a ha
  refine Ev.rounds ?_
  unfold laws_FnExactFrame.f
  by_cases hn : (a.size : Int) > 1048576
  · simp only [if_pos hn]; exact Ev.now _
  · simp only [if_neg hn]
    refine Ev.bind h1 (Ev.bind h2 ?_)
    rw [if_pos rfl]
    exact Ev.now _
end Go.Proofs.Ytagchfmclccfgaa.Pure
