/- The program's Crc32c answers what the reference's answers, for every string. No conditions. -/
import Derived.Test.YtagchfmclccfgaaDFnExactCrc32c
import Derived.Test.YtagchfmclccfgaaSpecCrc
namespace Go.Proofs.Ytagchfmclccfgaa.Pure
open Go.Proofs.Ytagchfmclccfgaa.M Go.Proofs.YtagchfmclccfgaaW.PrintWords Go.Proofs.YtagchfmclccfgaaW.PrintLast Go.RowKit
theorem FnExactCrc32c : FnExactCrc32cPure := by
  intro a ha
  obtain ⟨r, ⟨k, h1⟩, h2, _⟩ := CrcPlain.spec_crc a ha
  refine ⟨k, ?_⟩
  unfold laws_FnExactCrc32c.f
  by_cases hn : (a.size : Int) > 1048576
  · rw [if_pos hn]
  · rw [if_neg hn, h1, h2]
    simp
end Go.Proofs.Ytagchfmclccfgaa.Pure
