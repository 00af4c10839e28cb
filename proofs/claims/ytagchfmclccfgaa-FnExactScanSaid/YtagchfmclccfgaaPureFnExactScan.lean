/- The program's Scan answers what the reference's answers, for every text that the statement's guard lets in. No conditions. -/
import Derived.Test.YtagchfmclccfgaaDFnExactScan
import Derived.Test.YtagchfmclccfgaaScanPlain
import Derived.Test.YtagchfmclccfgaaMarkStr
namespace Go.Proofs.Ytagchfmclccfgaa.Pure
open Go.Proofs.Ytagchfmclccfgaa.M Go.Proofs.Ytagchfmclccfgaa.Loops Go.Proofs.Ytagchfmclccfgaa.ScanPlain Go.Proofs.Ytagchfmclccfgaa.Mark Go.Proofs.YtagchfmclccfgaaW.PrintWords Go.Proofs.YtagchfmclccfgaaW.PrintLast Go.RowKit
theorem FnExactScan : FnExactScanPure := by
  intro d _
  refine Ev.rounds ?_
  unfold laws_FnExactScan.f
  by_cases hd : d.size ≤ 1048576
  · refine Ev.ite_neg (by omega) ?_
    obtain ⟨P, e, h1, h2, h3⟩ := scan_same d hd
    have hm := mark_strs P 1 h3 (by omega)
    have hh := held_strs 1 P.length h3 (by omega)
    refine Ev.bind h2 ?_
    rw [h1]
    refine Ev.some_bind (Ev.bind (eq_strs P h3) (Ev.ite_pos rfl ?_))
    refine Ev.step (f := fun k => (laws_markStringS.f k P 1).bind fun bt265 => ((laws_heldStringS.f k bt265.2 1).bind fun t267 => (if t267 < 0 then (some false) else (if t267 = bt265.1 then ((impl_Scan.f d).bind fun bt268 => ((laws_eqStringS.f k bt268.1 P).bind fun t272 => (if t272 = true then (laws_FnExactScan.j1 k bt265.2 bt265.1 (bt268.2 != e)) else (laws_FnExactScan.j1 k bt265.2 bt265.1 true)))) else (some false))))) (fun k => by simp only [laws_FnExactScan.j0]; rw [if_neg (by simp)]) ?_
    refine Ev.bind hm (Ev.bind hh (Ev.ite_neg (by omega) (Ev.ite_pos rfl ?_)))
    rw [h1]
    refine Ev.some_bind (Ev.bind (eq_strs P h3) (Ev.ite_pos rfl ?_))
    refine Ev.step (f := fun k => (laws_heldStringS.f k (marks 1 P.length) 1).bind fun t273 => (if t273 < 0 then (some false) else (if t273 = ((1 + P.length : Nat) : Int) then (some true) else (some false)))) (fun k => by simp only [laws_FnExactScan.j1]; rw [if_neg (by simp)]) ?_
    exact Ev.bind hh (Ev.ite_neg (by omega) (Ev.ite_pos rfl (Ev.now _)))
  · exact Ev.ite_pos (by omega) (Ev.now _)
end Go.Proofs.Ytagchfmclccfgaa.Pure
