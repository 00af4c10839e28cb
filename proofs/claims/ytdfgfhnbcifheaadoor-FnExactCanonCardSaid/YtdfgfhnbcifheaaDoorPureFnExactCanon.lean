/- FnExactCanon: what is left, plain. -/
import Derived.Test.YtdfgfhnbcifheaaDoorO0
import Derived.Test.YtdfgfhnbcifheaaDoorLabLaws
import Derived.Test.YtdfgfhnbcifheaaDoorMarkLab
import Derived.Test.YtdfgfhnbcifheaaDoorCanImp
namespace Go.Proofs.YtdfgfhnbcifheaaDoor.Pure
open Go.Proofs.YtdfgfhnbcifheaaDoor.M Go.Proofs.YtdfgfhnbcifheaaDoor.Loops Go.Proofs.YtdfgfhnbcifheaaDoor.LabLaws Go.Proofs.YtdfgfhnbcifheaaDoor.Mark Go.Proofs.YtdfgfhnbcifheaaDoorW.PrintWords Go.Proofs.YtdfgfhnbcifheaaDoorW.PrintLast Go.RowKit
theorem FnExactCanon : FnExactCanonPure := by
  rintro l ⟨hl, hbl⟩
  obtain ⟨s, hs, hw⟩ := sz_labels l hl hbl 1048576 (by decide) (by decide)
  refine Ev.rounds ?_
  unfold laws_FnExactCanon.f
  refine Ev.bind hs ?_
  by_cases hneg : s < 0
  · exact Ev.ite_pos hneg (Ev.now _)
  · have hq := hw (by omega)
    have hf : l.length + total wtL l ≤ 1048576 := by omega
    have ht := to_labels l (by omega)
    have hF := fits l hf
    have hsp : spec_Canon.f (l.map cL) = some (Can.can (l.map cL)) := by unfold spec_Canon.f; exact if_pos hF
    have him := Can.impl_can (l.map cL) hF
    have hlen := can_len (l.map cL)
    have hml : (l.map cL).length ≤ 1048576 := by rw [List.length_map]; omega
    obtain ⟨r, hr⟩ : ∃ r, r = Can.can (l.map cL) := ⟨_, rfl⟩
    rw [← hr] at hsp him hlen
    have heq := eq_labels r.1 (by omega)
    have hmk := mark_labels r.1 1 (by omega) (by omega)
    have hhd := held_labels 1 r.1.length (by omega) (by omega)
    refine Ev.ite_neg hneg (Ev.bind ht ?_)
    simp only [hsp, Option.bind_some]
    refine Ev.bind ht (Ev.bind him (Ev.bind heq ?_))
    simp only [if_true, bne_self_eq_false]
    refine Ev.step (f := fun k => (laws_toLabelS.f k l).bind fun t181 => (laws_eqLabelS.f k (l.map cL) t181).bind fun t184 => if t184 = true then ((laws_markLabelS.f k (l.map cL) 1).bind fun bt185 => (if bt185.1 < 0 then (laws_FnExactCanon.j1 k l r.1 r.2.1 r.2.2 r.1 true) else ((laws_eqLabelS.f k r.1 r.1).bind fun t187 => (if t187 = true then (laws_FnExactCanon.j1 k l r.1 r.2.1 r.2.2 r.1 false) else (laws_FnExactCanon.j1 k l r.1 r.2.1 r.2.2 r.1 true))))) else (some false)) (fun k => by
      simp only [laws_FnExactCanon.j0, Bool.false_eq_true, if_false, if_true, bne_self_eq_false]) ?_
    refine Ev.bind ht (Ev.bind (eq_labels (l.map cL) (by omega)) (Ev.ite_pos rfl (Ev.bind (mark_labels (l.map cL) 1 hml (by omega)) (Ev.ite_neg (by show ¬ (((1 + 2 * (l.map cL).length : Nat) : Int) < 0); omega) (Ev.bind heq (Ev.ite_pos rfl ?_))))))
    refine Ev.step (f := fun k => (laws_markLabelS.f k r.1 1).bind fun bt188 => ((laws_heldLabelS.f k bt188.2 1).bind fun t190 => (if t190 < 0 then (some false) else (if t190 = bt188.1 then ((laws_toLabelS.f k l).bind fun t191 => ((impl_Canon.f k t191).bind fun bt194 => ((laws_eqLabelS.f k bt194.1 r.1).bind fun t199 => (if t199 = true then (if bt194.2.1 = r.2.1 then (laws_FnExactCanon.j2 k bt188.2 bt188.1 (bt194.2.2 != r.2.2)) else (laws_FnExactCanon.j2 k bt188.2 bt188.1 true)) else (laws_FnExactCanon.j2 k bt188.2 bt188.1 true))))) else (some false))))) (fun k => by
      simp only [laws_FnExactCanon.j1, Bool.false_eq_true, if_false]) ?_
    have npos : ¬ (((1 + 2 * r.1.length : Nat) : Int) < 0) := by omega
    refine Ev.bind hmk (Ev.bind hhd (Ev.ite_neg npos (Ev.ite_pos rfl (Ev.bind ht (Ev.bind him (Ev.bind heq (Ev.ite_pos rfl (Ev.ite_pos rfl ?_))))))))
    simp only [bne_self_eq_false]
    refine Ev.step (f := fun k => (laws_heldLabelS.f k (marksL 1 r.1.length) 1).bind fun t200 => (if t200 < 0 then (some false) else (if t200 = ((1 + 2 * r.1.length : Nat) : Int) then (some true) else (some false)))) (fun k => by
      simp only [laws_FnExactCanon.j2, Bool.false_eq_true, if_false]) ?_
    exact Ev.bind hhd (Ev.ite_neg npos (Ev.ite_pos rfl (Ev.now _)))
end Go.Proofs.YtdfgfhnbcifheaaDoor.Pure
