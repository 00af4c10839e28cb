/- The program's DiskRead answers what the reference's answers, for every disk and name that the statement's guard lets in. No conditions. -/
import Derived.Test.YtagchfmclccfgaaDFnExactDiskRead
import Derived.Test.YtagchfmclccfgaaXDr
namespace Go.Proofs.Ytagchfmclccfgaa.Pure
open Go.Proofs.Ytagchfmclccfgaa.M Go.Proofs.Ytagchfmclccfgaa.Loops Go.Proofs.Ytagchfmclccfgaa.DiskLaws Go.Proofs.Ytagchfmclccfgaa.DiskValid Go.Proofs.Ytagchfmclccfgaa.Ord Go.Proofs.YtagchfmclccfgaaW.PrintWords Go.Proofs.YtagchfmclccfgaaW.PrintLast Go.RowKit
theorem find_same (l : List FO) (t : ByteArray) (hl : l.length ≤ 1048576) : ∃ r, Ev (fun k => spec_l1Find.l0 k t l (l.length : Int) 0) r ∧ ((r < 0 ∧ lookup l t = (⟨#[]⟩, false)) ∨ ∃ i : Nat, r = (i : Int) ∧ i < l.length ∧ lookup l t = ((rd_T71 l i).f1, true)) := by
  have key : ∀ m j, j + m = l.length → ∃ r, Ev (fun k => spec_l1Find.l0 k t l (l.length : Int) (j : Int)) r ∧ ((r < 0 ∧ (l.drop j).find? (fun x => decide (x.f0.toList = t.toList)) = none) ∨ ∃ i : Nat, r = (i : Int) ∧ i < l.length ∧ (l.drop j).find? (fun x => decide (x.f0.toList = t.toList)) = some (rd_T71 l i)) := by
    intro m
    induction m with
    | zero =>
      intro j hj
      refine ⟨-1, Ev.step (f := fun _ => some (-1)) (fun k => by simp only [spec_l1Find.l0]; rw [if_neg (by omega)]) (Ev.now _), .inl ⟨by omega, ?_⟩⟩
      rw [List.drop_eq_nil_of_le (by omega)]; rfl
    | succ m ih =>
      intro j hj
      have hjl : j < l.length := by omega
      have hg : rd_T71 l (j : Int) = l[j] := by
        rw [rd_eq]; unfold DiskValid.rd; rw [List.getD_eq_getElem?_getD, List.getElem?_eq_getElem hjl]; rfl
      rw [List.drop_eq_getElem_cons hjl, List.find?_cons]
      by_cases hp : l[j].f0.toList = t.toList
      · refine ⟨(j : Int), Ev.step (f := fun _ => some (j : Int)) (fun k => ?_) (Ev.now _), .inr ⟨j, rfl, hjl, ?_⟩⟩
        · simp only [spec_l1Find.l0]
          rw [if_pos (by omega), if_pos (by omega), if_pos (by omega), hg, if_pos hp]
        · rw [decide_eq_true hp, hg]
      · obtain ⟨r, hr, h⟩ := ih (j + 1) (by omega)
        refine ⟨r, Ev.step (fun k => ?_) hr, ?_⟩
        · simp only [spec_l1Find.l0]
          rw [if_pos (by omega), if_pos (by omega), if_pos (by omega), hg, if_neg hp, w_succ j (by omega)]
        · rw [decide_eq_false hp]
          exact h
  obtain ⟨r, hr, h⟩ := key l.length 0 (by omega)
  refine ⟨r, hr, ?_⟩
  rw [List.drop_zero] at h
  unfold lookup
  rcases h with ⟨h1, h2⟩ | ⟨i, h1, h2, h3⟩
  · exact .inl ⟨h1, by rw [h2]⟩
  · exact .inr ⟨i, h1, h2, by rw [h3]⟩
theorem read_same (l : List FO) (a b c d : Int) (e : Bool) (t : ByteArray) (hl : l.length ≤ 1048576) (ht : total wtD l ≤ 1048576) : ∃ r : ByteArray × Bool, impl_DiskRead.f l a b c d e t = some r ∧ Ev (fun k => spec_DiskRead.f k l a b c d e t) r := by
  refine ⟨_, by unfold impl_DiskRead.f; rw [if_pos ⟨hl, ht⟩], ?_⟩
  obtain ⟨r, hr, h⟩ := find_same l t hl
  unfold spec_DiskRead.f spec_l1Find.f
  refine Ev.bind hr (Ev.bind (spec_valid l a b c d e hl ht) ?_)
  by_cases hv : cdec (Valid l a b c d) = true
  · refine Ev.ite_pos hv ?_
    cases e with
    | true => refine Ev.ite_pos rfl (Ev.eq (Ev.now _) ?_); rw [if_neg (by simp)]
    | false =>
      refine Ev.ite_neg (by simp) ?_
      refine Ev.eq (a := lookup l t) ?_ (if_pos (⟨hv, rfl⟩ : cdec (Valid l a b c d) = true ∧ false = false)).symm
      rcases h with ⟨h1, h2⟩ | ⟨i, rfl, h2, h3⟩
      · exact Ev.ite_pos h1 (Ev.eq (Ev.now _) h2.symm)
      · exact Ev.ite_neg (by omega) (Ev.ite_pos (by omega) (Ev.ite_pos (by omega) (Ev.eq (Ev.now _) h3.symm)))
  · refine Ev.ite_neg hv (Ev.eq (Ev.now _) ?_)
    rw [if_neg (fun h => hv h.1)]
theorem FnExactDiskRead : FnExactDiskReadPure := by
  rintro l a b c d e t ⟨hl, hb⟩ _ _ _ _ _
  obtain ⟨s, hs, hw⟩ := sz_disk l a b c d e hl hb
  refine Ev.rounds ?_
  unfold laws_FnExactDiskRead.f
  by_cases hn : (t.size : Int) > 1048576
  · exact Ev.ite_pos hn (Ev.now _)
  refine Ev.ite_neg hn (Ev.bind hs ?_)
  by_cases hneg : s < 0
  · exact Ev.ite_pos hneg (Ev.now _)
  · obtain ⟨h1, h2⟩ := hw (by omega)
    have h3 := total_cF l
    obtain ⟨r, hr1, hr2⟩ := read_same (l.map cF) a b c d e t (by simpa using h1) (by omega)
    refine Ev.ite_neg hneg (Ev.bind (to_disk l a b c d e h1) (Ev.bind hr2 (Ev.bind (to_disk l a b c d e h1) ?_)))
    simp only [hr1, Option.bind_some, if_true]
    refine Ev.step (f := fun k => (laws_toDisk.f k l a b c d e).bind fun bt312 => ((laws_eqDisk.f k (l.map cF) a b c d e bt312.1 bt312.2.1 bt312.2.2.1 bt312.2.2.2.1 bt312.2.2.2.2.1 bt312.2.2.2.2.2).bind fun t320 => (if t320 = true then (some true) else (some false)))) (fun k => by simp only [laws_FnExactDiskRead.j0]; rw [if_neg (by simp)]) ?_
    exact Ev.bind (to_disk l a b c d e h1) (Ev.bind (eq_disk (l.map cF) a b c d e (by rw [List.length_map]; omega)) (Ev.ite_pos rfl (Ev.now _)))
end Go.Proofs.Ytagchfmclccfgaa.Pure
