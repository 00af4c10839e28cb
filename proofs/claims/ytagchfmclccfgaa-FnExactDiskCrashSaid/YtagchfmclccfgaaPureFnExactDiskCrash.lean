/- The program's DiskCrash answers what the reference's answers, for every disk and every list of numbers that the statement's guards let in; its answer owns its memory. No conditions. -/
import Derived.Test.YtagchfmclccfgaaDFnExactDiskCrash
import Derived.Test.YtagchfmclccfgaaXSDc
import Derived.Test.YtagchfmclccfgaaMarkDisk
namespace Go.Proofs.Ytagchfmclccfgaa.Pure
open Go.Proofs.Ytagchfmclccfgaa.M Go.Proofs.Ytagchfmclccfgaa.Loops Go.Proofs.Ytagchfmclccfgaa.DiskLaws Go.Proofs.Ytagchfmclccfgaa.DiskValid Go.Proofs.Ytagchfmclccfgaa.Mark Go.Proofs.YtagchfmclccfgaaW.PrintWords Go.Proofs.YtagchfmclccfgaaW.PrintLast Go.RowKit
theorem mark_disk (l : List FO) (a b c d : Int) (e : Bool) (hl : l.length ≤ 1048576) : Ev (fun k => laws_markDisk.f k l a b c d e 1) (((1 + 3 * l.length : Nat) : Int), marksF 1 l.length) := by
  unfold laws_markDisk.f
  exact Ev.bind (mark_files l 1 hl (by omega)) (Ev.now _)
theorem held_disk (n : Nat) (a b c d : Int) (e : Bool) (hn : n ≤ 1048576) : Ev (fun k => laws_heldDisk.f k (marksF 1 n) a b c d e 1) ((1 + 3 * n : Nat) : Int) := by
  unfold laws_heldDisk.f
  exact Ev.bind (held_files 1 n hn (by omega)) (Ev.ite_neg (by omega) (Ev.now _))
theorem crash_ans (l : List FO) (a b c d : Int) (e : Bool) (x : List Int) (hl : l.length ≤ 1048576) (ht : total wtD l ≤ 1048576) :
    ∃ (r : List FO) (n1 n2 n3 n4 : Int) (f : Bool), impl_DiskCrash.f l a b c d e x = some (r, n1, n2, n3, n4, f) ∧ r.length ≤ 1048576 := by
  unfold impl_DiskCrash.f
  rw [if_pos ⟨hl, ht⟩]
  by_cases hv : cdec (Valid l a b c d) = true
  · rw [if_pos hv]
    exact ⟨_, _, _, _, _, _, rfl, by unfold Dc.crashAll; simpa using hl⟩
  · rw [if_neg hv]
    exact ⟨_, _, _, _, _, _, rfl, by simp⟩
theorem FnExactDiskCrash : FnExactDiskCrashPure := by
  rintro l a b c d e x ⟨hl, hb⟩ _ _ _ _ _
  obtain ⟨s, hs, hw⟩ := sz_disk l a b c d e hl hb
  refine Ev.rounds ?_
  unfold laws_FnExactDiskCrash.f
  by_cases hn : (x.length : Int) > 1048576
  · exact Ev.ite_pos hn (Ev.now _)
  refine Ev.ite_neg hn (Ev.bind hs ?_)
  by_cases hneg : s < 0
  · exact Ev.ite_pos hneg (Ev.now _)
  · obtain ⟨h1, h2⟩ := hw (by omega)
    have h3 := total_cF l
    have hx : x.length ≤ 1048576 := by omega
    have hc : (l.map cF).length ≤ 1048576 := by rw [List.length_map]; exact h1
    obtain ⟨r, n1, n2, n3, n4, f, hr, hrl⟩ := crash_ans (l.map cF) a b c d e x hc (by omega)
    obtain ⟨y, hy⟩ := mark_ints x (1 + 3 * (l.map cF).length) hx (by omega)
    have hd := to_disk l a b c d e h1
    have hi := to_ints x hx
    have hq := eq_disk r n1 n2 n3 n4 f (by omega)
    refine Ev.ite_neg hneg (Ev.bind hd (Ev.bind hi ?_))
    simp only [spec_DiskCrash.f, hr, Option.bind_some]
    refine Ev.bind hd (Ev.bind hi ?_)
    simp only [hr, Option.bind_some]
    refine Ev.bind hq (Ev.ite_pos rfl (Ev.bind hd (Ev.bind (eq_disk (l.map cF) a b c d e (by omega)) (Ev.ite_pos rfl (Ev.bind hi (Ev.bind (eq_ints x hx) (Ev.ite_pos rfl (Ev.bind (mark_disk (l.map cF) a b c d e hc) (Ev.bind hy (Ev.ite_neg (by omega) (Ev.bind hq ?_)))))))))))
    refine Ev.step (f := fun k => (laws_markDisk.f k r n1 n2 n3 n4 f 1).bind fun bt414 => ((laws_heldDisk.f k bt414.2 n1 n2 n3 n4 f 1).bind fun t416 => (if t416 < 0 then (none) else (if t416 = bt414.1 then ((laws_toDisk.f k l a b c d e).bind fun bt417 => ((laws_toIntS.f k x).bind fun t425 => ((impl_DiskCrash.f bt417.1 bt417.2.1 bt417.2.2.1 bt417.2.2.2.1 bt417.2.2.2.2.1 bt417.2.2.2.2.2 t425).bind fun bt428 => ((laws_eqDisk.f k bt428.1 bt428.2.1 bt428.2.2.1 bt428.2.2.2.1 bt428.2.2.2.2.1 bt428.2.2.2.2.2 r n1 n2 n3 n4 f).bind fun t437 => (if t437 = true then ((laws_heldDisk.f k bt414.2 n1 n2 n3 n4 f 1).bind fun t438 => (if t438 < 0 then (none) else (if t438 = bt414.1 then (some true) else (none)))) else (none)))))) else (none))))) (fun k => by simp only [laws_FnExactDiskCrash.j0]; rw [if_neg (by simp)]) ?_
    have hh := held_disk r.length n1 n2 n3 n4 f hrl
    refine Ev.bind (mark_disk r n1 n2 n3 n4 f hrl) (Ev.bind hh (Ev.ite_neg (by omega) (Ev.ite_pos rfl (Ev.bind hd (Ev.bind hi ?_)))))
    simp only [hr, Option.bind_some]
    exact Ev.bind hq (Ev.ite_pos rfl (Ev.bind hh (Ev.ite_neg (by omega) (Ev.ite_pos rfl (Ev.now _)))))
end Go.Proofs.Ytagchfmclccfgaa.Pure
