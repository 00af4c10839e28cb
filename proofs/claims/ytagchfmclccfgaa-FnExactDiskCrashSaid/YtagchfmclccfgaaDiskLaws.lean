/- Disks, as the laws copy, compare and weigh them: plain. -/
import Derived.Test.YtagchfmclccfgaaLoops
import Derived.Test.YtagchfmclccfgaaFB
import Derived.Test.YtagchfmclccfgaaO0
namespace Go.Proofs.Ytagchfmclccfgaa.DiskLaws
open Go.Proofs.Ytagchfmclccfgaa.M Go.Proofs.Ytagchfmclccfgaa.Loops Go.Proofs.YtagchfmclccfgaaW.PrintWords Go.Proofs.YtagchfmclccfgaaW.PrintLast Go.RowKit
abbrev FI := S93
abbrev FO := S71
def cF (x : FI) : FO := ⟨x.f0, x.f1, x.f2⟩
theorem to_files (l : List FI) (h : l.length ≤ 1048576) : Ev (fun k => laws_toFileS.f k l) (l.map cF) := by
  unfold laws_toFileS.f
  refine Ev.ite_pos (by omega) (Ev.ite_pos (by omega) ?_)
  rw [Int.toNat_natCast]
  exact fill_all laws_toFileS.l0 (fun _ a => laws_toFile.f a.f0 a.f1 a.f2) (fun c => (⟨c.1, c.2.1, c.2.2⟩ : FO)) z93 z71
    (fun k x y i => by simp only [laws_toFileS.l0]; rfl) (fun a => (a.f0, a.f1, a.f2)) l (by omega) (fun a _ => Ev.now _)
theorem to_disk (l : List FI) (a b c d : Int) (e : Bool) (h : l.length ≤ 1048576) : Ev (fun k => laws_toDisk.f k l a b c d e) (l.map cF, a, b, c, d, e) := by
  unfold laws_toDisk.f
  exact Ev.bind (to_files l h) (Ev.now _)
theorem eq_files (l : List FO) (h : l.length < 9223372036854775807) : Ev (fun k => laws_eqFileS.f k l l) true := by
  unfold laws_eqFileS.f
  refine Ev.ite_pos rfl ?_
  exact all_loop laws_eqFileS.l0 (fun _ x y => laws_eqFile.f x.f0 x.f1 x.f2 y.f0 y.f1 y.f2) z71 (fun k x y i => by simp only [laws_eqFileS.l0]; rfl) l h (fun a _ => by
    unfold laws_eqFile.f; simp only [if_true]; exact Ev.now _) l.length 0 (by omega)
theorem eq_disk (l : List FO) (a b c d : Int) (e : Bool) (h : l.length < 9223372036854775807) : Ev (fun k => laws_eqDisk.f k l a b c d e l a b c d e) true := by
  unfold laws_eqDisk.f
  refine Ev.bind (eq_files l h) ?_
  simp only [if_true, bne_self_eq_false]
  exact Ev.now _
def wtF (x : FI) : Nat := x.f0.size + x.f1.size
theorem sz_disk (l : List FI) (a b c d : Int) (e : Bool) (hl : l.length ≤ maxLen) (hb : ∀ y ∈ l, b93 y) :
    ∃ t, Ev (fun k => laws_szDisk.f k l a b c d e 1048576) t ∧ (0 ≤ t → l.length ≤ 1048576 ∧ l.length + total wtF l ≤ 1048576) := by
  have hl' : l.length ≤ 9223372036854775807 := hl
  unfold laws_szDisk.f laws_szFileS.f
  by_cases h0 : l.length ≤ 1048576
  · have e1 : wrap64 (1048576 - (l.length : Int)) = 1048576 - (l.length : Int) := by unfold wrap64; omega
    obtain ⟨t, ht, hw⟩ := sz_loop laws_szFileS.l0 (fun _ x a => laws_szFile.f x.f0 x.f1 x.f2 a) z93 wtF (fun k x a i => by simp only [laws_szFileS.l0]; rfl) l (by omega) (fun x hx a h0 h1 => by
      obtain ⟨s0, s1, _⟩ := hb x hx
      have s0' : x.f0.size ≤ 9223372036854775807 := s0
      have s1' : x.f1.size ≤ 9223372036854775807 := s1
      unfold laws_szFile.f
      have e2 : wrap64 (a - (x.f0.size : Int)) = a - (x.f0.size : Int) := by unfold wrap64; omega
      rw [e2]
      by_cases hneg : a - (x.f0.size : Int) < 0
      · rw [if_pos hneg]; exact ⟨-1, Ev.now _, fun h => by omega⟩
      · rw [if_neg hneg]
        have e3 : wrap64 (a - (x.f0.size : Int) - (x.f1.size : Int)) = a - (x.f0.size : Int) - (x.f1.size : Int) := by unfold wrap64; omega
        rw [e3]
        by_cases hneg2 : a - (x.f0.size : Int) - (x.f1.size : Int) < 0
        · rw [if_pos hneg2]; exact ⟨-1, Ev.now _, fun h => by omega⟩
        · rw [if_neg hneg2]; exact ⟨_, Ev.now _, fun _ => by unfold wtF; omega⟩) l.length 0 (1048576 - (l.length : Int)) (by omega) (by omega) (by omega)
    simp only [e1, if_neg (show ¬ (1048576 - (l.length : Int) < 0) by omega)]
    by_cases hneg : t < 0
    · exact ⟨-1, Ev.bind ht (by simp only [if_pos hneg]; exact Ev.now _), fun h => by omega⟩
    · refine ⟨t, Ev.bind ht (by simp only [if_neg hneg]; exact Ev.now _), fun h => ⟨h0, ?_⟩⟩
      have := hw h
      rw [List.drop_zero] at this
      omega
  · have e1 : wrap64 (1048576 - (l.length : Int)) < 0 := by unfold wrap64; omega
    simp only [if_pos e1]
    exact ⟨-1, Ev.bind (Ev.now _) (by simp only [if_pos (show (-1 : Int) < 0 by omega)]; exact Ev.now _), fun h => by omega⟩
end Go.Proofs.Ytagchfmclccfgaa.DiskLaws
