/- The program's SegmentName answers what the reference's answers, for every number. No conditions. -/
import Derived.Test.YtagchfmclccfgaaDFnExactSegmentName
namespace Go.Proofs.Ytagchfmclccfgaa.Pure
open Go.Proofs.Ytagchfmclccfgaa.M Go.Proofs.YtagchfmclccfgaaW.PrintWords Go.Proofs.YtagchfmclccfgaaW.PrintLast Go.RowKit

theorem seg_loop (n : Int) (h0 : 1 ≤ n) (h1 : n ≤ 999999) (d : Nat) : ∀ (k j : Nat), j + d = 6 → d < k → spec_SegmentName.l0 k (n / 10 ^ j) (Seg.digs j n) j = some ((⟨#[119, 97, 108, 45]⟩ : ByteArray) ++ Seg.digs 6 n) := by
  induction d with
  | zero =>
    intro k j hj hk
    obtain ⟨k, rfl⟩ : ∃ m, k = m + 1 := ⟨k - 1, by omega⟩
    obtain rfl : j = 6 := by omega
    simp only [spec_SegmentName.l0]
    rw [if_neg (by omega), if_pos (by rw [Seg.digs_size]; omega)]
  | succ d ih =>
    intro k j hj hk
    obtain ⟨k, rfl⟩ : ∃ m, k = m + 1 := ⟨k - 1, by omega⟩
    obtain ⟨d0, d1⟩ := Seg.le_div n (by omega) j
    have e1 : wrap64 (48 + (n / 10 ^ j).tmod 10) = 48 + (n / 10 ^ j) % 10 := by
      rw [Int.tmod_eq_emod_of_nonneg d0]; unfold wrap64; omega
    have e2 : wrap64 ((n / 10 ^ j).tdiv 10) = n / 10 ^ (j + 1) := by
      rw [Int.tdiv_eq_ediv_of_nonneg d0, Seg.pow_step]
      obtain ⟨d2, d3⟩ := Seg.le_div n (by omega) (j + 1)
      unfold wrap64; omega
    have e3 : wrap64 ((j : Int) + 1) = ((j + 1 : Nat) : Int) := by unfold wrap64; omega
    have e4 : strOfNums [(48 + (n / 10 ^ j) % 10) % 256] = Seg.dig (n / 10 ^ j) := by
      have : (48 + (n / 10 ^ j) % 10) % 256 = 48 + (n / 10 ^ j) % 10 := by omega
      rw [this]; rfl
    simp only [spec_SegmentName.l0]
    rw [if_pos (by omega), Option.bind_some, e1, e4, if_pos (by rw [Seg.digs_size]; show 1 + j ≤ _; omega), e2, e3]
    exact ih k (j + 1) (by omega) (by omega)

theorem FnExactSegmentName : FnExactSegmentNamePure := by
  intro n _
  refine ⟨7, ?_⟩
  unfold laws_FnExactSegmentName.f spec_SegmentName.f impl_SegmentName.f spec_l1Between.f
  by_cases h : 1 ≤ n ∧ n ≤ 999999
  · have hl := seg_loop n h.1 h.2 6 7 0 (by omega) (by omega)
    have e : n / 10 ^ 0 = n := by simp
    rw [e] at hl
    rw [if_pos h.1, Option.bind_some, if_pos (by simpa using h.2)]
    change (spec_SegmentName.l0 7 n (⟨#[]⟩ : ByteArray) 0).bind _ = _
    have hl' : spec_SegmentName.l0 7 n (⟨#[]⟩ : ByteArray) 0 = _ := hl
    rw [hl', if_pos h]
    simp
  · rw [if_neg h]
    by_cases h1 : 1 ≤ n
    · have h2 : ¬ n ≤ 999999 := fun h2 => h ⟨h1, h2⟩
      rw [if_pos h1]; simp [h2]
    · rw [if_neg h1]; simp
end Go.Proofs.Ytagchfmclccfgaa.Pure
