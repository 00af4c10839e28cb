/- Small plain facts: the reference's l1Between; the size of a text. -/
import Derived.Test.YtbhjbbanhmjgnaaLoops
import Derived.Test.YtbhjbbanhmjgnaaF33
namespace Go.Proofs.Ytbhjbbanhmjgnaa.FramePlain
open Go.Proofs.Ytbhjbbanhmjgnaa.M Go.Proofs.YtbhjbbanhmjgnaaW.PrintWords Go.Proofs.YtbhjbbanhmjgnaaW.PrintLast Go.RowKit
theorem between_eq (a b c : Int) : spec_l1Between.f a b c = some (decide (b ≤ a ∧ a ≤ c)) := by
  unfold spec_l1Between.f
  by_cases h : b ≤ a
  · rw [if_pos h]; simp [h]
  · rw [if_neg h]; simp [h]
theorem size_list (a : ByteArray) : a.toList.length = a.size := by
  rw [ByteArray.toList_eq, Array.length_toList]; rfl
theorem size_zero {a : ByteArray} : a.toList = [] ↔ a.size = 0 := by
  rw [← size_list]
  exact List.length_eq_zero_iff.symm
end Go.Proofs.Ytbhjbbanhmjgnaa.FramePlain
