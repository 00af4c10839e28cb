/- Frame: the reference's and the program's come to one answer. -/
import Derived.Test.YtagchfmclccfgaaSpecNum
import Derived.Test.YtagchfmclccfgaaSpecCrc
import Derived.Test.YtagchfmclccfgaaF22
import Derived.Test.YtagchfmclccfgaaF23
namespace Go.Proofs.Ytagchfmclccfgaa.FramePlain
open Go.Proofs.Ytagchfmclccfgaa.M Go.Proofs.YtagchfmclccfgaaW.PrintWords Go.Proofs.YtagchfmclccfgaaW.PrintLast Go.RowKit
theorem impl_num4 (v : Int) : impl_num.f 4 v = some (Num.bytes 4 v) := by unfold impl_num.f; simp
theorem impl_num1 (v : Int) : impl_num.f 1 v = some (Num.bytes 1 v) := by unfold impl_num.f; simp
theorem impl_num2 (v : Int) : impl_num.f 2 v = some (Num.bytes 2 v) := by unfold impl_num.f; simp
theorem impl_num8 (v : Int) : impl_num.f 8 v = some (Num.bytes 8 v) := by unfold impl_num.f; simp
theorem between_eq (a b c : Int) : spec_l1Between.f a b c = some (decide (b ≤ a ∧ a ≤ c)) := by
  unfold spec_l1Between.f
  by_cases h : b ≤ a
  · rw [if_pos h]; simp [h]
  · rw [if_neg h]; simp [h]
/-- The frame of a payload. -/
def frame (a : ByteArray) (c : Int) : ByteArray := if 1 ≤ a.size ∧ a.size ≤ 60000 then (Num.bytes 4 a.size ++ Num.bytes 4 c) ++ a else ⟨#[]⟩
theorem spec_frame (a : ByteArray) (c : Int) (hc : Ev (fun k => spec_Crc32c.f k a) c) : Ev (fun k => spec_Frame.f k a) (frame a c) := by
  unfold spec_Frame.f frame
  simp only [between_eq, Option.bind_some, decide_eq_true_eq]
  by_cases h : 1 ≤ a.size ∧ a.size ≤ 60000
  · have h' : (1 : Int) ≤ a.size ∧ (a.size : Int) ≤ 60000 := by omega
    simp only [if_pos h, if_pos h']
    refine Ev.bind (NumPlain.spec_num a.size 4 (by decide)) (Ev.bind hc (Ev.bind (NumPlain.spec_num c 4 (by decide)) ?_))
    rw [if_pos (by rw [NumPlain.bytes_size, NumPlain.bytes_size]; omega), if_pos (by rw [ByteArray.size_append, NumPlain.bytes_size, NumPlain.bytes_size]; omega)]
    exact Ev.now _
  · have h' : ¬ ((1 : Int) ≤ a.size ∧ (a.size : Int) ≤ 60000) := by omega
    simp only [if_neg h, if_neg h']
    exact Ev.now _
theorem size_list (a : ByteArray) : a.toList.length = a.size := by
  rw [ByteArray.toList_eq, Array.length_toList]; rfl
theorem size_zero {a : ByteArray} : a.toList = [] ↔ a.size = 0 := by
  rw [← size_list]
  exact List.length_eq_zero_iff.symm
theorem impl_frame (a : ByteArray) (c : Int) (hc : impl_Crc32c.f a = some c) : Ev (fun k => impl_Frame.f k a) (frame a c) := by
  unfold impl_Frame.f frame
  by_cases h0 : a.toList = []
  · have hs := size_zero.1 h0
    simp only [if_pos h0]
    rw [if_neg (by omega)]
    exact Ev.step (f := fun _ => some _) (fun k => by simp only [impl_Frame.j0]; rfl) (Ev.now _)
  · have hs : a.size ≠ 0 := fun h => h0 (size_zero.2 h)
    simp only [if_neg h0]
    by_cases h : a.size ≤ 60000
    · rw [if_pos (by omega)]
      refine Ev.step (f := fun _ => some _) (fun k => ?_) (Ev.now _)
      simp only [impl_Frame.j0]
      rw [if_neg (by simp; omega), impl_num4, hc]
      simp only [Option.bind_some]
      rw [impl_num4, Option.bind_some, if_pos (by rw [NumPlain.bytes_size, NumPlain.bytes_size]; omega), if_pos (by rw [ByteArray.size_append, NumPlain.bytes_size, NumPlain.bytes_size]; omega)]
    · rw [if_neg (by omega)]
      refine Ev.step (f := fun _ => some _) (fun k => ?_) (Ev.now _)
      simp only [impl_Frame.j0]
      rw [if_pos (by simp; omega)]
theorem frame_same (a : ByteArray) (ha : a.size ≤ 9223372036854775807) : ∃ r, Ev (fun k => spec_Frame.f k a) r ∧ Ev (fun k => impl_Frame.f k a) r := by
  obtain ⟨c, ⟨k, h1⟩, h2, _⟩ := CrcPlain.spec_crc a ha
  exact ⟨frame a c, spec_frame a c (Ev.of (spec_Crc32c.mono _) h1), impl_frame a c h2⟩
end Go.Proofs.Ytagchfmclccfgaa.FramePlain
