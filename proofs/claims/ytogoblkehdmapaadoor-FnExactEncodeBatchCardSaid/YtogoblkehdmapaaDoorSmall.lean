/- Some of this seat's texts, joined by prune.py. -/
import Derived.Test.YtogoblkehdmapaaDoorLoops
import Derived.Test.YtogoblkehdmapaaDoorLaid
import Derived.Test.YtogoblkehdmapaaDoorM0
import Derived.Test.YtogoblkehdmapaaDoorOpens
import Derived.Test.YtogoblkehdmapaaDoorXNum
import Derived.Test.YtogoblkehdmapaaDoorF47
/- Some of this seat's texts, joined by prune.py. -/
/- Small plain facts: the reference's l1Between; the size of a text. -/
namespace Go.Proofs.YtogoblkehdmapaaDoor.FramePlain
open Go.Proofs.YtogoblkehdmapaaDoor.M Go.Proofs.YtogoblkehdmapaaDoorW.PrintWords Go.Proofs.YtogoblkehdmapaaDoorW.PrintLast Go.RowKit
theorem between_eq (a b c : Int) : spec_l1Between.f a b c = some (decide (b ≤ a ∧ a ≤ c)) := by
  unfold spec_l1Between.f
  by_cases h : b ≤ a
  · rw [if_pos h]; simp [h]
  · rw [if_neg h]; simp [h]
end Go.Proofs.YtogoblkehdmapaaDoor.FramePlain
-- By pp.py, a program of this repo, with the kit's printer: Lean checks it.
namespace Go.Proofs.YtogoblkehdmapaaDoor.M
open Go.RowKit Go.Proofs.YtogoblkehdmapaaDoorW.PrintWords Go.Proofs.YtogoblkehdmapaaDoorW.PrintLast Go.Proofs.YtogoblkehdmapaaDoorW.PrintMore
attribute [local go_sem] max2_int min2_int max_two min_two max_three min_three max_four min_four
set_option linter.unusedVariables false
set_option linter.unusedSimpArgs false

open Go.Proofs.YtogoblkehdmapaaDoor.Opn
instance : Inhabited S73 := ⟨z73⟩
def b73 (x : S73) : Prop := (Lit.int .i64 x.f0).wf = true ∧ x.f1.size ≤ maxLen ∧ x.f2.size ≤ maxLen ∧ (Lit.int .i64 x.f3).wf = true
theorem opens73 : Opens Tryd.prog 73 k73 b73 := Opens.iso (Opens.struct Tryd.underlying73 (by kernel_rfl) (OpensFrom.cons rfl (by kernel_rfl) (Opens.int Tryd.underlying3) (OpensFrom.cons rfl (by kernel_rfl) (Opens.string Tryd.underlying9) (OpensFrom.cons rfl (by kernel_rfl) (Opens.string Tryd.underlying9) (OpensFrom.one rfl (by kernel_rfl) (Opens.int Tryd.underlying3)))))) (fun x : S73 => (x.f0, x.f1, x.f2, x.f3)) (fun a => (⟨a.1, a.2.1, a.2.2.1, a.2.2.2⟩ : S73)) (fun _ => rfl)
theorem opensP24 : Opens Tryd.prog 24 (Kd.pair (Kd.int .i64) (Kd.slice 73 k73)) (fun x => (Lit.int .i64 x.1).wf = true ∧ (x.2.length ≤ maxLen ∧ ∀ y_ ∈ x.2, b73 y_)) := Opens.struct Tryd.underlying24 (by kernel_rfl) (OpensFrom.cons rfl (by kernel_rfl) (Opens.int Tryd.underlying3) (OpensFrom.one rfl (by kernel_rfl) (Opens.slice Tryd.underlying22 (by kernel_rfl) opens73)))
end Go.Proofs.YtogoblkehdmapaaDoor.M
/- Texts as bytes: plain. -/
namespace Go.Proofs.YtogoblkehdmapaaDoor.M
open Go.RowKit Go.Proofs.YtogoblkehdmapaaDoorW.PrintWords Go.Proofs.YtogoblkehdmapaaDoorW.PrintLast Go.Proofs.YtogoblkehdmapaaDoorW.PrintMore
namespace Enc
/-- The lowest m bytes of v. -/
def nL (m : Nat) (v : Int) : List UInt8 := (Num.bytes m v).data.toList
theorem num_size (m : Nat) (v : Int) : (Num.bytes m v).size = m := by
  unfold Num.bytes
  rw [strOfNums_size]
  simp [Num.nums8]
theorem nL_length (m : Nat) (v : Int) : (nL m v).length = m := num_size m v
theorem num1 (v : Int) : impl_num.f 1 v = some (Num.bytes 1 v) := by unfold impl_num.f; simp
theorem num2 (v : Int) : impl_num.f 2 v = some (Num.bytes 2 v) := by unfold impl_num.f; simp
theorem num8 (v : Int) : impl_num.f 8 v = some (Num.bytes 8 v) := by unfold impl_num.f; simp
def s8L (s : ByteArray) : List UInt8 := nL 1 s.size ++ s.data.toList
def s16L (s : ByteArray) : List UInt8 := nL 2 s.size ++ s.data.toList
theorem len_ (s : ByteArray) : s.data.toList.length = s.size := rfl
theorem s8L_length (s : ByteArray) : (s8L s).length = 1 + s.size := by unfold s8L; rw [List.length_append, nL_length, len_]
theorem s16L_length (s : ByteArray) : (s16L s).length = 2 + s.size := by unfold s16L; rw [List.length_append, nL_length, len_]
def s8B (s : ByteArray) : ByteArray := Num.bytes 1 s.size ++ s
def s16B (s : ByteArray) : ByteArray := Num.bytes 2 s.size ++ s
theorem app_ (a b : ByteArray) : (a ++ b).data.toList = a.data.toList ++ b.data.toList := by
  rw [show (a ++ b).data = a.data ++ b.data from ByteArray.data_append]; simp
theorem s8B_list (s : ByteArray) : (s8B s).data.toList = s8L s := app_ _ _
theorem s16B_list (s : ByteArray) : (s16B s).data.toList = s16L s := app_ _ _
theorem s8B_size (s : ByteArray) : (s8B s).size = 1 + s.size := by have := s8L_length s; rw [← s8B_list] at this; exact this
theorem s16B_size (s : ByteArray) : (s16B s).size = 2 + s.size := by have := s16L_length s; rw [← s16B_list] at this; exact this
theorem s8f (s : ByteArray) (h : s.size ≤ 9223372036854775000) : impl_s8.f s = some (s8B s) := by
  unfold impl_s8.f
  rw [num1, Option.bind_some, if_pos (by rw [num_size]; omega)]; rfl
theorem s16f (s : ByteArray) (h : s.size ≤ 9223372036854775000) : impl_s16.f s = some (s16B s) := by
  unfold impl_s16.f
  rw [num2, Option.bind_some, if_pos (by rw [num_size]; omega)]; rfl
end Enc
end Go.Proofs.YtogoblkehdmapaaDoor.M
