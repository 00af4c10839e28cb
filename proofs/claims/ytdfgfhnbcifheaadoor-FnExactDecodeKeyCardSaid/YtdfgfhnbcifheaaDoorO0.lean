/- Some of this seat's texts, joined by prune.py. -/
import Derived.Test.YtdfgfhnbcifheaaDoorSShelf
import Derived.Test.YtdfgfhnbcifheaaDoorWMore
import Derived.Test.YtdfgfhnbcifheaaDoorF7
import Derived.Test.YtdfgfhnbcifheaaDoorWN
import Derived.Test.YtdfgfhnbcifheaaDoorF8
import Derived.Test.YtdfgfhnbcifheaaDoorF10
import Derived.Test.YtdfgfhnbcifheaaDoorF12
import Derived.Test.YtdfgfhnbcifheaaDoorCan
import Derived.Test.YtdfgfhnbcifheaaDoorTie
import Derived.Test.YtdfgfhnbcifheaaDoorXVf
import Derived.LaidLaws
import Derived.Lib.LaidU8
import Derived.Test.YtdfgfhnbcifheaaDoorF62
import Derived.Test.YtdfgfhnbcifheaaDoorF49
import Derived.Test.YtdfgfhnbcifheaaDoorF63
/- Some of this seat's texts, joined by prune.py. -/
/- Some of this seat's texts, joined by prune.py. -/
-- By pp.py, a program of this repo, with the kit's printer: Lean checks it.
namespace Go.Proofs.YtdfgfhnbcifheaaDoor.M
open Go.RowKit Go.Proofs.YtdfgfhnbcifheaaDoorW.PrintWords Go.Proofs.YtdfgfhnbcifheaaDoorW.PrintLast Go.Proofs.YtdfgfhnbcifheaaDoorW.PrintMore
attribute [local go_sem] max2_int min2_int max_two min_two max_three min_three max_four min_four
set_option linter.unusedVariables false
set_option linter.unusedSimpArgs false

open Go.Proofs.YtdfgfhnbcifheaaDoor.Opn
instance : Inhabited S43 := ⟨z43⟩
end Go.Proofs.YtdfgfhnbcifheaaDoor.M
-- By pp.py, a program of this repo, with the kit's printer: Lean checks it.
namespace Go.Proofs.YtdfgfhnbcifheaaDoor.M
open Go.RowKit Go.Proofs.YtdfgfhnbcifheaaDoorW.PrintWords Go.Proofs.YtdfgfhnbcifheaaDoorW.PrintLast Go.Proofs.YtdfgfhnbcifheaaDoorW.PrintMore
attribute [local go_sem] max2_int min2_int max_two min_two max_three min_three max_four min_four
set_option linter.unusedVariables false
set_option linter.unusedSimpArgs false

end Go.Proofs.YtdfgfhnbcifheaaDoor.M
namespace Go.Proofs.YtdfgfhnbcifheaaDoor.Pure
open Go.Proofs.YtdfgfhnbcifheaaDoor.M Go.RowKit
/-- What is left to prove of laws_FnExactDecodeKey. -/
def FnExactDecodeKeyPure : Prop := ∀ (a0 : ByteArray), a0.size ≤ maxLen → ∃ k, laws_FnExactDecodeKey.f k a0 = some true
end Go.Proofs.YtdfgfhnbcifheaaDoor.Pure
namespace Go.Proofs.YtdfgfhnbcifheaaDoor.M
end Go.Proofs.YtdfgfhnbcifheaaDoor.M
/- Lists of labels, as the laws copy, compare and weigh them: plain. -/
namespace Go.Proofs.YtdfgfhnbcifheaaDoor.LabLaws
open Go.Proofs.YtdfgfhnbcifheaaDoor.M Go.Proofs.YtdfgfhnbcifheaaDoor.Loops Go.Proofs.YtdfgfhnbcifheaaDoorW.PrintWords Go.Proofs.YtdfgfhnbcifheaaDoorW.PrintLast Go.RowKit
abbrev LO := S38
theorem eq_labels (l : List LO) (h : l.length < 9223372036854775807) : Ev (fun k => laws_eqLabelS.f k l l) true := by
  unfold laws_eqLabelS.f
  refine Ev.ite_pos rfl ?_
  exact all_loop laws_eqLabelS.l0 (fun _ x y => laws_eqLabel.f x.f0 x.f1 y.f0 y.f1) z38 (fun k x y i => by simp only [laws_eqLabelS.l0]; rfl) l h (fun a _ => by
    unfold laws_eqLabel.f; simp only [if_true]; exact Ev.now _) l.length 0 (by omega)
theorem fold_count : ∀ (k acc : List LO), (k.foldl CanSort.ins acc).length = acc.length + k.length
  | [], acc => rfl
  | x :: k, acc => by rw [List.foldl_cons, fold_count k, (CanSort.ins_perm acc x).length_eq, List.length_cons, List.length_cons]; omega
theorem order_count (k : List LO) : (CanSort.order k).length = k.length := by unfold CanSort.order; rw [fold_count]; simp
theorem can_len (l : List LO) : (Can.can l).1.length ≤ 16 := by
  unfold Can.can
  split
  · exact Nat.zero_le _
  · split
    · exact Nat.zero_le _
    · split
      · exact Nat.zero_le _
      · split
        · show (CanSort.order _).length ≤ 16
          rw [order_count]
          exact Nat.le_trans (List.length_filter_le _ _) (by omega)
        · exact Nat.zero_le _
end Go.Proofs.YtdfgfhnbcifheaaDoor.LabLaws
/- Some of this seat's texts, joined by prune.py. -/
/- The two tables of unicode/utf8, as the rows list them: what a walk reads; a world that holds them. -/
namespace Go.Proofs.YtdfgfhnbcifheaaDoor.Laid
open Go Go.Lib Go.Proofs Go.Proofs.YtdfgfhnbcifheaaDoor.M
theorem extra : U8Extra Tryd.prog Tryd.lays260_ren where
  n3 := by kernel_rfl
  n4 := by kernel_rfl
  y3 := by kernel_rfl
  y4 := by kernel_rfl
  c5 := by kernel_rfl
  c119 := by kernel_rfl
  c138 := by kernel_rfl
theorem first_eq : Rows.laid_unicode_utf8_first = firstData := by kernel_rfl
theorem accept_eq : (Rows.laid_unicode_utf8_acceptRanges : DataW Unit) = acceptData := by kernel_rfl
theorem tabs {W : World} (h : laidMet Tryd.prog [("unicode/utf8.acceptRanges", Rows.laid_unicode_utf8_acceptRanges), ("unicode/utf8.first", Rows.laid_unicode_utf8_first)] W) : Tabs W := by
  rw [first_eq, accept_eq] at h
  exact utf8Tabs_of_reads Tryd.lays260 extra (laidMet.reads h (by simp)) (laidMet.reads h (by simp))
/-- The cells of the two tables. -/
def firstCells : Array Value := (firstTab.map fun z => Value.int .u8 z).toArray
def acceptCells : Array Value := ((List.range 16).flatMap fun i => [Value.int .u8 (accLo i), Value.int .u8 (accHi i)]).toArray
def putRow_ (cs : Array Value) : Obj → Obj
  | .cells _ t frozen => .cells cs t frozen
  | o => o
/-- A world for the witness: the settled one, the tables' blocks hold what their initialisers lay. -/
noncomputable def laidWorld (os : Os) : World :=
  { World.holding Tryd.prog os ⟨#[], #[], []⟩ with heap := ((World.holding Tryd.prog os ⟨#[], #[], []⟩).heap.modify (Tryd.lays260_ren.g 3) (putRow_ firstCells)).modify (Tryd.lays260_ren.g 4) (putRow_ acceptCells) }
end Go.Proofs.YtdfgfhnbcifheaaDoor.Laid
/- Texts as bytes: plain. -/
namespace Go.Proofs.YtdfgfhnbcifheaaDoor.M
open Go.RowKit Go.Proofs.YtdfgfhnbcifheaaDoorW.PrintWords Go.Proofs.YtdfgfhnbcifheaaDoorW.PrintLast Go.Proofs.YtdfgfhnbcifheaaDoorW.PrintMore
namespace Enc
abbrev Lb := S38
/-- The lowest m bytes of v. -/
def nL (m : Nat) (v : Int) : List UInt8 := (Num.bytes m v).data.toList
theorem num_size (m : Nat) (v : Int) : (Num.bytes m v).size = m := by
  unfold Num.bytes
  rw [strOfNums_size]
  simp [Num.nums8]
theorem nL_length (m : Nat) (v : Int) : (nL m v).length = m := num_size m v
def s8L (s : ByteArray) : List UInt8 := nL 1 s.size ++ s.data.toList
def s16L (s : ByteArray) : List UInt8 := nL 2 s.size ++ s.data.toList
theorem len_ (s : ByteArray) : s.data.toList.length = s.size := rfl
theorem s8L_length (s : ByteArray) : (s8L s).length = 1 + s.size := by unfold s8L; rw [List.length_append, nL_length, len_]
theorem s16L_length (s : ByteArray) : (s16L s).length = 2 + s.size := by unfold s16L; rw [List.length_append, nL_length, len_]
def s8B (s : ByteArray) : ByteArray := Num.bytes 1 s.size ++ s
def s16B (s : ByteArray) : ByteArray := Num.bytes 2 s.size ++ s
theorem app_ (a b : ByteArray) : (a ++ b).data.toList = a.data.toList ++ b.data.toList := by
  rw [show (a ++ b).data = a.data ++ b.data from ByteArray.data_append]; simp
theorem s8B_list (s : ByteArray) : (s8B s).data.toList = s8L s := app_ _ _
theorem s16B_list (s : ByteArray) : (s16B s).data.toList = s16L s := app_ _ _
def labL (x : Lb) : List UInt8 := s8L x.f0 ++ s16L x.f1
def labsL (l : List Lb) : List UInt8 := l.flatMap labL
def LabOK (x : Lb) : Prop := x.f0.size ≤ 255 ∧ x.f1.size ≤ 65535
end Enc
end Go.Proofs.YtdfgfhnbcifheaaDoor.M
