/- Lists of labels, as the laws copy, compare and weigh them: plain. -/
import Derived.Test.YtdfgfhnbcifheaaDoorWArr
import Derived.Test.YtdfgfhnbcifheaaDoorF8
import Derived.Test.YtdfgfhnbcifheaaDoorF10
import Derived.Test.YtdfgfhnbcifheaaDoorF12
import Derived.Test.YtdfgfhnbcifheaaDoorCan
import Derived.Test.YtdfgfhnbcifheaaDoorE0
namespace Go.Proofs.YtdfgfhnbcifheaaDoor.LabLaws
open Go.Proofs.YtdfgfhnbcifheaaDoor.M Go.Proofs.YtdfgfhnbcifheaaDoor.Loops Go.Proofs.YtdfgfhnbcifheaaDoorW.PrintWords Go.Proofs.YtdfgfhnbcifheaaDoorW.PrintLast Go.RowKit
abbrev LI := S43
abbrev LO := S38
def cL (x : LI) : LO := ⟨x.f0, x.f1⟩
theorem to_labels (l : List LI) (h : l.length ≤ 1048576) : Ev (fun k => laws_toLabelS.f k l) (l.map cL) := by
  unfold laws_toLabelS.f
  refine Ev.ite_pos (by omega) (Ev.ite_pos (by omega) ?_)
  rw [Int.toNat_natCast]
  exact fill_all laws_toLabelS.l0 (fun _ a => laws_toLabel.f a.f0 a.f1) (fun c => (⟨c.1, c.2⟩ : LO)) z43 z38
    (fun k x y i => by simp only [laws_toLabelS.l0]; rfl) (fun a => (a.f0, a.f1)) l (by omega) (fun a _ => Ev.now _)
theorem eq_labels (l : List LO) (h : l.length < 9223372036854775807) : Ev (fun k => laws_eqLabelS.f k l l) true := by
  unfold laws_eqLabelS.f
  refine Ev.ite_pos rfl ?_
  exact all_loop laws_eqLabelS.l0 (fun _ x y => laws_eqLabel.f x.f0 x.f1 y.f0 y.f1) z38 (fun k x y i => by simp only [laws_eqLabelS.l0]; rfl) l h (fun a _ => by
    unfold laws_eqLabel.f; simp only [if_true]; exact Ev.now _) l.length 0 (by omega)
def wtL (x : LI) : Nat := x.f0.size + x.f1.size
theorem sz_labels (l : List LI) (hl : l.length ≤ maxLen) (hb : ∀ y ∈ l, b43 y) (a : Int) (h0 : 0 ≤ a) (h1 : a ≤ 1048576) :
    ∃ t, Ev (fun k => laws_szLabelS.f k l a) t ∧ (0 ≤ t → t = a - ((l.length : Int) + (total wtL l : Nat))) := by
  unfold laws_szLabelS.f
  refine sz_list laws_szLabelS.l0 (fun _ x a => laws_szLabel.f x.f0 x.f1 a) z43 wtL (fun k x a i => by simp only [laws_szLabelS.l0]; rfl) l hl (fun e he a h0 h1 => ?_) a h0 h1
  obtain ⟨s0, s1⟩ := hb e he
  obtain ⟨t, ht, hw⟩ := sz_two e.f0.size e.f1.size s0 s1 a h0 h1
  exact ⟨t, ⟨0, fun _ _ => by unfold laws_szLabel.f; exact ht⟩, hw⟩
theorem fold_count : ∀ (k acc : List LO), (k.foldl CanSort.ins acc).length = acc.length + k.length
  | [], acc => rfl
  | x :: k, acc => by rw [List.foldl_cons, fold_count k, (CanSort.ins_perm acc x).length_eq, List.length_cons, List.length_cons]; omega
theorem order_count (k : List LO) : (CanSort.order k).length = k.length := by unfold CanSort.order; rw [fold_count]; simp
theorem fits (l : List LI) (h : l.length + total wtL l ≤ 1048576) : Can.Fit (l.map cL) := by
  intro y hy
  obtain ⟨x, hx, rfl⟩ := List.mem_map.1 hy
  have hw : x.f0.size + x.f1.size ≤ total wtL l := wt_le_total wtL l x hx
  show x.f0.size ≤ 1073741824 ∧ x.f1.size ≤ 1073741824
  omega
theorem can_len (l : List LO) : (Can.can l).1.length ≤ 16 := by
  unfold Can.can
  split
  · exact Nat.zero_le _
  · split
    · exact Nat.zero_le _
    · split
      · exact Nat.zero_le _
      · split
        · show (CanSort.order _).length ≤ 16
          rw [order_count]
          exact Nat.le_trans (List.length_filter_le _ _) (by omega)
        · exact Nat.zero_le _
end Go.Proofs.YtdfgfhnbcifheaaDoor.LabLaws
