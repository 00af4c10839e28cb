/- The reference's l2Num gives the lowest bytes of a number, as the program's num does. -/
import Derived.Test.YtdfgfhnbcifheaaDoorXNum
import Derived.Test.YtdfgfhnbcifheaaDoorF36
namespace Go.Proofs.YtdfgfhnbcifheaaDoor.NumPlain
open Go.Proofs.YtdfgfhnbcifheaaDoor.M Go.Proofs.YtdfgfhnbcifheaaDoor.M.Num Go.Proofs.YtdfgfhnbcifheaaDoorW.PrintWords Go.Proofs.YtdfgfhnbcifheaaDoorW.PrintLast Go.RowKit

/-- The division's loop. -/
theorem l1_loop (v : Int) (xs : List Int) (i : Nat) (hi : i < 8) (r : ByteArray) (d : Nat) : ∀ j, j + d = i →
    (∃ k, spec_l2Num.l1 k v xs i (v / 256 ^ i) i = some r) → ∃ k, spec_l2Num.l1 k v xs i (v / 256 ^ j) j = some r := by
  induction d with
  | zero =>
    intro j hj h
    obtain rfl : j = i := by omega
    exact h
  | succ d ih =>
    intro j hj h
    obtain ⟨k, hk⟩ := ih (j + 1) (by omega) h
    refine ⟨k + 1, ?_⟩
    simp only [spec_l2Num.l1]
    have e2 : wrap64 ((j : Int) + 1) = ((j + 1 : Nat) : Int) := by unfold wrap64; omega
    rw [if_pos (by omega), arr8_div, e2]
    exact hk
/-- The first bytes of m. -/
def first (m : Nat) (v : Int) (n : Nat) : List Int := (List.range n).map fun p => byte8 v (8 - m + p)
theorem l0_loop (v : Int) (m : Nat) (hm : m ≤ 8) (d : Nat) : ∀ n, n + d = m →
    ∃ k, spec_l2Num.l0 k v (first m v n) ((m : Int) - 1 - n) = some (Num.bytes m v) := by
  induction d with
  | zero =>
    intro n hn
    obtain rfl : n = m := by omega
    refine ⟨1, ?_⟩
    simp only [spec_l2Num.l0]
    rw [if_neg (by omega)]
    rfl
  | succ d ih =>
    intro n hn
    obtain ⟨k, hk⟩ := ih (n + 1) (by omega)
    obtain ⟨k2, hk2⟩ := l1_loop v (first m v n) (m - 1 - n) (by omega) (Num.bytes m v) (m - 1 - n) 0 (by omega) ⟨k + 1, by
      simp only [spec_l2Num.l1]
      have e1 : wrap64 (((m - 1 - n : Nat) : Int) - 1) = (m : Int) - 1 - ((n + 1 : Nat) : Int) := by unfold wrap64; omega
      have e2 : first m v n ++ [v / 256 ^ (m - 1 - n) % 256] = first m v (n + 1) := by
        unfold first
        rw [List.range_succ, List.map_append]
        simp only [List.map_cons, List.map_nil, byte8]
        rw [show 7 - (8 - m + n) = m - 1 - n by omega]
      rw [if_neg (by omega), if_pos (by unfold first; rw [List.length_map, List.length_range]; omega), e1, e2]
      exact hk⟩
    refine ⟨k2 + 1, ?_⟩
    simp only [spec_l2Num.l0]
    rw [if_pos (by omega)]
    rw [show (m : Int) - 1 - (n : Int) = ((m - 1 - n : Nat) : Int) by omega]
    simpa using hk2
theorem spec_num (v : Int) (m : Nat) (hm : m ≤ 8) : Ev (fun k => spec_l2Num.f k m v) (Num.bytes m v) := by
  obtain ⟨k, hk⟩ := l0_loop v m hm m 0 (by omega)
  refine Ev.of (spec_l2Num.mono _ _) (k := k) ?_
  unfold spec_l2Num.f
  have e : wrap64 ((m : Int) - 1) = (m : Int) - 1 - ((0 : Nat) : Int) := by unfold wrap64; omega
  rw [e]
  exact hk
theorem bytes_size (m : Nat) (v : Int) : (Num.bytes m v).size = m := by
  unfold Num.bytes
  rw [strOfNums_size]
  simp [nums8]
end Go.Proofs.YtdfgfhnbcifheaaDoor.NumPlain
