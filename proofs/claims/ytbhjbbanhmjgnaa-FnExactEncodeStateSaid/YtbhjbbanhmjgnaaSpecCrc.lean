/- The reference's Crc32c, bit by bit, comes to what the program's comes to by its table. -/
import Derived.Test.YtbhjbbanhmjgnaaCrcPlain
import Derived.Test.YtbhjbbanhmjgnaaF37
namespace Go.Proofs.Ytbhjbbanhmjgnaa.CrcPlain
open Go.Proofs.Ytbhjbbanhmjgnaa.M Go.Proofs.Ytbhjbbanhmjgnaa.M.Crc Go.Proofs.YtbhjbbanhmjgnaaW.PrintWords Go.Proofs.YtbhjbbanhmjgnaaW.PrintLast Go.RowKit

/-- A byte's bits: the division's loop. -/
theorem l2_loop (a : ByteArray) (c x4 : Int) (b j : Nat) (hb : b < 256) (hj : j < 8) (r : Int) (d : Nat) : ∀ i, i + d = j →
    (∃ k, spec_Crc32c.l2 k a c x4 j (b / 2 ^ j : Nat) j = some r) → ∃ k, spec_Crc32c.l2 k a c x4 j (b / 2 ^ i : Nat) i = some r := by
  induction d with
  | zero =>
    intro i hi h
    obtain rfl : i = j := by omega
    exact h
  | succ d ih =>
    intro i hi h
    obtain ⟨k, hk⟩ := ih (i + 1) (by omega) h
    refine ⟨k + 1, ?_⟩
    simp only [spec_Crc32c.l2]
    have hle : b / 2 ^ i ≤ b := Nat.div_le_self _ _
    have e1 : wrap64 (((b / 2 ^ i : Nat) : Int).tdiv 2) = ((b / 2 ^ (i + 1) : Nat) : Int) := by
      rw [Nat.pow_succ, ← Nat.div_div_eq_div_mul]
      generalize b / 2 ^ i = q at hle ⊢
      rw [Int.tdiv_eq_ediv_of_nonneg (by omega)]
      unfold wrap64
      omega
    have e2 : wrap64 ((i : Int) + 1) = ((i + 1 : Nat) : Int) := by unfold wrap64; omega
    rw [if_pos (by omega), e1, e2]
    exact hk
/-- One bit of the walk. -/
theorem l1_step (a : ByteArray) (c b i j : Nat) (hc : c < 4294967296) (hi : i < a.size) (hb : bt a i = b) (hj : j < 8) (r : Int)
    (h : ∃ k, spec_Crc32c.l1 k a (t b (j + 1) c : Nat) i ((j + 1 : Nat) : Int) = some r) : ∃ k, spec_Crc32c.l1 k a (t b j c : Nat) i (j : Int) = some r := by
  have hb' : b < 256 := by have := bt_range a i; omega
  have ht := t_lt b c hb' hc j
  have hle : b / 2 ^ j ≤ b := Nat.div_le_self _ _
  obtain ⟨k, hk⟩ := h
  have h2 : ∃ k, spec_Crc32c.l2 k a (t b j c : Nat) i j (b / 2 ^ j : Nat) j = some r := by
    refine ⟨k + 1, ?_⟩
    simp only [spec_Crc32c.l2]
    have e1 : wrap64 (((t b j c : Nat) : Int) + ((b / 2 ^ j : Nat) : Int)) = ((t b j c + b / 2 ^ j : Nat) : Int) := by
      generalize b / 2 ^ j = q at hle ⊢
      unfold wrap64; omega
    have e2 : wrap64 (((t b j c : Nat) : Int).tdiv 2) = ((t b j c / 2 : Nat) : Int) := by
      rw [Int.tdiv_eq_ediv_of_nonneg (by omega)]; unfold wrap64; omega
    have e3 : wrap64 ((j : Int) + 1) = ((j + 1 : Nat) : Int) := by unfold wrap64; omega
    have e6 : (((t b j c + b / 2 ^ j : Nat) : Int)).tmod 2 = (((t b j c + b / 2 ^ j) % 2 : Nat) : Int) := by
      generalize t b j c + b / 2 ^ j = q
      rw [Int.tmod_eq_emod_of_nonneg (by omega)]; omega
    rw [if_neg (by omega), e1, e2, e3, e6]
    have e4 : t b (j + 1) c = (t b j c / 2) ^^^ (if (t b j c + b / 2 ^ j) % 2 = 1 then 2197175160 else 0) := rfl
    by_cases hq : (t b j c + b / 2 ^ j) % 2 = 1
    · rw [if_pos (by rw [hq]; rfl)]
      rw [e4, if_pos hq] at hk
      rw [show (2197175160 : Int) = ((2197175160 : Nat) : Int) from rfl, xor64 _ _ (by omega) (by decide)]
      exact hk
    · rw [if_neg (fun h => hq (by omega))]
      rw [e4, if_neg hq, Nat.xor_zero] at hk
      exact hk
  obtain ⟨k, hk⟩ := l2_loop a (t b j c : Nat) i b j hb' hj r j 0 (by omega) h2
  refine ⟨k + 1, ?_⟩
  simp only [spec_Crc32c.l1]
  have e5 : wrap64 (bt a (i : Int)) = ((b / 2 ^ 0 : Nat) : Int) := by rw [hb, Nat.pow_zero, Nat.div_one]; unfold wrap64; omega
  rw [if_pos (by omega), if_pos (by omega), if_pos (by omega), e5]
  exact hk
theorem l1_loop (a : ByteArray) (c b i : Nat) (hc : c < 4294967296) (hi : i < a.size) (hb : bt a i = b) (r : Int) (d : Nat) : ∀ j, j + d = 8 →
    (∃ k, spec_Crc32c.l1 k a (t b 8 c : Nat) i 8 = some r) → ∃ k, spec_Crc32c.l1 k a (t b j c : Nat) i (j : Int) = some r := by
  induction d with
  | zero =>
    intro j hj h
    obtain rfl : j = 8 := by omega
    exact h
  | succ d ih =>
    intro j hj h
    exact l1_step a c b i j hc hi hb (by omega) r (ih (j + 1) (by omega) h)
theorem l0_loop (a : ByteArray) (hn : a.size ≤ 9223372036854775807) (d : Nat) : ∀ i, i + d = a.size →
    ∃ k, spec_Crc32c.l0 k a (upto a i) i = some (wrap64 (Go.bits .xor .u32 IntKind.u32.max (upto a a.size))) := by
  induction d with
  | zero =>
    intro i hi
    obtain rfl : i = a.size := by omega
    refine ⟨1, ?_⟩
    simp only [spec_Crc32c.l0]
    rw [if_neg (by omega)]
    obtain ⟨c, hc, e⟩ := upto_nat a a.size
    rw [e, not32 c hc]
  | succ d ih =>
    intro i hi
    obtain ⟨c, hc, e⟩ := upto_nat a i
    obtain ⟨b0, b1⟩ := bt_range a i
    obtain ⟨b, hb⟩ := Int.eq_ofNat_of_zero_le b0
    have hb' : b < 256 := by omega
    have hs : upto a (i + 1) = (t b 8 c : Nat) := by
      show byt (upto a i) (bt a i) = _
      rw [e, hb]
      exact byt_nat c b hc hb'
    obtain ⟨k, hk⟩ := ih (i + 1) (by omega)
    have h8 : ∃ k, spec_Crc32c.l1 k a (t b 8 c : Nat) i 8 = some (wrap64 (Go.bits .xor .u32 IntKind.u32.max (upto a a.size))) := by
      refine ⟨k + 1, ?_⟩
      simp only [spec_Crc32c.l1]
      have e3 : wrap64 ((i : Int) + 1) = ((i + 1 : Nat) : Int) := by unfold wrap64; omega
      rw [if_neg (by omega), e3, ← hs]
      exact hk
    obtain ⟨k, hk⟩ := l1_loop a c b i hc (by omega) hb _ 8 0 (by omega) h8
    refine ⟨k + 1, ?_⟩
    simp only [spec_Crc32c.l0]
    rw [if_pos (by omega), e]
    exact hk
/-- THE TWO ARE ONE. -/
theorem spec_crc (a : ByteArray) (hn : a.size ≤ 9223372036854775807) : ∃ r, (∃ k, spec_Crc32c.f k a = some r) ∧ impl_Crc32c.f a = some r ∧ 0 ≤ r ∧ r ≤ 4294967295 := by
  refine ⟨_, l0_loop a hn a.size 0 (by omega), by unfold impl_Crc32c.f; rw [if_pos hn], ?_⟩
  obtain ⟨c, hc, e⟩ := upto_nat a a.size
  rw [e, not32 c hc]
  unfold wrap64
  omega
end Go.Proofs.Ytbhjbbanhmjgnaa.CrcPlain
