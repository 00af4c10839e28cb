/- CRC-32C, plainly: the walk by a table of bytes' remainders comes to what the walk bit by bit comes to. -/
import Derived.Test.YtbhjbbanhmjgnaaXCrc
namespace Go.Proofs.Ytbhjbbanhmjgnaa.CrcPlain
open Go.Proofs.Ytbhjbbanhmjgnaa.M Go.Proofs.Ytbhjbbanhmjgnaa.M.Crc Go.Proofs.YtbhjbbanhmjgnaaW.PrintWords Go.Proofs.YtbhjbbanhmjgnaaW.PrintLast Go.RowKit

theorem bits_xor_nat (k : IntKind) (j : Nat) (hj : j ≤ k.bits) (hk : ∀ n : Int, 0 ≤ n → n < 2 ^ j → k.wrap n = n) (a b : Nat) (ha : a < 2 ^ j) (hb : b < 2 ^ j) :
    Go.bits .xor k a b = ((a ^^^ b : Nat) : Int) := by
  have hp : 2 ^ j ≤ 2 ^ k.bits := Nat.pow_le_pow_right (by decide) hj
  have ha' : a % 2 ^ k.bits = a := Nat.mod_eq_of_lt (Nat.lt_of_lt_of_le ha hp)
  have hb' : b % 2 ^ k.bits = b := Nat.mod_eq_of_lt (Nat.lt_of_lt_of_le hb hp)
  have cast : ∀ n : Nat, n < 2 ^ j → ((n : Nat) : Int) < 2 ^ j := fun n h => by exact_mod_cast h
  simp only [Go.bits, BitVec.ofInt_natCast, BitVec.toNat_xor, BitVec.toNat_ofNat, ha', hb']
  exact hk _ (Int.natCast_nonneg _) (cast _ (Nat.xor_lt_two_pow ha hb))
theorem wrap_u32 (n : Int) (h0 : 0 ≤ n) (h1 : n < 2 ^ 32) : IntKind.u32.wrap n = n := by rw [IntKind.wrap_u32]; omega
theorem wrap_u8 (n : Int) (h0 : 0 ≤ n) (h1 : n < 2 ^ 8) : IntKind.u8.wrap n = n := by rw [IntKind.wrap_u8]; omega
theorem wrap_i64 (n : Int) (h0 : 0 ≤ n) (h1 : n < 2 ^ 32) : IntKind.i64.wrap n = n := by rw [IntKind.wrap_i64]; omega
theorem xor32 (a b : Nat) (ha : a < 4294967296) (hb : b < 4294967296) : Go.bits .xor .u32 a b = ((a ^^^ b : Nat) : Int) := bits_xor_nat .u32 32 (by decide) wrap_u32 a b ha hb
theorem xor8 (a b : Nat) (ha : a < 256) (hb : b < 256) : Go.bits .xor .u8 a b = ((a ^^^ b : Nat) : Int) := bits_xor_nat .u8 8 (by decide) wrap_u8 a b ha hb
theorem xor64 (a b : Nat) (ha : a < 4294967296) (hb : b < 4294967296) : Go.bits .xor .i64 a b = ((a ^^^ b : Nat) : Int) := bits_xor_nat .i64 32 (by decide) wrap_i64 a b ha hb
theorem and1 (a : Nat) (ha : a < 4294967296) : Go.bits .and .u32 a 1 = ((a % 2 : Nat) : Int) := by
  have := bits_mask .u32 32 (by decide) wrap_u32 1 (by decide) a (by omega) (by omega)
  simpa using this

/-- One bit of a natural number. -/
def s (c : Nat) : Nat := (c / 2) ^^^ (if c % 2 = 1 then 2197175160 else 0)
theorem s_lt (c : Nat) (h : c < 4294967296) : s c < 4294967296 := by
  unfold s
  exact Nat.xor_lt_two_pow (n := 32) (by omega) (by split <;> decide)
theorem xor_div2 (x y : Nat) : (x ^^^ y) / 2 = x / 2 ^^^ y / 2 := by
  have := Nat.shiftRight_xor_distrib (a := x) (b := y) (i := 1)
  simpa [Nat.shiftRight_succ] using this
theorem xor_mod2 (x y : Nat) : (x ^^^ y) % 2 = (x % 2 + y % 2) % 2 := by
  have h := Nat.xor_mod_two_pow (a := x) (b := y) (n := 1)
  have hx : x % 2 = 0 ∨ x % 2 = 1 := by omega
  have hy : y % 2 = 0 ∨ y % 2 = 1 := by omega
  simp only [Nat.pow_one] at h
  rw [h]
  rcases hx with hx | hx <;> rcases hy with hy | hy <;> rw [hx, hy] <;> rfl
theorem s_xor (x y : Nat) : s (x ^^^ y) = s x ^^^ s y := by
  unfold s
  rw [xor_div2, xor_mod2]
  have hx : x % 2 = 0 ∨ x % 2 = 1 := by omega
  have hy : y % 2 = 0 ∨ y % 2 = 1 := by omega
  rcases hx with hx | hx <;> rcases hy with hy | hy <;> rw [hx, hy] <;> simp
  · rw [Nat.xor_assoc]
  · rw [Nat.xor_assoc, Nat.xor_comm (y / 2), ← Nat.xor_assoc]
  · rw [Nat.xor_assoc, Nat.xor_comm 2197175160, Nat.xor_assoc, Nat.xor_self, Nat.xor_zero]
def S : Nat → Nat → Nat
  | 0, c => c
  | k + 1, c => s (S k c)
theorem S_lt : ∀ k c, c < 4294967296 → S k c < 4294967296
  | 0, _, h => h
  | k + 1, c, h => s_lt _ (S_lt k c h)
theorem S_xor : ∀ k x y, S k (x ^^^ y) = S k x ^^^ S k y
  | 0, _, _ => rfl
  | k + 1, x, y => by
    show s (S k (x ^^^ y)) = s (S k x) ^^^ s (S k y)
    rw [S_xor k, s_xor]
/-- What has zeros at its end is shifted. -/
theorem S_shift : ∀ k h, S k (h * 2 ^ k) = h
  | 0, h => by show h * 1 = h; omega
  | k + 1, h => by
    show s (S k (h * 2 ^ (k + 1))) = h
    rw [show h * 2 ^ (k + 1) = (h * 2) * 2 ^ k by rw [Nat.pow_succ]; rw [Nat.mul_assoc, Nat.mul_comm 2], S_shift k]
    unfold s
    rw [if_neg (by omega), Nat.xor_zero]
    omega
theorem split8 (c : Nat) : c = (c / 256 * 2 ^ 8) ^^^ (c % 256) := by
  have h := Nat.two_pow_add_eq_or_of_lt (i := 8) (b := c % 256) (by omega) (c / 256)
  have h2 : (2 ^ 8 * (c / 256)) ^^^ (c % 256) = (2 ^ 8 * (c / 256)) ||| (c % 256) := by
    apply Nat.eq_of_testBit_eq
    intro i
    rw [Nat.testBit_xor, Nat.testBit_or, Nat.testBit_two_pow_mul]
    by_cases hi : 8 ≤ i
    · have : (c % 256).testBit i = false := Nat.testBit_lt_two_pow (Nat.lt_of_lt_of_le (show c % 256 < 2 ^ 8 by omega) (Nat.pow_le_pow_right (by decide) hi))
      rw [this]; simp
    · simp [hi]
  rw [Nat.mul_comm (c / 256), h2, ← h]
  omega
theorem S8 (c : Nat) : S 8 c = (c / 256) ^^^ S 8 (c % 256) := by
  rw [split8 c, S_xor, S_shift, ← split8 c]
theorem xor_lo (c b : Nat) (hb : b < 256) : (c ^^^ b) / 256 = c / 256 ∧ (c ^^^ b) % 256 = (c % 256) ^^^ b := by
  constructor
  · have h := Nat.shiftRight_xor_distrib (a := c) (b := b) (i := 8)
    rw [Nat.shiftRight_eq_div_pow, Nat.shiftRight_eq_div_pow, Nat.shiftRight_eq_div_pow] at h
    rw [show (2 ^ 8 : Nat) = 256 from rfl, Nat.div_eq_of_lt hb, Nat.xor_zero] at h
    exact h
  · have h := Nat.xor_mod_two_pow (a := c) (b := b) (n := 8)
    rw [show (2 ^ 8 : Nat) = 256 from rfl, Nat.mod_eq_of_lt hb] at h
    exact h
/-- By the table. -/
theorem by_table (c b : Nat) (hb : b < 256) : S 8 (c ^^^ b) = (c / 256) ^^^ S 8 ((c % 256) ^^^ b) := by
  rw [S8 (c ^^^ b), (xor_lo c b hb).1, (xor_lo c b hb).2]
/-- Bit by bit, with a byte's bits coming in. -/
def t (b : Nat) : Nat → Nat → Nat
  | 0, c => c
  | j + 1, c => (t b j c / 2) ^^^ (if (t b j c + b / 2 ^ j) % 2 = 1 then 2197175160 else 0)
theorem t_eq (b c : Nat) : ∀ j, t b j c = S j (c ^^^ b) ^^^ (b / 2 ^ j)
  | 0 => by
    show c = (c ^^^ b) ^^^ (b / 1)
    rw [Nat.div_one, Nat.xor_assoc, Nat.xor_self, Nat.xor_zero]
  | j + 1 => by
    show (t b j c / 2) ^^^ (if (t b j c + b / 2 ^ j) % 2 = 1 then 2197175160 else 0) = s (S j (c ^^^ b)) ^^^ (b / 2 ^ (j + 1))
    rw [t_eq b c j, xor_div2]
    have e : ((S j (c ^^^ b) ^^^ b / 2 ^ j) + b / 2 ^ j) % 2 = S j (c ^^^ b) % 2 := by
      have := xor_mod2 (S j (c ^^^ b)) (b / 2 ^ j)
      omega
    rw [e, Nat.pow_succ, ← Nat.div_div_eq_div_mul]
    unfold s
    rw [Nat.xor_assoc, Nat.xor_comm (b / 2 ^ j / 2), ← Nat.xor_assoc]
theorem t8 (b c : Nat) (hb : b < 256) : t b 8 c = (c / 256) ^^^ S 8 ((c % 256) ^^^ b) := by
  rw [t_eq, by_table c b hb, show b / 2 ^ 8 = 0 from Nat.div_eq_of_lt hb, Nat.xor_zero]
theorem t_lt (b c : Nat) (hb : b < 256) (hc : c < 4294967296) (j : Nat) : t b j c < 4294967296 := by
  rw [t_eq]
  exact Nat.xor_lt_two_pow (n := 32) (S_lt j _ (Nat.xor_lt_two_pow (n := 32) hc (by omega))) (Nat.lt_of_le_of_lt (Nat.div_le_self _ _) (by omega))

theorem stp_nat (c : Nat) (h : c < 4294967296) : stp c = (s c : Nat) := by
  unfold stp s
  rw [and1 c h]
  have e : (2197175160 * ((c % 2 : Nat) : Int)) % 4294967296 = ((if c % 2 = 1 then 2197175160 else 0 : Nat) : Int) := by
    split
    · rename_i h1; rw [h1]; rfl
    · have : c % 2 = 0 := by omega
      rw [this]; rfl
  rw [e, show ((c : Int) / 2) = ((c / 2 : Nat) : Int) by omega]
  exact xor32 _ _ (by omega) (by split <;> decide)
theorem stps_nat (c : Nat) (h : c < 4294967296) : ∀ k, stps c k = (S k c : Nat)
  | 0 => rfl
  | k + 1 => by
    show stp (stps c k) = _
    rw [stps_nat c h k, stp_nat _ (S_lt k c h)]
    rfl
theorem byt_nat (c b : Nat) (hc : c < 4294967296) (hb : b < 256) : byt c b = (t b 8 c : Nat) := by
  unfold byt ent
  rw [show ((c : Int) / 256) = ((c / 256 : Nat) : Int) by omega, show ((c : Int) % 256) = ((c % 256 : Nat) : Int) by omega, xor8 _ _ (by omega) hb]
  have hx : (c % 256) ^^^ b < 256 := Nat.xor_lt_two_pow (n := 8) (by omega) hb
  rw [Int.toNat_natCast, stps_nat _ (by omega), xor32 _ _ (by omega) (S_lt 8 _ (by omega)), t8 b c hb]
/-- The register after k bytes. -/
theorem upto_nat (a : ByteArray) (k : Nat) : ∃ c : Nat, c < 4294967296 ∧ upto a k = c := by
  obtain ⟨h0, h1⟩ := upto_range a k
  exact ⟨(upto a k).toNat, by omega, by omega⟩
theorem not32 (x : Nat) (h : x < 4294967296) : Go.bits .xor .u32 IntKind.u32.max x = 4294967295 - (x : Int) := by
  have e : Go.bits .xor .u32 IntKind.u32.max x = ((4294967295 ^^^ x : Nat) : Int) := xor32 4294967295 x (by decide) h
  have e2 : (BitVec.allOnes 32 ^^^ BitVec.ofNat 32 x).toNat = 4294967295 ^^^ x := by
    rw [BitVec.toNat_xor, BitVec.toNat_ofNat, Nat.mod_eq_of_lt h]; rfl
  rw [e, ← e2, BitVec.allOnes_xor, BitVec.toNat_not, BitVec.toNat_ofNat, Nat.mod_eq_of_lt h]
  omega
end Go.Proofs.Ytbhjbbanhmjgnaa.CrcPlain
