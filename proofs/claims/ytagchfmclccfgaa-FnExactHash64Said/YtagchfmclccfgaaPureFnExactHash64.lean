/- The program's Hash64 answers what the reference's answers, for every string. No conditions. -/
import Derived.Test.YtagchfmclccfgaaPFnExactHash64x1
namespace Go.Proofs.Ytagchfmclccfgaa.Pure
open Go.RowKit Go.Proofs.Ytagchfmclccfgaa.PFnExactHash64 Go.Proofs.YtagchfmclccfgaaW.PrintWords Go.Proofs.YtagchfmclccfgaaW.PrintLast

theorem u64_mod (z : Int) : IntKind.u64.wrap z = z % 18446744073709551616 := by simp [IntKind.wrap, IntKind.bits, IntKind.signed]
theorem wrap64_congr {a b : Int} (h : a % 18446744073709551616 = b % 18446744073709551616) : wrap64 a = wrap64 b := by
  unfold wrap64; omega
theorem wrap64_mod (n : Int) : wrap64 n % 18446744073709551616 = n % 18446744073709551616 := by unfold wrap64; omega
theorem ofInt_wrap64 (n : Int) : BitVec.ofInt 64 (wrap64 n) = BitVec.ofInt 64 n := by
  apply BitVec.eq_of_toInt_eq
  rw [BitVec.toInt_ofInt, BitVec.toInt_ofInt]
  unfold wrap64
  rw [Int.bmod_def, Int.bmod_def]
  have : ((2 ^ 64 : Nat) : Int) = 18446744073709551616 := rfl
  rw [this]
  have e : (n + 9223372036854775808) % 18446744073709551616 - 9223372036854775808 = n - 18446744073709551616 * ((n + 9223372036854775808) / 18446744073709551616) := by omega
  rw [e, Int.sub_mul_emod_self_left]

theorem hash_step (h b : Int) (hb0 : 0 ≤ b) (hb : b ≤ 255) :
    wrap64 (Go.bits .xor .i64 (wrap64 h) (wrap64 b) * 1099511628211) = wrap64 (IntKind.u64.wrap (Go.bits .xor .u64 h (IntKind.u64.wrap b) * 1099511628211)) := by
  have e1 : wrap64 b = b := by unfold wrap64; omega
  have e2 : IntKind.u64.wrap b = b := by rw [u64_mod]; omega
  rw [e1, e2]
  have e3 : Go.bits .xor .i64 (wrap64 h) b = wrap64 ((BitVec.ofInt 64 (wrap64 h) ^^^ BitVec.ofInt 64 b).toNat : Int) := by
    show IntKind.i64.wrap _ = _; rw [IntKind.wrap_i64]; unfold wrap64; rfl
  have e4 : Go.bits .xor .u64 h b = ((BitVec.ofInt 64 h ^^^ BitVec.ofInt 64 b).toNat : Int) % 18446744073709551616 := by
    show IntKind.u64.wrap _ = _; rw [u64_mod]; rfl
  rw [e3, e4, ofInt_wrap64]
  generalize ((BitVec.ofInt 64 h ^^^ BitVec.ofInt 64 b).toNat : Int) = n
  rw [u64_mod]
  apply wrap64_congr
  rw [Int.emod_emod, Int.mul_emod, wrap64_mod, ← Int.mul_emod, Int.mul_emod (n % _), Int.emod_emod, ← Int.mul_emod]

theorem hash_loop (s : ByteArray) (hn : s.size ≤ 1048576) (d : Nat) : ∀ (k : Nat) (i : Int) (h : Int), 0 ≤ i → i ≤ s.size → (s.size : Int) - i = d → d < k →
    ∃ r, spec_Hash64.l0 k s (wrap64 h) i = some r ∧ impl_Hash64.l0 k s h (s.size : Int) i = some r := by
  induction d with
  | zero =>
    intro k i h h0 h1 hd hk
    obtain ⟨k, rfl⟩ : ∃ m, k = m + 1 := ⟨k - 1, by omega⟩
    refine ⟨wrap64 h, ?_, ?_⟩
    · simp only [spec_Hash64.l0]; rw [if_neg (by omega)]
    · simp only [impl_Hash64.l0]; rw [if_neg (by omega)]
  | succ d ih =>
    intro k i h h0 h1 hd hk
    obtain ⟨k, rfl⟩ : ∃ m, k = m + 1 := ⟨k - 1, by omega⟩
    have hlt : i < (s.size : Int) := by omega
    have hw : wrap64 (i + 1) = i + 1 := by unfold wrap64; omega
    obtain ⟨b0, b1⟩ := bt_range s i
    have st := hash_step h (bt s i) b0 b1
    obtain ⟨r, hr1, hr2⟩ := ih k (i + 1) (IntKind.u64.wrap (Go.bits .xor .u64 h (IntKind.u64.wrap (bt s i)) * 1099511628211)) (by omega) (by omega) (by omega) (by omega)
    refine ⟨r, ?_, ?_⟩
    · simp only [spec_Hash64.l0]; rw [if_pos hlt, if_pos h0, hw, st]; exact hr1
    · simp only [impl_Hash64.l0]; rw [if_pos hlt, if_pos h0, if_pos hlt, hw]; exact hr2

theorem FnExactHash64 : laws_FnExactHash64.Pure := by
  intro s _
  by_cases hn : (s.size : Int) > 1048576
  · exact ⟨0, by unfold laws_FnExactHash64.f; rw [if_pos hn]⟩
  · obtain ⟨r, h1, h2⟩ := hash_loop s (by omega) s.size (s.size + 1) 0 14695981039346656037 (by omega) (by omega) (by omega) (by omega)
    refine ⟨s.size + 1, ?_⟩
    unfold laws_FnExactHash64.f spec_Hash64.f impl_Hash64.f
    have e : wrap64 14695981039346656037 = -3750763034362895579 := by unfold wrap64; omega
    rw [e] at h1
    rw [if_neg hn, h1, h2]
    simp

end Go.Proofs.Ytagchfmclccfgaa.Pure
