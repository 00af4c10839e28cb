/- SegmentName: 'wal-' and six decimal digits. -/
import Derived.Test.YtagchfmclccfgaaM0
namespace Go.Proofs.Ytagchfmclccfgaa.M
open Go.RowKit Go.Proofs.YtagchfmclccfgaaW.PrintWords Go.Proofs.YtagchfmclccfgaaW.PrintLast Go.Proofs.YtagchfmclccfgaaW.PrintMore
set_option linter.unusedVariables false
set_option linter.unusedSimpArgs false
namespace Seg
def dig (n : Int) : ByteArray := ⟨#[UInt8.ofNat (48 + n % 10).toNat]⟩
/-- The lowest k decimal digits of n, the highest first. -/
def digs : Nat → Int → ByteArray
  | 0, _ => ⟨#[]⟩
  | k + 1, n => dig (n / 10 ^ k) ++ digs k n
theorem digs_size : ∀ k n, (digs k n).size = k
  | 0, _ => rfl
  | k + 1, n => by
    show (dig (n / 10 ^ k) ++ digs k n).size = k + 1
    rw [ByteArray.size_append, digs_size k n]
    show 1 + k = k + 1
    omega
theorem enc (n : Int) (h0 : 0 ≤ n) : Utf8.encode (48 + n % 10) = dig n := by
  unfold Utf8.encode dig
  have hv : Utf8.valid (48 + n % 10) = true := by simp [Utf8.valid]; omega
  simp only [hv, if_true]
  rw [if_pos (by omega)]
theorem pow_step (n : Int) (k : Nat) : n / 10 ^ k / 10 = n / 10 ^ (k + 1) := by
  rw [Int.pow_succ, Int.ediv_ediv_of_nonneg]
  exact Int.pow_nonneg (by decide)
theorem le_div (n : Int) (h0 : 0 ≤ n) (k : Nat) : 0 ≤ n / 10 ^ k ∧ n / 10 ^ k ≤ n := by
  have hp : (0 : Int) < 10 ^ k := Int.pow_pos (by decide)
  exact ⟨Int.ediv_nonneg h0 (Int.le_of_lt hp), Int.ediv_le_self _ h0⟩
end Seg
def impl_SegmentName.f (a0 : Int) : Option (ByteArray) := some (if 1 ≤ a0 ∧ a0 ≤ 999999 then (⟨#[119, 97, 108, 45]⟩ : ByteArray) ++ Seg.digs 6 a0 else ⟨#[]⟩)
open Seg in
set_option maxHeartbeats 1000000 in
set_option maxRecDepth 100000 in
theorem impl_SegmentName.calls (a0 : Int) (r : ByteArray) (w : World) (h : impl_SegmentName.f a0 = some r) :
    Calls Try.prog 19 #[.int .i64 a0] w fun e w' => e = .returned (.string r) ∧ Below w.heap.size w w' := by
  have h := Option.some.inj h
  by_cases h1 : 1 ≤ a0
  case neg =>
    rw [if_neg (by omega)] at h
    subst h
    have h2 : a0 < 1 := by omega
    go_enter Try.func19, Try.ntmps19
    go_wp2
    go_ret
    exact ⟨rfl, Below.refl _ _⟩
  by_cases h2 : a0 ≤ 999999
  case neg =>
    rw [if_neg (by omega)] at h
    subst h
    have h3 : 999999 < a0 := by omega
    have h4 : ¬ a0 < 1 := by omega
    go_enter Try.func19, Try.ntmps19
    go_wp2
    go_ret
    exact ⟨rfl, Below.refl _ _⟩
  rw [if_pos ⟨h1, h2⟩] at h
  have H := Aside0.mk h
  clear h
  have h3 : ¬ a0 < 1 := by omega
  have h4 : ¬ 999999 < a0 := by omega
  go_enter Try.func19, Try.ntmps19
  go_wp2
  go_loop [0, 3, 10] (fun n d i => ∃ k : Nat, k ≤ 6 ∧ i = .int .i64 k ∧ n = .int .i64 (a0 / 10 ^ k) ∧ d = .string (digs k a0)) (fun _ _ i => 6 - (intOf i).toNat)
  case atStart => exact ⟨0, by omega, by simp, by simp, by simp [digs]⟩
  case round =>
    obtain ⟨k, hk, rfl, rfl, rfl⟩ := hrel
    obtain ⟨d0, d1⟩ := le_div a0 (by omega) k
    have hs := digs_size k a0
    obtain rfl | hk6 : k = 6 ∨ k < 6 := by omega
    · have HS := Aside0.mk hs
      clear hs
      have hz : (digs 6 a0).size ≤ 6 := by rw [HS.out]; omega
      go_wp2
      go_ret
      exact ⟨by rw [← H.out]; rfl, Below.refl _ _⟩
    · have E := Aside0.mk (enc (a0 / 10 ^ k) d0)
      have hz : (Utf8.encode (48 + a0 / 10 ^ k % 10)).size + (digs k a0).size ≤ 9223372036854775807 := by rw [E.out, hs]; show 1 + k ≤ _; omega
      have HS := Aside0.mk hs
      clear hs
      go_wp2
      go_round
      case rel => exact ⟨k + 1, by omega, by go_num, by rw [pow_step], by rw [E.out]; rfl⟩
      case measure => simp [intOf]; omega
end Go.Proofs.Ytagchfmclccfgaa.M
