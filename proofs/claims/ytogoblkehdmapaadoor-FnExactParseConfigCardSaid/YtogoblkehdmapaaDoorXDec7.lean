/- spec.l7Dec: a number's decimal letters (it calls itself: by the number's size). -/
import Derived.Deep.RegionHeld3
import Derived.StillTailTactics
import Derived.Deep.DeepCutAuto
import Derived.BigQuiet
import Derived.BigCall
import Derived.Test.YtogoblkehdmapaaDoorM0
namespace Go.Proofs.YtogoblkehdmapaaDoor.M
open Go.RowKit Go.Proofs.YtogoblkehdmapaaDoorW.PrintWords Go.Proofs.YtogoblkehdmapaaDoorW.PrintLast Go.Proofs.YtogoblkehdmapaaDoorW.PrintMore
set_option linter.unusedVariables false
set_option linter.unusedSimpArgs false
namespace Dec7
abbrev D : ByteArray := ⟨#[48, 49, 50, 51, 52, 53, 54, 55, 56, 57]⟩
def dec (n : Nat) : ByteArray := if n < 10 then D.extract n (n + 1) else dec (n / 10) ++ D.extract (n % 10) (n % 10 + 1)
termination_by n
decreasing_by omega
theorem dec_small {n : Nat} (h : n < 10) : dec n = D.extract n (n + 1) := by rw [dec, if_pos h]
theorem dec_big {n : Nat} (h : ¬ n < 10) : dec n = dec (n / 10) ++ D.extract (n % 10) (n % 10 + 1) := by rw [dec, if_neg h]
set_option maxHeartbeats 2000000 in
set_option maxRecDepth 100000 in
theorem dec_size (m : Nat) : ∀ n, n ≤ m → (dec n).size ≤ n + 1 := by
  induction m with
  | zero =>
    intro n h
    obtain rfl : n = 0 := by omega
    rw [dec_small (by omega), ByteArray.size_extract]; omega
  | succ m ih =>
    intro n h
    by_cases h0 : n < 10
    · rw [dec_small h0, ByteArray.size_extract]; omega
    · have := ih (n / 10) (by omega)
      rw [dec_big h0, ByteArray.size_append, ByteArray.size_extract]
      omega
theorem slice_D (d : Nat) (h : d < 10) (x : Int) (hx : x = (d : Int)) (y : Int) (hy : y = (d : Int) + 1) (W : World) : (Instr.slice 9 (.string D) (some (.int .i64 x)) (some (.int .i64 y)) none).run Tryd.prog W = .ok (.string (D.extract d (d + 1))) W := by
  subst hx hy
  have := run_slice_string (P := Tryd.prog) (w := W) 9 D .i64 .i64 (d : Int) ((d : Int) + 1) Tryd.underlying9 (by omega) (by omega) (by show (d : Int) + 1 ≤ 10; omega)
  rw [this]
  congr 3
theorem walk (m : Nat) : ∀ (n : Nat) (w : World), n ≤ m → n ≤ 140000000000000 →
    Calls Tryd.prog 54 #[.int .i64 (n : Int)] w fun e w' => e = .returned (.string (dec n)) ∧ Below w.heap.size w w' := by
  induction m with
  | zero =>
    intro n w hm hb
    obtain rfl : n = 0 := by omega
    rw [dec_small (by omega)]
    go_enter Tryd.func54, Tryd.ntmps54
    go_wp2_with fail
    go_ret
    exact ⟨rfl, Below.refl _ _⟩
  | succ m ih =>
    intro n w hm hb
    have c0 : decide ((n : Int) < 0) = false := decide_eq_false (by omega)
    by_cases h : n < 10
    · rw [dec_small h]
      have c1 : decide ((n : Int) < 10) = true := decide_eq_true (by omega)
      have w1 : IntKind.i64.wrap ((n : Int) + 1) = ((n + 1 : Nat) : Int) := by rw [i64_w]; unfold wrap64; omega
      have hs := slice_D n h (n : Int) rfl ((n : Int) + 1) rfl
      generalize D.extract n (n + 1) = r at hs ⊢
      go_enter Tryd.func54, Tryd.ntmps54
      go_wp2_with fail
      go_ret
      exact ⟨rfl, Below.refl _ _⟩
    · rw [dec_big h]
      have c1 : decide ((n : Int) < 10) = false := decide_eq_false (by omega)
      have q1 : IntKind.i64.wrap ((n : Int) / 10) = ((n / 10 : Nat) : Int) := by rw [i64_w]; unfold wrap64; omega
      have q2 : Int.tmod (n : Int) 10 = ((n % 10 : Nat) : Int) := by rw [Int.tmod_eq_emod_of_nonneg (by omega)]; omega
      have w1 : IntKind.i64.wrap (Int.tmod (n : Int) 10 + 1) = ((n % 10 : Nat) : Int) + 1 := by rw [i64_w, q2]; unfold wrap64; omega
      have hs := slice_D (n % 10) (by omega) _ q2 _ w1
      have hI : ∀ w, Calls Tryd.prog 54 #[.int .i64 (IntKind.i64.wrap ((n : Int) / 10))] w fun e w' => e = .returned (.string (dec (n / 10))) ∧ Below w.heap.size w w' := fun w => by rw [q1]; exact ih (n / 10) w (by omega) (by omega)
      clear q1 q2 w1 ih
      have hz1 : (dec (n / 10)).size ≤ n / 10 + 1 := dec_size _ _ (Nat.le_refl _)
      have hz2 : (D.extract (n % 10) (n % 10 + 1)).size ≤ 1 := by rw [ByteArray.size_extract]; omega
      have hz : ¬ (9223372036854775807 < (dec (n / 10)).size + (D.extract (n % 10) (n % 10 + 1)).size) := by omega
      clear hz1 hz2
      generalize D.extract (n % 10) (n % 10 + 1) = r at hs hz ⊢
      generalize dec (n / 10) = r2 at hI hz ⊢
      go_enter Tryd.func54, Tryd.ntmps54
      go_wp2_with fail
      go_region_held3 (fun W' => True) (exact trivial) (first | (go_at_call 54; refine (hI _).mono ?_; rintro e W1 ⟨rfl, hB1⟩))
      go_wp2_with fail
      go_ret
      exact ⟨rfl, below_step (below_drew1 (Below.refl _ _)) hB1⟩
end Dec7
def spec_l7Dec.f (n : Int) : Option ByteArray := if 0 ≤ n then if n ≤ 140000000000000 then some (Dec7.dec n.toNat) else none else none
theorem spec_l7Dec.calls (a0 : Int) (r : ByteArray) (w : World) (h : spec_l7Dec.f a0 = some r) :
    Calls Tryd.prog 54 #[.int .i64 a0] w fun e w' => e = .returned (.string r) ∧ Below w.heap.size w w' := by
  unfold spec_l7Dec.f at h
  by_cases h0 : 0 ≤ a0
  · rw [if_pos h0] at h
    by_cases h1 : a0 ≤ 140000000000000
    · rw [if_pos h1] at h
      obtain rfl := Option.some.inj h
      have := Dec7.walk a0.toNat a0.toNat w (Nat.le_refl _) (by omega)
      rwa [Int.toNat_of_nonneg h0] at this
    · rw [if_neg h1] at h; cases h
  · rw [if_neg h0] at h; cases h
end Go.Proofs.YtogoblkehdmapaaDoor.M
