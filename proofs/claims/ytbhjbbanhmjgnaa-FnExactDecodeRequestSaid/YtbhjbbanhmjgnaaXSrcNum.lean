/- (*source).num: the number that the next bytes give, high byte first; what is missing is short. -/
import Derived.Lib.SmallJoins
import Derived.Test.YtbhjbbanhmjgnaaF59
namespace Go.Proofs.Ytbhjbbanhmjgnaa.M
open Go.RowKit Go.Proofs.YtbhjbbanhmjgnaaW.PrintWords Go.Proofs.YtbhjbbanhmjgnaaW.PrintLast Go.Proofs.YtbhjbbanhmjgnaaW.PrintMore
set_option linter.unusedVariables false
set_option linter.unusedSimpArgs false
namespace SrcNum
/-- The number of the first k bytes of t. -/
def upto (t : ByteArray) : Nat → Int
  | 0 => 0
  | k + 1 => Go.bits .or .i64 (wrap64 (upto t k * 256)) (wrap64 (bt t (k : Int)))
end SrcNum
def impl_source_num.f (s0_0 : ByteArray) (a1 : Int) : Option (Int × ByteArray) := (impl_source_text.f s0_0 a1).bind fun t => if t.1.size ≤ 9223372036854775807 then some (SrcNum.upto t.1 t.1.size, t.2) else none
open SrcNum in
set_option maxHeartbeats 2000000 in
set_option maxRecDepth 100000 in
theorem impl_source_num.calls (g : Nat) (s0_0 : ByteArray) (a1 : Int) (r1 : Int) (r2 : ByteArray) (w0 w : World) (hI : IsS91 w0 w g s0_0) (hB : Below w0.heap.size w0 w) (h : impl_source_num.f s0_0 a1 = some (r1, r2)) :
    Calls Try.prog 43 #[.pointer (some ⟨g, 0, none⟩), .int .i64 a1] w fun e w' => e = .returned (.int .i64 r1) ∧ IsS91 w0 w' g r2 ∧ Below w0.heap.size w0 w' ∧ KeepBut w w' g none := by
  unfold impl_source_num.f at h
  obtain ⟨⟨t1, t2⟩, ht, h⟩ := Option.bind_eq_some_iff.mp h
  have hz : t1.size ≤ 9223372036854775807 := by
    by_cases hz : t1.size ≤ 9223372036854775807
    · exact hz
    · rw [if_neg hz] at h; cases h
  rw [if_pos hz] at h
  obtain ⟨hr1, hr2⟩ := Prod.mk.inj (Option.some.inj h)
  have HR1 := Aside0.mk hr1
  dsimp only at hr2
  subst hr2
  clear h hr1
  have HT := Aside0.mk ht
  clear ht
  have HIw := Aside0.mk hI
  have HBw := Aside0.mk hB
  clear hI hB
  go_enter Try.func43, Try.ntmps43
  go_wp2_with fail
  refine (impl_source_text.calls g s0_0 a1 t1 t2 w0 w HIw.out HBw.out HT.out).mono ?_
  rintro e w1 ⟨rfl, hi, hb, hk⟩
  have HI := Aside0.mk hi
  have HB := Aside0.mk hb
  have HK := Aside0.mk hk
  clear hi hb hk
  have hcv := Lib.run_convert_string_bytes (P := Try.prog) w1 9 54 5 t1 Try.underlying9 Try.underlying54 Try.underlying5
  go_wp2_with fail
  have HC := Aside0.mk (bytes_reads w1 5 t1 hz)
  have HB2 := Aside0.mk (Joins.below_bytesWorld w1.heap.size w1 5 t1 (Nat.le_refl _))
  clear hcv
  generalize Lib.bytesWorld w1 5 t1 = W2 at HC HB2 ⊢
  go_loop [5, 13] (fun v i => ∃ k : Nat, k ≤ t1.size ∧ i = .int .i64 k ∧ v = .int .i64 (upto t1 k)) (fun _ i => t1.size - (intOf i).toNat)
  case atStart => exact ⟨0, by omega, by simp, rfl⟩
  case round =>
    obtain ⟨k, hk, rfl, rfl⟩ := hrel
    obtain hk5 | hk6 : t1.size ≤ k ∨ k < t1.size := by omega
    · obtain rfl : k = t1.size := by omega
      go_wp2
      go_ret
      exact ⟨by rw [← HR1.out]; rfl, HI.out.below HB2.out, below_then HB.out HB.out.size HB2.out, KeepBut.trans HK.out (KeepBut.of_below HB2.out g none) (.inl rfl)⟩
    · obtain ⟨ad, e, hcell⟩ := HC.out.at_ (k : Int) (by omega) (by omega)
      obtain rfl : (⟨w1.heap.size, 0, none⟩ : Addr) = ad := by injection e
      rw [rd_bytesOf, add_plain, Int.toNat_natCast] at hcell
      clear e
      go_wp2
      go_round
      case rel => exact ⟨k + 1, by omega, by go_num, rfl⟩
      case measure => simp [intOf]; omega
end Go.Proofs.Ytbhjbbanhmjgnaa.M
