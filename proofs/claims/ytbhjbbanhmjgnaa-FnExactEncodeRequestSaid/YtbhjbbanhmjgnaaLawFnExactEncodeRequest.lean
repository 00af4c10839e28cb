import Derived.Test.YtbhjbbanhmjgnaaRows
import Derived.Test.YtbhjbbanhmjgnaaF3
import Derived.Test.YtbhjbbanhmjgnaaReqLaws
import Derived.Test.YtbhjbbanhmjgnaaO0
import Derived.WalkKit
import Derived.ProofKit
import Derived.OpenShut
import Derived.ShutString
import Derived.ChangeOld
import Derived.Below
import Derived.SizedLaws
namespace Go.Proofs.Ytbhjbbanhmjgnaa.fnExactEncodeRequest
open Go.ChangeShapes Go.WideShapes Go.ChangeAt Go.RowKit Go.Proofs.Ytbhjbbanhmjgnaa.M Go.Proofs.Ytbhjbbanhmjgnaa.Opn Go.Proofs.YtbhjbbanhmjgnaaW.PrintWords
open Go.ChangeMaps (open_string shut_string)
set_option linter.unusedVariables false
theorem own : ownKnob Try.prog.godebug = none := by kernel_rfl
theorem laidOut : laidOutB Try.prog = true := by kernel_rfl
theorem walk (P : Pure.FnExactEncodeRequestPure) (W : World) (a0_0 : Int) (a0_1 : ByteArray) (a0_2 : ByteArray) (a0_3 : Int) (A0_4 : Option Addr) (c0_4 : Nat) (l0_4 : List (S98)) (hr0_4 : Kd.C k98 W A0_4 l0_4.length l0_4) (hc0_4 : l0_4.length ≤ c0_4) (hy0_0 : (Lit.int .i64 a0_0).wf = true) (hy0_1 : a0_1.size ≤ maxLen) (hy0_2 : a0_2.size ≤ maxLen) (hy0_3 : (Lit.int .i64 a0_3).wf = true) (hy0_4 : (l0_4.length ≤ maxLen ∧ ∀ y_ ∈ l0_4, b98 y_)) :
    Calls Try.prog 3 #[.agg #[.int .i64 a0_0, .string a0_1, .string a0_2, .int .i64 a0_3, .slice A0_4 l0_4.length c0_4]] W fun e w' => e = .returned (.bool true) ∧ Below W.heap.size W w' := by
  obtain ⟨k, h⟩ := P a0_0 a0_1 a0_2 a0_3 l0_4 hy0_0 hy0_1 hy0_2 hy0_3 hy0_4
  refine (laws_FnExactEncodeRequest.calls k a0_0 a0_1 a0_2 a0_3 A0_4 c0_4 l0_4 true W hr0_4 hc0_4 h).mono ?_
  rintro e w' ⟨rfl, hd⟩
  exact ⟨rfl, hd⟩
set_option maxRecDepth 100000 in
set_option maxHeartbeats 1000000 in
theorem lifted (os : Os) (started : os.Started) (H : Type) (enc : TypeId × Value → H) :
    ReturnsInHanded {} Try.checked os 3 .any (Rows.fnExactEncodeRequestSpec.pre6 enc Try.prog Try.f3 Rows.fnExactEncodeRequestRow.domain false) (Rows.fnExactEncodeRequestSpec.post enc Try.prog Try.f3 false true false false) := by
  refine returnsInHanded_of_change_sized (C := Try.checked) own started (by kernel_rfl) Try.func3
    (ChangeSpec.witness6 (enc := enc) (C := Try.checked) false ⟨#[], #[.agg #[.int .i64 0, .string ByteArray.empty, .string ByteArray.empty, .int .i64 0, .slice none 0 0]], []⟩ 8 (by kernel_rfl) (by kernel_rfl) (by kernel_rfl) (by kernel_rfl)) ?_
  intro W base args ds gs before hval0 hW hcnd hsz0 _
  have hval : ∀ (j : Nat) t v, Try.f3.params[j]? = some t → args[j]? = some v → Value.okWide Try.prog W .any base t v := hval0
  have hW' := hW
  obtain ⟨p, q, hA0, hV, rfl, hfz, hnd⟩ := hW
  have hA : DataW.TrodAll enc Try.prog W 0 (fun _ => true) true Try.f3.params.toList args.toList ds p := hA0
  rw [Try.params3] at hA hval
  obtain ⟨v0, vs0, d0, ds0, p0, q0, hargs, rfl, rfl, h0, r0⟩ := trodAll_cons hA
  obtain ⟨rfl, rfl, rfl⟩ := trodAll_nil r0
  obtain rfl : args = #[v0] := by cases args; simp_all
  obtain ⟨rfl, rfl⟩ := trodVars_none hV
  have k0 := h0
  have lt0 : ∀ x ∈ p0, x.block < W.heap.size := by obtain ⟨m, hm⟩ := k0; exact DataW.trod_lt m _ _ _ hm
  obtain ⟨cs0, rfl, hz0⟩ := okWide_struct Try.underlying24 (hval 0 24 v0 rfl rfl)
  obtain ⟨fu0, hf0⟩ := h0
  obtain ⟨x0, K0, B0⟩ := opensP24 enc W _ _ _ hf0
  obtain ⟨_, _, e0, rfl, ⟨_, _, rfl, rfl, ⟨_, _, rfl, rfl, ⟨_, _, rfl, rfl, ⟨A0_4, c0_4, rfl, hc0_4, hr0_4⟩⟩⟩⟩⟩ := K0
  obtain ⟨hy0_0, ⟨hy0_1, ⟨hy0_2, ⟨hy0_3, hy0_4⟩⟩⟩⟩ := B0
  obtain rfl : cs0 = #[.int .i64 x0.1, .string x0.2.1, .string x0.2.2.1, .int .i64 x0.2.2.2.1, .slice A0_4 (x0.2.2.2.2).length c0_4] := by
    cases cs0; simpa [Value.cells] using e0
  clear hA0 hval0 hsz0
  refine (walk Pure.FnExactEncodeRequest W (x0.1) (x0.2.1) (x0.2.2.1) (x0.2.2.2.1) A0_4 c0_4 (x0.2.2.2.2) hr0_4 hc0_4 hy0_0 hy0_1 hy0_2 hy0_3 hy0_4).mono fun e W' ⟨he, bel⟩ => ?_
  subst he
  exact ⟨_, rfl, _, _, _, [], _, [], hW', trodAll_mk1 (shut_bool Try.underlying4 _), (trodAll_cons_mk (Below.trod laidOut (by kernel_rfl) (of_decide_eq_true (by kernel_rfl)) k0 bel lt0) trodAll_mk0), rfl, bel.frame _, fun h => by cases h⟩
theorem over : Rows.fnExactEncodeRequestRow.holds Try.pinned (OpenSpec.ofChange Rows.fnExactEncodeRequestSpec) :=
  OpenClaim.holds_of_wide 3 Try.f3 rfl rfl rfl rfl rfl rfl rfl ⟨rfl, rfl, rfl, rfl, rfl⟩ rfl rfl rfl rfl rfl (by kernel_rfl) Try.func3 (by kernel_rfl)
    (of_decide_eq_true (by kernel_rfl)) (by unfold Func.isWrapper; first | (rw [if_pos (by decide +kernel)]; kernel_rfl) | (rw [if_neg (by decide +kernel)]; exact ⟨rfl, rfl⟩))
    (fun os started H enc _ => lifted os started H enc)
theorem proved : Rows.FnExactEncodeRequestSaid := over
#print axioms proved
end Go.Proofs.Ytbhjbbanhmjgnaa.fnExactEncodeRequest
namespace Go.Proofs.Ytbhjbbanhmjgnaa
/-- The row, under a short name, for the claim. -/
theorem fnExactEncodeRequest_holds : Rows.FnExactEncodeRequestSaid := fnExactEncodeRequest.proved
end Go.Proofs.Ytbhjbbanhmjgnaa
