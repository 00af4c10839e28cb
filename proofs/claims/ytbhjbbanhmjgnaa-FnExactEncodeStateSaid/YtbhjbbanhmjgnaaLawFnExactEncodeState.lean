import Derived.Test.YtbhjbbanhmjgnaaRows
import Derived.Test.YtbhjbbanhmjgnaaF4
import Derived.Test.YtbhjbbanhmjgnaaStLaws
import Derived.Test.YtbhjbbanhmjgnaaO0
import Derived.WalkKit
import Derived.ProofKit
import Derived.OpenShut
import Derived.ShutString
import Derived.ChangeOld
import Derived.Below
import Derived.SizedLaws
namespace Go.Proofs.Ytbhjbbanhmjgnaa.fnExactEncodeState
open Go.ChangeShapes Go.WideShapes Go.ChangeAt Go.RowKit Go.Proofs.Ytbhjbbanhmjgnaa.M Go.Proofs.Ytbhjbbanhmjgnaa.Opn Go.Proofs.YtbhjbbanhmjgnaaW.PrintWords
open Go.ChangeMaps (open_string shut_string)
set_option linter.unusedVariables false
theorem own : ownKnob Try.prog.godebug = none := by kernel_rfl
theorem laidOut : laidOutB Try.prog = true := by kernel_rfl
theorem walk (P : Pure.FnExactEncodeStatePure) (W : World) (a0 : Int) (a1_0 : Int) (A1_1 : Option Addr) (c1_1 : Nat) (l1_1 : List (S113)) (hr1_1 : Kd.C k113 W A1_1 l1_1.length l1_1) (hc1_1 : l1_1.length ≤ c1_1) (hy0 : (Lit.int .i64 a0).wf = true) (hy1_0 : (Lit.int .i64 a1_0).wf = true) (hy1_1 : (l1_1.length ≤ maxLen ∧ ∀ y_ ∈ l1_1, b113 y_)) :
    Calls Try.prog 4 #[.int .i64 a0, .agg #[.int .i64 a1_0, .slice A1_1 l1_1.length c1_1]] W fun e w' => e = .returned (.bool true) ∧ Below W.heap.size W w' := by
  obtain ⟨k, h⟩ := P a0 a1_0 l1_1 hy0 hy1_0 hy1_1
  refine (laws_FnExactEncodeState.calls k a0 a1_0 A1_1 c1_1 l1_1 true W hr1_1 hc1_1 h).mono ?_
  rintro e w' ⟨rfl, hd⟩
  exact ⟨rfl, hd⟩
set_option maxRecDepth 100000 in
set_option maxHeartbeats 1000000 in
theorem lifted (os : Os) (started : os.Started) (H : Type) (enc : TypeId × Value → H) :
    ReturnsInHanded {} Try.checked os 4 .any (Rows.fnExactEncodeStateSpec.pre6 enc Try.prog Try.f4 Rows.fnExactEncodeStateRow.domain false) (Rows.fnExactEncodeStateSpec.post enc Try.prog Try.f4 false true false false) := by
  refine returnsInHanded_of_change_sized (C := Try.checked) own started (by kernel_rfl) Try.func4
    (ChangeSpec.witness6 (enc := enc) (C := Try.checked) false ⟨#[], #[.int .i64 0, .agg #[.int .i64 0, .slice none 0 0]], []⟩ 8 (by kernel_rfl) (by kernel_rfl) (by kernel_rfl) (by kernel_rfl)) ?_
  intro W base args ds gs before hval0 hW hcnd hsz0 _
  have hval : ∀ (j : Nat) t v, Try.f4.params[j]? = some t → args[j]? = some v → Value.okWide Try.prog W .any base t v := hval0
  have hW' := hW
  obtain ⟨p, q, hA0, hV, rfl, hfz, hnd⟩ := hW
  have hA : DataW.TrodAll enc Try.prog W 0 (fun _ => true) true Try.f4.params.toList args.toList ds p := hA0
  rw [Try.params4] at hA hval
  obtain ⟨v0, vs0, d0, ds0, p0, q0, hargs, rfl, rfl, h0, r0⟩ := trodAll_cons hA
  obtain ⟨v1, vs1, d1, ds1, p1, q1, rfl, rfl, rfl, h1, r1⟩ := trodAll_cons r0
  obtain ⟨rfl, rfl, rfl⟩ := trodAll_nil r1
  obtain rfl : args = #[v0, v1] := by cases args; simp_all
  obtain ⟨rfl, rfl⟩ := trodVars_none hV
  have k0 := h0
  have lt0 : ∀ x ∈ p0, x.block < W.heap.size := by obtain ⟨m, hm⟩ := k0; exact DataW.trod_lt m _ _ _ hm
  obtain ⟨a0, rfl, rfl, rfl, hy0⟩ := open_int Try.underlying3 (hval 0 3 v0 rfl rfl) h0
  have k1 := h1
  have lt1 : ∀ x ∈ p1, x.block < W.heap.size := by obtain ⟨m, hm⟩ := k1; exact DataW.trod_lt m _ _ _ hm
  obtain ⟨cs1, rfl, hz1⟩ := okWide_struct Try.underlying35 (hval 1 35 v1 rfl rfl)
  obtain ⟨fu1, hf1⟩ := h1
  obtain ⟨x1, K1, B1⟩ := opensP35 enc W _ _ _ hf1
  obtain ⟨_, _, e1, rfl, ⟨A1_1, c1_1, rfl, hc1_1, hr1_1⟩⟩ := K1
  obtain ⟨hy1_0, hy1_1⟩ := B1
  obtain rfl : cs1 = #[.int .i64 x1.1, .slice A1_1 (x1.2).length c1_1] := by
    cases cs1; simpa [Value.cells] using e1
  clear hA0 hval0 hsz0
  refine (walk Pure.FnExactEncodeState W a0 (x1.1) A1_1 c1_1 (x1.2) hr1_1 hc1_1 hy0 hy1_0 hy1_1).mono fun e W' ⟨he, bel⟩ => ?_
  subst he
  exact ⟨_, rfl, _, _, _, [], _, [], hW', trodAll_mk1 (shut_bool Try.underlying4 _), (trodAll_cons_mk (Below.trod laidOut (by kernel_rfl) (of_decide_eq_true (by kernel_rfl)) k0 bel lt0) (trodAll_cons_mk (Below.trod laidOut (by kernel_rfl) (of_decide_eq_true (by kernel_rfl)) k1 bel lt1) trodAll_mk0)), rfl, bel.frame _, fun h => by cases h⟩
theorem over : Rows.fnExactEncodeStateRow.holds Try.pinned (OpenSpec.ofChange Rows.fnExactEncodeStateSpec) :=
  OpenClaim.holds_of_wide 4 Try.f4 rfl rfl rfl rfl rfl rfl rfl ⟨rfl, rfl, rfl, rfl, rfl⟩ rfl rfl rfl rfl rfl (by kernel_rfl) Try.func4 (by kernel_rfl)
    (of_decide_eq_true (by kernel_rfl)) (by unfold Func.isWrapper; first | (rw [if_pos (by decide +kernel)]; kernel_rfl) | (rw [if_neg (by decide +kernel)]; exact ⟨rfl, rfl⟩))
    (fun os started H enc _ => lifted os started H enc)
theorem proved : Rows.FnExactEncodeStateSaid := over
#print axioms proved
end Go.Proofs.Ytbhjbbanhmjgnaa.fnExactEncodeState
namespace Go.Proofs.Ytbhjbbanhmjgnaa
/-- The row, under a short name, for the claim. -/
theorem fnExactEncodeState_holds : Rows.FnExactEncodeStateSaid := fnExactEncodeState.proved
end Go.Proofs.Ytbhjbbanhmjgnaa
