import Derived.Test.YtagchfmclccfgaaRows
import Derived.Test.YtagchfmclccfgaaF9
import Derived.Test.YtagchfmclccfgaaPureFnExactDiskValid
import Derived.Test.YtagchfmclccfgaaO0
import Derived.WalkKit
import Derived.ProofKit
import Derived.OpenShut
import Derived.ShutString
import Derived.ChangeOld
import Derived.Below
import Derived.SizedLaws
namespace Go.Proofs.Ytagchfmclccfgaa.fnExactDiskValid
open Go.ChangeShapes Go.WideShapes Go.ChangeAt Go.RowKit Go.Proofs.Ytagchfmclccfgaa.M Go.Proofs.Ytagchfmclccfgaa.Opn Go.Proofs.YtagchfmclccfgaaW.PrintWords
open Go.ChangeMaps (open_string shut_string)
set_option linter.unusedVariables false
theorem own : ownKnob Try.prog.godebug = none := by kernel_rfl
theorem laidOut : laidOutB Try.prog = true := by kernel_rfl
theorem walk (P : Pure.FnExactDiskValidPure) (W : World) (A0_0 : Option Addr) (c0_0 : Nat) (l0_0 : List (S93)) (a0_1 : Int) (a0_2 : Int) (a0_3 : Int) (a0_4 : Int) (a0_5 : Bool) (hr0_0 : Kd.C k93 W A0_0 l0_0.length l0_0) (hc0_0 : l0_0.length ≤ c0_0) (hy0_0 : (l0_0.length ≤ maxLen ∧ ∀ y_ ∈ l0_0, b93 y_)) (hy0_1 : (Lit.int .i64 a0_1).wf = true) (hy0_2 : (Lit.int .i64 a0_2).wf = true) (hy0_3 : (Lit.int .i64 a0_3).wf = true) (hy0_4 : (Lit.int .i64 a0_4).wf = true) :
    Calls Try.prog 9 #[.agg #[.slice A0_0 l0_0.length c0_0, .int .i64 a0_1, .int .i64 a0_2, .int .i64 a0_3, .int .i64 a0_4, .bool a0_5]] W fun e w' => e = .returned (.bool true) ∧ Below W.heap.size W w' := by
  obtain ⟨k, h⟩ := P l0_0 a0_1 a0_2 a0_3 a0_4 a0_5 hy0_0 hy0_1 hy0_2 hy0_3 hy0_4
  refine (laws_FnExactDiskValid.calls k A0_0 c0_0 l0_0 a0_1 a0_2 a0_3 a0_4 a0_5 true W hr0_0 hc0_0 h).mono ?_
  rintro e w' ⟨rfl, hd⟩
  exact ⟨rfl, hd⟩
set_option maxRecDepth 100000 in
set_option maxHeartbeats 1000000 in
theorem lifted (os : Os) (started : os.Started) (H : Type) (enc : TypeId × Value → H) :
    ReturnsInHanded {} Try.checked os 9 .any (Rows.fnExactDiskValidSpec.pre6 enc Try.prog Try.f9 Rows.fnExactDiskValidRow.domain false) (Rows.fnExactDiskValidSpec.post enc Try.prog Try.f9 false true false false) := by
  refine returnsInHanded_of_change_sized (C := Try.checked) own started (by kernel_rfl) Try.func9
    (ChangeSpec.witness6 (enc := enc) (C := Try.checked) false ⟨#[], #[.agg #[.slice none 0 0, .int .i64 0, .int .i64 0, .int .i64 0, .int .i64 0, .bool false]], []⟩ 8 (by kernel_rfl) (by kernel_rfl) (by kernel_rfl) (by kernel_rfl)) ?_
  intro W base args ds gs before hval0 hW hcnd hsz0 _
  have hval : ∀ (j : Nat) t v, Try.f9.params[j]? = some t → args[j]? = some v → Value.okWide Try.prog W .any base t v := hval0
  have hW' := hW
  obtain ⟨p, q, hA0, hV, rfl, hfz, hnd⟩ := hW
  have hA : DataW.TrodAll enc Try.prog W 0 (fun _ => true) true Try.f9.params.toList args.toList ds p := hA0
  rw [Try.params9] at hA hval
  obtain ⟨v0, vs0, d0, ds0, p0, q0, hargs, rfl, rfl, h0, r0⟩ := trodAll_cons hA
  obtain ⟨rfl, rfl, rfl⟩ := trodAll_nil r0
  obtain rfl : args = #[v0] := by cases args; simp_all
  obtain ⟨rfl, rfl⟩ := trodVars_none hV
  have k0 := h0
  have lt0 : ∀ x ∈ p0, x.block < W.heap.size := by obtain ⟨m, hm⟩ := k0; exact DataW.trod_lt m _ _ _ hm
  obtain ⟨cs0, rfl, hz0⟩ := okWide_struct Try.underlying36 (hval 0 36 v0 rfl rfl)
  obtain ⟨fu0, hf0⟩ := h0
  obtain ⟨x0, K0, B0⟩ := opensP36 enc W _ _ _ hf0
  obtain ⟨_, _, e0, ⟨A0_0, c0_0, rfl, hc0_0, hr0_0⟩, ⟨_, _, rfl, rfl, ⟨_, _, rfl, rfl, ⟨_, _, rfl, rfl, ⟨_, _, rfl, rfl, rfl⟩⟩⟩⟩⟩ := K0
  obtain ⟨hy0_0, ⟨hy0_1, ⟨hy0_2, ⟨hy0_3, ⟨hy0_4, hy0_5⟩⟩⟩⟩⟩ := B0
  obtain rfl : cs0 = #[.slice A0_0 (x0.1).length c0_0, .int .i64 x0.2.1, .int .i64 x0.2.2.1, .int .i64 x0.2.2.2.1, .int .i64 x0.2.2.2.2.1, .bool x0.2.2.2.2.2] := by
    cases cs0; simpa [Value.cells] using e0
  clear hA0 hval0 hsz0
  refine (walk Pure.FnExactDiskValid W A0_0 c0_0 (x0.1) (x0.2.1) (x0.2.2.1) (x0.2.2.2.1) (x0.2.2.2.2.1) (x0.2.2.2.2.2) hr0_0 hc0_0 hy0_0 hy0_1 hy0_2 hy0_3 hy0_4).mono fun e W' ⟨he, bel⟩ => ?_
  subst he
  exact ⟨_, rfl, _, _, _, [], _, [], hW', trodAll_mk1 (shut_bool Try.underlying4 _), (trodAll_cons_mk (Below.trod laidOut (by kernel_rfl) (of_decide_eq_true (by kernel_rfl)) k0 bel lt0) trodAll_mk0), rfl, bel.frame _, fun h => by cases h⟩
theorem over : Rows.fnExactDiskValidRow.holds Try.pinned (OpenSpec.ofChange Rows.fnExactDiskValidSpec) :=
  OpenClaim.holds_of_wide 9 Try.f9 rfl rfl rfl rfl rfl rfl rfl ⟨rfl, rfl, rfl, rfl, rfl⟩ rfl rfl rfl rfl rfl (by kernel_rfl) Try.func9 (by kernel_rfl)
    (of_decide_eq_true (by kernel_rfl)) (by unfold Func.isWrapper; first | (rw [if_pos (by decide +kernel)]; kernel_rfl) | (rw [if_neg (by decide +kernel)]; exact ⟨rfl, rfl⟩))
    (fun os started H enc _ => lifted os started H enc)
theorem proved : Rows.FnExactDiskValidSaid := over
#print axioms proved
end Go.Proofs.Ytagchfmclccfgaa.fnExactDiskValid
namespace Go.Proofs.Ytagchfmclccfgaa
/-- The row, under a short name, for the claim. -/
theorem fnExactDiskValid_holds : Rows.FnExactDiskValidSaid := fnExactDiskValid.proved
end Go.Proofs.Ytagchfmclccfgaa
