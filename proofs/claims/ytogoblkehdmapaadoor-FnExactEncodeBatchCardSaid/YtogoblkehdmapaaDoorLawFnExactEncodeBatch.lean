import Derived.Test.YtogoblkehdmapaaDoorCards
import Derived.Test.YtogoblkehdmapaaDoorLaid
import Derived.Test.YtogoblkehdmapaaDoorF3
import Derived.Test.YtogoblkehdmapaaDoorBatLaws
import Derived.Test.YtogoblkehdmapaaDoorSmall
import Derived.WalkKit
import Derived.ProofKit
import Derived.OpenShut
import Derived.ShutString
import Derived.ChangeOld
import Derived.Below
import Derived.SizedLaws
import Derived.ChangeVars
import Derived.WalkSmall
import Derived.Deep.DeepHandedRow
namespace Go.Proofs.YtogoblkehdmapaaDoor.fnExactEncodeBatch
open Go.ChangeShapes Go.WideShapes Go.ChangeAt Go.RowKit Go.Proofs.YtogoblkehdmapaaDoor.M Go.Proofs.YtogoblkehdmapaaDoor.Opn Go.Proofs.YtogoblkehdmapaaDoorW.PrintWords
open Go.ChangeMaps (open_string shut_string)
set_option linter.unusedVariables false
theorem own : ownKnob Tryd.prog.godebug = none := by kernel_rfl
theorem laidOut : laidOutB Tryd.prog = true := by kernel_rfl
theorem walk (P : Pure.FnExactEncodeBatchPure) (W : World) (a0_0 : Int) (A0_1 : Option Addr) (c0_1 : Nat) (l0_1 : List (S73)) (hr0_1 : Kd.C k73 W A0_1 l0_1.length l0_1) (hc0_1 : l0_1.length ≤ c0_1) (hy0_0 : (Lit.int .i64 a0_0).wf = true) (hy0_1 : (l0_1.length ≤ maxLen ∧ ∀ y_ ∈ l0_1, b73 y_)) (hT : Tabs W) :
    Calls Tryd.prog 3 #[.agg #[.int .i64 a0_0, .slice A0_1 l0_1.length c0_1]] W fun e w' => e = .returned (.bool true) ∧ Below W.heap.size W w' := by
  obtain ⟨k, h⟩ := P a0_0 l0_1 hy0_0 hy0_1
  refine (laws_FnExactEncodeBatch.calls k a0_0 A0_1 c0_1 l0_1 true W hr0_1 hc0_1 h hT).mono ?_
  rintro e w' ⟨rfl, hd⟩
  exact ⟨rfl, hd⟩
theorem laid_met (os : Os) : laidMet Tryd.prog Rows.fnExactEncodeBatchRow.laid ((Laid.laidWorld os).forCall (fun _ _ => 0) ⟨#[], #[.agg #[.int .i64 0, .slice none 0 0]], []⟩).memory :=
  laidMet_of_run' 8 (by kernel_rfl) (by kernel_rfl)
theorem reads (os : Os) {H : Type} (enc : TypeId × Value → H) : ∃ x, DataW.whole enc Tryd.prog ((Laid.laidWorld os).forCall (fun _ _ => 0) ⟨#[], #[.agg #[.int .i64 0, .slice none 0 0]], []⟩).memory Tryd.f3.params.toList Rows.fnExactEncodeBatchSpec.vars false #[.agg #[.int .i64 0, .slice none 0 0]].toList 8 = some x :=
  Option.isSome_iff_exists.1 (by kernel_rfl)
set_option maxRecDepth 100000 in
set_option maxHeartbeats 1000000 in
theorem lifted (os : Os) (started : os.Started) (H : Type) (enc : TypeId × Value → H) (F : Stop.Interp) :
    ReturnsInHanded {} Tryd.checked os 3 .any ((OpenSpec.ofChange Rows.fnExactEncodeBatchSpec).preRow enc Tryd.prog Tryd.f3 Rows.fnExactEncodeBatchRow.domain false Rows.fnExactEncodeBatchRow.laid) (((OpenSpec.ofChange Rows.fnExactEncodeBatchSpec).at F).post enc Tryd.prog Tryd.f3 false true false false) := by
  obtain ⟨x, hx⟩ := reads os enc
  refine returnsInHanded_of_row (C := Tryd.checked) (s := OpenSpec.ofChange Rows.fnExactEncodeBatchSpec) own started (by kernel_rfl) Tryd.func3
    (witness_row_at (enc := enc) (C := Tryd.checked) false (Laid.laidWorld os) #[.agg #[.int .i64 0, .slice none 0 0]] rfl (by kernel_rfl) (by kernel_rfl) (by kernel_rfl)
      (OpenSpec.preRow_of_cond 8 hx (by kernel_rfl) (fun k hk => by cases hk) (by kernel_rfl) (laid_met os))) ?_
  intro W base args ds gs before hval0 hW _ hsz0 _ hL _ _
  have hT : Tabs W := Laid.tabs hL
  have hval : ∀ (j : Nat) t v, Tryd.f3.params[j]? = some t → args[j]? = some v → Value.okWide Tryd.prog W .any base t v := hval0
  have hW' := hW
  obtain ⟨p, q, hA0, hV, rfl, hfz, hnd⟩ := hW
  have hA : DataW.TrodAll enc Tryd.prog W 0 (fun _ => true) true Tryd.f3.params.toList args.toList ds p := hA0
  rw [Tryd.params3] at hA hval
  obtain ⟨v0, vs0, d0, ds0, p0, q0, hargs, rfl, rfl, h0, r0⟩ := trodAll_cons hA
  obtain ⟨rfl, rfl, rfl⟩ := trodAll_nil r0
  obtain rfl : args = #[v0] := by cases args; simp_all
  obtain ⟨gv, tv, cv, fv, dv, pv, rfl, hgv, htv, hvv, hdv, rfl⟩ := trodVars_one hV
  have hg0 : Tryd.prog.globalNamed "loop.example/s02176/impl.errShape" = some 0 := by kernel_rfl
  obtain rfl := Option.some.inj (hg0.symm.trans hgv)
  obtain rfl := Option.some.inj ((show (Tryd.prog.globals[0]?).map (·.type) = some 77 by kernel_rfl).symm.trans htv)
  have hvl : 0 < W.heap.size := by
    rcases Nat.lt_or_ge 0 W.heap.size with h | h
    · exact h
    · simp [World.var?, hgv, Array.getElem?_eq_none h] at hvv
  have ltv : ∀ x ∈ pv, x.block < W.heap.size := fun x hx => DataW.trod_lt fv _ _ _ hdv x hx
  have kv : DataW.Trod enc Tryd.prog W 0 (fun _ => true) true 77 (.agg cv) dv pv := ⟨fv, hdv⟩
  have k0 := h0
  have lt0 : ∀ x ∈ p0, x.block < W.heap.size := by obtain ⟨m, hm⟩ := k0; exact DataW.trod_lt m _ _ _ hm
  obtain ⟨cs0, rfl, hz0⟩ := okWide_struct Tryd.underlying24 (hval 0 24 v0 rfl rfl)
  obtain ⟨fu0, hf0⟩ := h0
  obtain ⟨x0, K0, B0⟩ := opensP24 enc W _ _ _ hf0
  obtain ⟨_, _, e0, rfl, ⟨A0_1, c0_1, rfl, hc0_1, hr0_1⟩⟩ := K0
  obtain ⟨hy0_0, hy0_1⟩ := B0
  obtain rfl : cs0 = #[.int .i64 x0.1, .slice A0_1 (x0.2).length c0_1] := by
    cases cs0; simpa [Value.cells] using e0
  clear hA0 hval0
  refine (walk Pure.FnExactEncodeBatch W (x0.1) A0_1 c0_1 (x0.2) hr0_1 hc0_1 hy0_0 hy0_1 hT).mono fun e W' ⟨he, bel⟩ => ?_
  subst he
  obtain ⟨fv', hdv'⟩ := Below.trod laidOut (by kernel_rfl) (of_decide_eq_true (by kernel_rfl)) kv bel ltv
  exact ⟨_, rfl, _, _, _, [], _, _, hW', trodAll_mk1 (shut_bool Tryd.underlying4 _), (trodAll_cons_mk (Below.trod laidOut (by kernel_rfl) (of_decide_eq_true (by kernel_rfl)) k0 bel lt0) trodAll_mk0), trodVars_mk1 hgv htv (var?_below bel hgv hvl hvv) hdv', bel.frame _, fun h => by cases h⟩
theorem said : Rows.FnExactEncodeBatchSaid :=
  OpenClaim.holds_of_cond 3 Tryd.f3 rfl rfl rfl rfl rfl rfl rfl ⟨rfl, rfl, rfl, rfl, rfl⟩ rfl rfl rfl rfl rfl (by kernel_rfl) Tryd.func3 (by kernel_rfl)
    (of_decide_eq_true (by kernel_rfl)) (by unfold Func.isWrapper; first | (rw [if_pos (by decide +kernel)]; kernel_rfl) | (rw [if_neg (by decide +kernel)]; exact ⟨rfl, rfl⟩))
    (fun os started H enc _ F => by rw [OpenClaim.pre_eq_preRow]; exact lifted os started H enc F)
theorem plain (f : FuncId) (fn : Func) (hf : Tryd.pinned.checked.prog.funcNamed "loop.example/s02176/laws.FnExactEncodeBatch" = some f) (hfn : Tryd.pinned.checked.prog.funcs[f]? = some fn) :
    true = Tryd.pinned.checked.prog.looks [] ∧ ∀ (j : Nat) t, fn.params[j]? = some t → Tryd.pinned.checked.prog.wantsStandIn t = false := by
  obtain rfl : f = 3 := Option.some.inj ((show Tryd.prog.funcNamed "loop.example/s02176/laws.FnExactEncodeBatch" = some 3 by kernel_rfl).symm.trans hf) |>.symm
  obtain rfl : fn = Tryd.f3 := (Option.some.inj (Tryd.func3.symm.trans hfn)).symm
  refine ⟨by kernel_rfl, fun j t ht => ?_⟩
  rw [Tryd.params3] at ht
  obtain rfl : t = 24 := by simpa using Array.mem_of_getElem? ht
  exact (show Tryd.prog.wantsStandIn 24 = false by kernel_rfl)
theorem proved : Rows.FnExactEncodeBatchCardSaid :=
  Claim7.holds_tied_plain_at .later [] _ _ _ _ said (fun _ h => by cases h) (by kernel_rfl) (fun _ h => by cases h) fnExactEncodeBatch_row_tie rfl ⟨rfl, rfl⟩ (by kernel_rfl) rfl plain (by kernel_rfl)
#print axioms proved
end Go.Proofs.YtogoblkehdmapaaDoor.fnExactEncodeBatch
namespace Go.Proofs.YtogoblkehdmapaaDoor
/-- The row, under a short name, for the claim. -/
theorem fnExactEncodeBatch_holds : Rows.FnExactEncodeBatchCardSaid := fnExactEncodeBatch.proved
end Go.Proofs.YtogoblkehdmapaaDoor
