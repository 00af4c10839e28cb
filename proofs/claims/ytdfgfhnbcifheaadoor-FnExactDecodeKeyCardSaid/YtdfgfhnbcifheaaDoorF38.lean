/- Some of this seat's texts, joined by prune.py. -/
import Derived.Test.YtdfgfhnbcifheaaDoorSShelf
import Derived.Test.YtdfgfhnbcifheaaDoorF36
import Derived.WalkKit
import Derived.Test.YtdfgfhnbcifheaaDoorShelf
-- By pp.py, a program of this repo, with the kit's printer: Lean checks it.
namespace Go.Proofs.YtdfgfhnbcifheaaDoor.M
open Go.RowKit Go.Proofs.YtdfgfhnbcifheaaDoorW.PrintWords Go.Proofs.YtdfgfhnbcifheaaDoorW.PrintLast Go.Proofs.YtdfgfhnbcifheaaDoorW.PrintMore
attribute [local go_sem] max2_int min2_int max_two min_two max_three min_three max_four min_four
set_option linter.unusedVariables false
set_option linter.unusedSimpArgs false

/-! ### spec_l2S16: function 38 -/
def spec_l2S16.f (k : Nat) (a0 : ByteArray) : Option (ByteArray) := (spec_l2Num.f k 2 (a0.size : Int)).bind fun t210 => (if t210.size + a0.size ≤ 9223372036854775807 then (some (t210 ++ a0)) else (none))
theorem spec_l2S16.mono : ∀ a0 k, LeO (spec_l2S16.f k a0) (spec_l2S16.f (k + 1) a0) := by
  intro a0 k
  unfold spec_l2S16.f
  repeat' first
      | (with_reducible exact spec_l2Num.mono _ _ _)
      | (with_reducible exact LeO.refl _)
      | (with_reducible exact LeO.none _)
      | (with_reducible refine LeO.ite ?_ ?_)
      | (with_reducible refine LeO.bind ?_ (fun _ => ?_))
      | exact spec_l2Num.mono _ _ _
      | exact LeO.none _
      | refine LeO.ite ?_ ?_
      | refine LeO.bind ?_ (fun _ => ?_)
set_option maxHeartbeats 8000000 in
set_option maxRecDepth 100000 in
theorem spec_l2S16.calls (k : Nat) (a0 : ByteArray) (r : ByteArray) (w : World) (h : spec_l2S16.f k a0 = some r) :
    Calls Tryd.prog 38 #[.string a0] w fun e w' => e = .returned (.string r) ∧ Below w.heap.size w w' := by
  have HB := Aside0.mk (Below.refl w.heap.size w)
  have H : ((spec_l2Num.f k 2 (a0.size : Int)).bind fun t210 => (if t210.size + a0.size ≤ 9223372036854775807 then (some (t210 ++ a0)) else (none))) = some r := h
  clear h
  replace H := Option.bind_eq_some_iff.mp H
  obtain ⟨t210, A20, H⟩ := H
  replace H : (if t210.size + a0.size ≤ 9223372036854775807 then (some (t210 ++ a0)) else (none)) = some r := H
  have A2 := Aside0.mk A20
  clear A20
  by_cases c3 : t210.size + a0.size ≤ 9223372036854775807
  · rw [if_pos c3] at H
    have c3b0 := eq_true c3
    have c3b1 : decide (t210.size + a0.size ≤ 9223372036854775807) = true := decide_eq_true c3
    try have c3b2 : (9223372036854775807 < t210.size + a0.size) = False := eq_false (Nat.not_lt.2 c3)
    obtain rfl := Option.some.inj H
    go_enter Tryd.func38, Tryd.ntmps38
    go_wp2_with (first | ((with_reducible refine gate_callee (f := 36) rfl ?_); refine goesL_ (some 5) rfl rfl Tryd.func36 (by kernel_rfl) rfl #[.int .i64 2, .int .i64 (a0.size : Int)] rfl (by (try simp only [List.map_toArray, List.map_cons, List.map_nil]); first | done | rfl | (simp only [List.length_drop, List.length_take]; rfl)) ?_; (with_reducible refine (spec_l2Num.calls k 2 (a0.size : Int) t210 _ A2.out).mono ?_); rintro e w4 ⟨rfl, hb⟩; refine ⟨_, rfl, ?_⟩; have n0_ := Aside0.mk (below_step (by repeat (first | (with_reducible first | exact HB.out | apply below_alloc | apply pw_below_drewN | apply below_drew1) | exact HB.out)) hb); clear HB; have HB := n0_; clear n0_; (try clear hb); (try clear hb2); (try clear hk); (try clear hi)))
    go_ret
    exact ⟨by first | rfl | (simp [errW_none, errW_some] <;> rfl) | (simp [*, errW_none, errW_some] <;> rfl), by repeat (first | (with_reducible first | exact HB.out | apply below_alloc | apply pw_below_drewN | apply below_drew1) | exact HB.out)⟩
  · rw [if_neg c3] at H
    exact absurd H (by simp)

end Go.Proofs.YtdfgfhnbcifheaaDoor.M
/- impl.join: texts, one behind the other. -/
namespace Go.Proofs.YtdfgfhnbcifheaaDoor.M
open Go.RowKit Go.Proofs.YtdfgfhnbcifheaaDoorW.PrintWords Go.Proofs.YtdfgfhnbcifheaaDoorW.PrintLast Go.Proofs.YtdfgfhnbcifheaaDoorW.PrintMore
set_option linter.unusedVariables false
set_option linter.unusedSimpArgs false
namespace Jn
theorem join_empty (xs : List (List UInt8)) : Lib.join xs [] = xs.flatten := by
  unfold Lib.join
  induction xs with
  | nil => rfl
  | cons x xs ih => cases xs with
    | nil => simp [List.intercalate]
    | cons y ys => simp [List.intercalate, List.intersperse] at ih ⊢; exact ih
/-- The bytes of texts, one behind the other. -/
def cat (xs : List ByteArray) : List UInt8 := (xs.map (·.data.toList)).flatten
end Jn
def impl_join.f (l0 : List ByteArray) : Option (ByteArray × List ByteArray) := if (Jn.cat l0).length ≤ 140737488355328 ∧ l0.length ≤ 140737488355328 then some (⟨(Jn.cat l0).toArray⟩, l0) else none
set_option maxHeartbeats 1000000 in
theorem impl_join.calls (P0 : Nat → Prop) (u : Value) (l0 : List ByteArray) (r1 : ByteArray) (r2 : List ByteArray) (w0 w : World) (hB : Below w0.heap.size w0 w) (ho : Kd.R Kd.string 9 w w0.heap.size P0 u l0) (h : impl_join.f l0 = some (r1, r2)) :
    Calls Tryd.prog 43 #[u] w fun e w' => e = .returned (.string r1) ∧ Kd.R Kd.string 9 w' w0.heap.size (fun k => P0 k ∨ w.heap.size ≤ k) u r2 ∧ Below w0.heap.size w0 w' ∧ Kept w w' (fun k => P0 k) := by
  unfold impl_join.f at h
  by_cases hz : (Jn.cat l0).length ≤ 140737488355328 ∧ l0.length ≤ 140737488355328
  · rw [if_pos hz] at h
    obtain ⟨rfl, rfl⟩ := Prod.mk.inj (Option.some.inj h)
    have hj : Lib.join (l0.map (·.data.toList)) (⟨#[]⟩ : ByteArray).data.toList = Jn.cat l0 := Jn.join_empty _
    have HJ := Aside0.mk hj
    have HO := Aside0.mk ho
    have HB := Aside0.mk hB
    clear hj h hB
    obtain ⟨A, c, rfl⟩ := Kd.R_slice ho
    have hrd := Kd.R_reads' ho
    have HC := Aside0.mk hrd.2.2
    have hc := hrd.2.1
    clear ho hrd
    cases l0 with
    | nil =>
      go_enter Tryd.func43, Tryd.ntmps43
      go_wp2_with fail
      refine (Tryd.strings_Join_none A c ⟨#[]⟩ _).mono ?_
      rintro e w' ⟨rfl, rfl⟩
      go_wp2_with fail
      go_ret
      exact ⟨rfl, Kd.R_mono HO.out (fun _ hk => .inl hk), HB.out, Kept.refl _ _⟩
    | cons x l =>
      obtain ⟨g, cap, e, _, hglt, _⟩ := Kd.R_form HO.out (by simp)
      injection e with eA _ ec
      subst eA
      have hcells : ∀ (j : Nat) y, (x :: l)[j]? = some y → w.cell? ⟨g, 0 + j, none⟩ = some (.string y) := by
        intro j y hy
        have hlt : j < (x :: l).length := (List.getElem?_eq_some_iff.1 hy).1
        obtain ⟨ad', e', hcc⟩ := Kd.at_string HC.out (j : Int) (by omega) (by omega)
        obtain rfl := Option.some.inj e'
        rw [Int.toNat_natCast] at hcc
        have e2 : rdOf ByteArray.empty (x :: l) (j : Int) = y := by
          unfold rdOf
          rw [Int.toNat_natCast, List.getD_eq_getElem?_getD, hy]; rfl
        rw [e2, add_plain] at hcc
        rw [Nat.zero_add]
        exact hcc
      have HCell := Aside0.mk hcells
      clear hcells ec
      go_enter Tryd.func43, Tryd.ntmps43
      go_wp2_with fail
      refine (Tryd.strings_Join g 0 c (x :: l) ⟨#[]⟩ _ HCell.out hglt hz.2 hc (by rw [HJ.out]; exact hz.1)).mono ?_
      rintro e w' ⟨he, hb⟩
      rw [HJ.out] at he
      subst he
      have HB2 := Aside0.mk hb
      clear hb
      go_wp2_with fail
      go_ret
      exact ⟨rfl, Kd.R_mono (Kd.R_below HO.out HB2.out) (fun _ hk => .inl hk), below_then HB.out HB.out.size HB2.out, Kept.of_below HB2.out _⟩
  · rw [if_neg hz] at h; cases h
end Go.Proofs.YtdfgfhnbcifheaaDoor.M
