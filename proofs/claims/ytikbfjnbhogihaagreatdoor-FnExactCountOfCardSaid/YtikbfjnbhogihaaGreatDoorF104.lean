import Derived.Test.YtikbfjnbhogihaaGreatDoorM0
import Derived.Test.YtikbfjnbhogihaaGreatDoorF168
import Derived.Test.YtikbfjnbhogihaaGreatDoorF17
import Derived.Test.YtikbfjnbhogihaaGreatDoorF158
import Derived.Test.YtikbfjnbhogihaaGreatDoorF134
namespace Go.Proofs.YtikbfjnbhogihaaGreatDoor.M
open Go.RowKit Go.Proofs.YtikbfjnbhogihaaGreatDoorW.PrintWords Go.Proofs.YtikbfjnbhogihaaGreatDoorW.PrintLast Go.Proofs.YtikbfjnbhogihaaGreatDoorW.PrintMore
attribute [local go_sem] max2_int min2_int max_two min_two max_three min_three max_four min_four
set_option linter.unusedVariables false
set_option linter.unusedSimpArgs false
noncomputable section
/-! ### spec_DecodeKey: function 104 -/
mutual
def spec_DecodeKey.l0 : Nat → ByteArray → List (S141) → Int → Option ((List (S141)) × Bool)
 | 0, _, _, _ => none
 | k + 1, x0, x4, x5 => if x5 > 0 then (if x5 < (x0.size : Int) then (spec_DecodeKey.j1 k x0 x4 x5 (decide ((x4.length : Int) ≤ 16))) else (spec_DecodeKey.j1 k x0 x4 x5 false)) else (spec_DecodeKey.j1 k x0 x4 x5 false)
def spec_DecodeKey.j1 : Nat → ByteArray → List (S141) → Int → Bool → Option ((List (S141)) × Bool)
 | 0, _, _, _, _ => none
 | k + 1, x0, x4, x5, x23 => if x23 = true then ((spec_l3Part.f k x0 x5 1).bind fun bt154 => ((spec_l3Part.f k x0 bt154.2 2).bind fun bt156 => (if x4.length < 4398046511104 then (spec_DecodeKey.l0 k x0 (x4 ++ [(⟨bt154.1, bt156.1⟩ : S141)]) bt156.2) else (none)))) else (if x0.toList = ([] : List UInt8) then (some ((([] : List (S141))), false)) else ((spec_EncodeKey.f k x4).bind fun t164 => (if t164.toList = x0.toList then (some (x4, true)) else (some ((([] : List (S141))), false)))))
end
def spec_DecodeKey.f (k : Nat) (a0 : ByteArray) : Option ((List (S141)) × Bool) := spec_DecodeKey.l0 k a0 (([] : List (S141))) 1
theorem spec_DecodeKey.mono_l : ∀ k, (∀ y0 y1 y2, LeO (spec_DecodeKey.l0 k y0 y1 y2) (spec_DecodeKey.l0 (k + 1) y0 y1 y2)) ∧ (∀ y0 y1 y2 y3, LeO (spec_DecodeKey.j1 k y0 y1 y2 y3) (spec_DecodeKey.j1 (k + 1) y0 y1 y2 y3))
 | 0 => ⟨fun _ _ _ r h => by simp [spec_DecodeKey.l0] at h, fun _ _ _ _ r h => by simp [spec_DecodeKey.j1] at h⟩
 | k + 1 => by
  obtain ⟨ih0, ih1⟩ := spec_DecodeKey.mono_l k
  refine ⟨?_, ?_⟩
  ·intro y0 y1 y2
   unfold spec_DecodeKey.l0
   repeat' first
   | (with_reducible exact ih1 _ _ _ _)
   | (with_reducible refine LeO.ite ?_ ?_)
  ·intro y0 y1 y2 y3
   unfold spec_DecodeKey.j1
   repeat' first
   | (with_reducible exact ih0 _ _ _)
   | (with_reducible exact spec_EncodeKey.mono _ _)
   | (with_reducible exact spec_l3Part.mono _ _ _ _)
   | (with_reducible exact LeO.refl _)
   | (with_reducible refine LeO.ite ?_ ?_)
   | (with_reducible refine LeO.bind ?_ (fun _ => ?_))
theorem spec_DecodeKey.mono : ∀ a0 k, LeO (spec_DecodeKey.f k a0) (spec_DecodeKey.f (k + 1) a0) := by
 intro a0 k
 obtain ⟨ih0, ih1⟩ := spec_DecodeKey.mono_l k
 unfold spec_DecodeKey.f
 repeat' (with_reducible exact ih0 _ _ _)
set_option maxHeartbeats 8000000 in
set_option maxRecDepth 100000 in
theorem spec_DecodeKey.calls (k : Nat) (a0 : ByteArray) (r1 : List (S141)) (r2 : Bool) (w : World) (h : spec_DecodeKey.f k a0 = some (r1, r2)) :
  Calls Tryz.prog 104 #[.string a0] w fun e w' => ∃ v0_ : Value, e = .returned (.tuple #[v0_, .bool r2]) ∧ Kd.R k141 141 w' w.heap.size (fun _ => True) v0_ r1 ∧ Below w.heap.size w w' := by
 have HB := Aside0.mk (Below.refl w.heap.size w)
 have H : (spec_DecodeKey.l0 k a0 (([] : List (S141))) 1) = some (r1, r2) := h
 clear h
 obtain ⟨y151, hy151⟩ : ∃ y_ : List (S141), y_ = (([] : List (S141))) := ⟨_, rfl⟩
 replace H : (spec_DecodeKey.l0 k a0 y151 1) = some (r1, r2) := by (rw [hy151]; with_reducible exact H)
 have Ny151 := Aside0.mk hy151
 clear hy151
 have H' := Aside0.mk H
 clear H
 go_enter Tryz.func104, Tryz.ntmps104
 go_wp2_with (((with_reducible refine gate_dst (N := 10) rfl ?_); (try (refine gate_guard (by rfl) ?_; dsimp only)); refine Kd.R_lit k141 _ 141 ?hg (N := 10) ?hd (xs := ([] : List (S141))) (inner := []) (ok := fun _ => True) (okp := fun _ => True) ?hr ?hp (fun _ hk => hk) trivial (Below.refl _ _) (Nat.le_refl _) (by simp) ?_; (case hd => rfl); (case hg => rfl); (case hr => (go_simp; done)); (case hp => exact (Reps.none _ _)); intro v152 w2 ho3 hb hg_ hnew_; clear hg_ hnew_; (rw [← Ny151.out] at ho3); have n0_ := Aside0.mk (Kd.R_lower ho3 (below_size (by repeat ((with_reducible exact HB.out))))); have n1_ := Aside0.mk (below_step (by repeat ((with_reducible exact HB.out))) hb); clear HB; have HO153 := n0_; have HB := n1_; clear n0_ n1_; clear hb ho3))
 go_loopg [4, 5] k (fun kq v4 v5 w' => ∃ (x4_1 : List (S141)) (x5_1 : Int), v5 = .int .i64 x5_1 ∧ Aside0 (spec_DecodeKey.l0 kq a0 x4_1 x5_1 = some (r1, r2)) ∧ Aside0 (kq ≤ k) ∧ Aside0 (Kd.R k141 141 w' w.heap.size (fun _ => True) v4 x4_1) ∧ Aside0 (Below w.heap.size w w'))
 case atStart => exact ⟨(y151), (1), (by rfl), H', ⟨Nat.le_refl _⟩, ⟨by (with_reducible repeat (first | apply Kd.R_alloc | apply Kd.R_drewN | apply Kd.R_drew)); exact HO153.out⟩, ⟨by repeat ((with_reducible exact HB.out))⟩⟩
 case round =>
  clear H'
  obtain ⟨x4_1, x5_1, rfl, HA, HK1, HO_4, HB⟩ := hrel
  cases gk with
  | zero => exact absurd HA.out (by simp [spec_DecodeKey.l0])
  | succ k1 =>
   have H := HA.out
   clear HA
   simp only [spec_DecodeKey.l0] at H
   have HC4 := Aside0.mk H
   clear H
   go_upto_region 3 with (fail)
   go_cut [23] (fun v23 wc => ∃ (kq : Nat) (x23_3 : Bool), v23 = .bool x23_3 ∧ Aside0 (spec_DecodeKey.j1 kq a0 x4_1 x5_1 x23_3 = some (r1, r2)) ∧ Aside0 (kq ≤ k1) ∧ Aside0 (Kd.R k141 141 wc w.heap.size (fun _ => True) u4 x4_1) ∧ Aside0 (Below w.heap.size w wc))
   case first =>
    have H := HC4.out
    clear HC4
    by_cases c5 : x5_1 > 0
    ·rw [if_pos c5] at H
     have c5b0 : decide (0 < x5_1) = true := decide_eq_true c5
     clear c5
     (first | rw [c5b0] | (simp only [i64_w, i32_w]; rw [c5b0]) | skip)
     by_cases c6 : x5_1 < (a0.size : Int)
     ·rw [if_pos c6] at H
      have c6b0 : decide (x5_1 < (a0.size : Int)) = true := decide_eq_true c6
      clear c6
      have H' := Aside0.mk H
      clear H
      obtain ⟨Ao7, co7, eo7⟩ := Kd.R_slice HO_4.out
      subst eo7
      go_wp2
      go_meet
      case rel => exact ⟨_, (decide ((x4_1.length : Int) ≤ 16)), (by rfl), H', ⟨by have := HK1.out; omega⟩, ⟨by (with_reducible repeat (first | apply Kd.R_alloc | apply Kd.R_drewN | apply Kd.R_drew)); exact HO_4.out⟩, ⟨by repeat ((with_reducible exact HB.out))⟩⟩
     ·rw [if_neg c6] at H
      have c6b0 : decide (x5_1 < (a0.size : Int)) = false := decide_eq_false c6
      clear c6
      have H' := Aside0.mk H
      clear H
      go_wp2
      go_meet
      case rel => exact ⟨_, (false), (by rfl), H', ⟨by have := HK1.out; omega⟩, ⟨by (with_reducible repeat (first | apply Kd.R_alloc | apply Kd.R_drewN | apply Kd.R_drew)); exact HO_4.out⟩, ⟨by repeat ((with_reducible exact HB.out))⟩⟩
    ·rw [if_neg c5] at H
     have c5b0 : decide (0 < x5_1) = false := decide_eq_false c5
     clear c5
     (first | rw [c5b0] | (simp only [i64_w, i32_w]; rw [c5b0]) | skip)
     have H' := Aside0.mk H
     clear H
     go_wp2
     go_meet
     case rel => exact ⟨_, (false), (by rfl), H', ⟨by have := HK1.out; omega⟩, ⟨by (with_reducible repeat (first | apply Kd.R_alloc | apply Kd.R_drewN | apply Kd.R_drew)); exact HO_4.out⟩, ⟨by repeat ((with_reducible exact HB.out))⟩⟩
   case rest =>
    clear HC4
    obtain ⟨kq, x23_3, rfl, HA, HJ3, HO_4, HB⟩ := hcut
    cases kq with
    | zero => exact absurd HA.out (by simp [spec_DecodeKey.j1])
    | succ kj3 =>
     have H := HA.out
     clear HA
     simp only [spec_DecodeKey.j1] at H
     by_cases c8 : x23_3 = true
     ·subst c8
      have H1 : ((spec_l3Part.f kj3 a0 x5_1 1).bind fun bt154 => ((spec_l3Part.f kj3 a0 bt154.2 2).bind fun bt156 => (if x4_1.length < 4398046511104 then (spec_DecodeKey.l0 kj3 a0 (x4_1 ++ [(⟨bt154.1, bt156.1⟩ : S141)]) bt156.2) else (none)))) = some (r1, r2) := by rw [if_pos rfl] at H; exact H
      clear H
      have H := H1
      clear H1
      replace H := Option.bind_eq_some_iff.mp H
      obtain ⟨⟨t154, t155⟩, A90, H⟩ := H
      replace H : ((spec_l3Part.f kj3 a0 t155 2).bind fun bt156 => (if x4_1.length < 4398046511104 then (spec_DecodeKey.l0 kj3 a0 (x4_1 ++ [(⟨t154, bt156.1⟩ : S141)]) bt156.2) else (none))) = some (r1, r2) := H
      have A9 := Aside0.mk A90
      clear A90
      replace H := Option.bind_eq_some_iff.mp H
      obtain ⟨⟨t156, t157⟩, A100, H⟩ := H
      replace H : (if x4_1.length < 4398046511104 then (spec_DecodeKey.l0 kj3 a0 (x4_1 ++ [(⟨t154, t156⟩ : S141)]) t157) else (none)) = some (r1, r2) := H
      have A10 := Aside0.mk A100
      clear A100
      by_cases c11 : x4_1.length < 4398046511104
      ·rw [if_pos c11] at H
       have LMc11 := Aside0.mk c11
       clear c11
       obtain ⟨y158, hy158⟩ : ∃ y_ : List (S141), y_ = (x4_1 ++ [(⟨t154, t156⟩ : S141)]) := ⟨_, rfl⟩
       replace H : (spec_DecodeKey.l0 kj3 a0 y158 t157) = some (r1, r2) := by (rw [hy158]; with_reducible exact H)
       have Ny158 := Aside0.mk hy158
       clear hy158
       have H' := Aside0.mk H
       clear H
       go_wp2_with (first | ((with_reducible refine gate_callee (f := 148) rfl ?_); refine goesL_ (some 27) rfl rfl Tryz.func148 (by kernel_rfl) rfl #[.string a0, .int .i64 x5_1, .int .i64 1] rfl (by (try simp only [List.map_toArray, List.map_cons, List.map_nil]); first | done | rfl) ?_; (with_reducible refine (spec_l3Part.calls kj3 a0 x5_1 1 t154 t155 _ A9.out).mono ?_); rintro e w' ⟨rfl, ⟨nd, rfl⟩⟩; refine ⟨_, rfl, ?_⟩) | ((with_reducible refine gate_callee (f := 148) rfl ?_); refine goesL_ (some 33) rfl rfl Tryz.func148 (by kernel_rfl) rfl #[.string a0, .int .i64 t155, .int .i64 2] rfl (by (try simp only [List.map_toArray, List.map_cons, List.map_nil]); first | done | rfl) ?_; (with_reducible refine (spec_l3Part.calls kj3 a0 t155 2 t156 t157 _ A10.out).mono ?_); rintro e w' ⟨rfl, ⟨nd, rfl⟩⟩; refine ⟨_, rfl, ?_⟩) | ((with_reducible refine gate_builtin (b := .append) (xs := #[.tmp 36, .tmp 40]) rfl ?_); (try (refine gate_guard (by rfl) ?_; dsimp only)); at_builtin; refine Kd.R_append k141 (w0 := w) w.heap.size rfl (.tmp 36) (.tmp 40) 65 141 (.agg #[(.string ⟨#[]⟩), (.string ⟨#[]⟩)]) 32 rfl Tryz.underlying65 info141 rfl (by decide) (by omega) u4 x4_1 (⟨t154, t156⟩ : S141) [.string t154, .string t156] (fun _ => True) (fun _ => False) rfl rfl ?aP (fun _ hk => hk.elim) ?aF ?aO ?aB ?aS ?aL ?_; (case aP => exact k141_mkM _ _ _ (⟨t154, t156⟩ : S141)); (case aB => exact (by repeat ((with_reducible first | exact HB.out | apply pw_below_drewN)))); (case aF => exact (fun _ _ => trivial)); (case aO => exact (by (with_reducible repeat (apply Kd.R_drewN)); exact HO_4.out)); (case aS => exact (below_size (by repeat ((with_reducible first | exact HB.out | apply pw_below_drewN))))); (case aL => have := LMc11.out; omega); intro v159 w12 ho hb hg hat; rw [← Ny158.out] at ho; have n0_ := Aside0.mk (hb); have n1_ := Aside0.mk (ho); clear HB; clear HO_4; have HB := n0_; have HO160 := n1_; clear n0_ n1_; clear ho hb hg hat))
       go_roundg kj3
       case measure => have := HK1.out; have := HJ3.out; omega
       case rel => exact ⟨(y158), (t157), (by rfl), H', ⟨by have := HK1.out; have := HJ3.out; omega⟩, ⟨by (with_reducible repeat (first | apply Kd.R_alloc | apply Kd.R_drewN | apply Kd.R_drew)); exact HO160.out⟩, ⟨by repeat ((with_reducible exact HB.out))⟩⟩
      ·rw [if_neg c11] at H
       exact absurd H (by simp)
     ·replace c8 := Bool.eq_false_iff.mpr c8
      subst c8
      have H1 : (if a0.toList = ([] : List UInt8) then (some ((([] : List (S141))), false)) else ((spec_EncodeKey.f kj3 x4_1).bind fun t164 => (if t164.toList = a0.toList then (some (x4_1, true)) else (some ((([] : List (S141))), false))))) = some (r1, r2) := by rw [if_neg (show ¬ (false = true) by decide)] at H; exact H
      clear H
      have H := H1
      clear H1
      by_cases c13 : a0.toList = ([] : List UInt8)
      ·rw [if_pos c13] at H
       have c13b0 : (a0.toList == ([] : List UInt8)) = true := beq_iff_eq.mpr c13
       clear c13
       obtain ⟨y161, hy161⟩ : ∃ y_ : List (S141), y_ = (([] : List (S141))) := ⟨_, rfl⟩
       replace H : (some (y161, false)) = some (r1, r2) := by (rw [hy161]; with_reducible exact H)
       have Ny161 := Aside0.mk hy161
       clear hy161
       simp only [Option.some.injEq, Prod.mk.injEq] at H
       obtain ⟨rfl, rfl⟩ := H
       go_wp2_with (((with_reducible refine gate_dst (N := 51) rfl ?_); (try (refine gate_guard (by rfl) ?_; dsimp only)); refine Kd.R_lit k141 _ 141 ?hg (N := 51) ?hd (xs := ([] : List (S141))) (inner := []) (ok := fun _ => True) (okp := fun _ => True) ?hr ?hp (fun _ hk => hk) trivial (Below.refl _ _) (Nat.le_refl _) (by simp) ?_; (case hd => rfl); (case hg => rfl); (case hr => (go_simp; done)); (case hp => exact (Reps.none _ _)); intro v162 w14 ho15 hb hg_ hnew_; clear hg_ hnew_; (rw [← Ny161.out] at ho15); have n1_ := Aside0.mk (Kd.R_lower (Kd.R_new' ho15 (Kd.R_lt (by (with_reducible repeat (first | apply Kd.R_alloc | apply Kd.R_drewN | apply Kd.R_drew)); exact HO_4.out))) (below_size (by repeat ((with_reducible exact HB.out))))); have n2_ := Aside0.mk (below_step (by repeat ((with_reducible exact HB.out))) hb); clear HO_4; clear HB; have HO163 := n1_; have HB := n2_; clear n1_ n2_; clear hb ho15))
       go_ret2
       exact ⟨_, by rfl, by (with_reducible repeat (first | apply Kd.R_alloc | apply Kd.R_drewN | apply Kd.R_drew)); exact Kd.R_mono HO163.out (fun _ hk => trivial), by repeat ((with_reducible exact HB.out))⟩
      ·rw [if_neg c13] at H
       have c13b0 : (a0.toList == ([] : List UInt8)) = false := beq_eq_false_iff_ne.mpr c13
       replace H := Option.bind_eq_some_iff.mp H
       obtain ⟨t164, A160, H⟩ := H
       replace H : (if t164.toList = a0.toList then (some (x4_1, true)) else (some ((([] : List (S141))), false))) = some (r1, r2) := H
       have A16 := Aside0.mk A160
       clear A160
       by_cases c17 : t164.toList = a0.toList
       ·rw [if_pos c17] at H
        have c17b0 : (t164.toList == a0.toList) = true := beq_iff_eq.mpr c17
        clear c17
        simp only [Option.some.injEq, Prod.mk.injEq] at H
        obtain ⟨rfl, rfl⟩ := H
        obtain ⟨Ao18, co18, eo18⟩ := Kd.R_slice HO_4.out
        subst eo18
        go_wp2_with ((go_at_call 38; (with_reducible refine (spec_EncodeKey.calls kj3 _ _ x4_1 t164 _ ?side1 ?side2 A16.out).mono ?_); (case side1 => repeat (exact (Kd.R_reads' HO_4.out).2.2)); (case side2 => exact (Kd.R_reads' HO_4.out).2.1); rintro e w19 ⟨rfl, hb⟩; have n0_ := Aside0.mk (Kd.R_below (by (with_reducible repeat (first | apply Kd.R_alloc | apply Kd.R_drewN | apply Kd.R_drew)); exact HO_4.out) hb); have n1_ := Aside0.mk (below_step (by repeat ((with_reducible exact HB.out))) hb); clear HO_4; clear HB; have HO_4 := n0_; have HB := n1_; clear n0_ n1_; (try clear hb)))
        go_ret2
        exact ⟨_, by rfl, by (with_reducible repeat (first | apply Kd.R_alloc | apply Kd.R_drewN | apply Kd.R_drew)); exact HO_4.out, by repeat ((with_reducible exact HB.out))⟩
       ·rw [if_neg c17] at H
        have c17b0 : (t164.toList == a0.toList) = false := beq_eq_false_iff_ne.mpr c17
        obtain ⟨y165, hy165⟩ : ∃ y_ : List (S141), y_ = (([] : List (S141))) := ⟨_, rfl⟩
        replace H : (some (y165, false)) = some (r1, r2) := by (rw [hy165]; with_reducible exact H)
        have Ny165 := Aside0.mk hy165
        clear hy165
        simp only [Option.some.injEq, Prod.mk.injEq] at H
        obtain ⟨rfl, rfl⟩ := H
        obtain ⟨Ao20, co20, eo20⟩ := Kd.R_slice HO_4.out
        subst eo20
        go_wp2_with (first | (go_at_call 38; (with_reducible refine (spec_EncodeKey.calls kj3 _ _ x4_1 t164 _ ?side1 ?side2 A16.out).mono ?_); (case side1 => repeat (exact (Kd.R_reads' HO_4.out).2.2)); (case side2 => exact (Kd.R_reads' HO_4.out).2.1); rintro e w21 ⟨rfl, hb⟩; have n0_ := Aside0.mk (Kd.R_below (by (with_reducible repeat (first | apply Kd.R_alloc | apply Kd.R_drewN | apply Kd.R_drew)); exact HO_4.out) hb); have n1_ := Aside0.mk (below_step (by repeat ((with_reducible exact HB.out))) hb); clear HO_4; clear HB; have HO_4 := n0_; have HB := n1_; clear n0_ n1_; (try clear hb)) | ((with_reducible refine gate_dst (N := 51) rfl ?_); (try (refine gate_guard (by rfl) ?_; dsimp only)); refine Kd.R_lit k141 _ 141 ?hg (N := 51) ?hd (xs := ([] : List (S141))) (inner := []) (ok := fun _ => True) (okp := fun _ => True) ?hr ?hp (fun _ hk => hk) trivial (Below.refl _ _) (Nat.le_refl _) (by simp) ?_; (case hd => rfl); (case hg => rfl); (case hr => (go_simp; done)); (case hp => exact (Reps.none _ _)); intro v166 w22 ho23 hb hg_ hnew_; clear hg_ hnew_; (rw [← Ny165.out] at ho23); have n1_ := Aside0.mk (Kd.R_lower (Kd.R_new' ho23 (Kd.R_lt (by (with_reducible repeat (first | apply Kd.R_alloc | apply Kd.R_drewN | apply Kd.R_drew)); exact HO_4.out))) (below_size (by repeat ((with_reducible exact HB.out))))); have n2_ := Aside0.mk (below_step (by repeat ((with_reducible exact HB.out))) hb); clear HO_4; clear HB; have HO167 := n1_; have HB := n2_; clear n1_ n2_; clear hb ho23))
        go_ret2
        exact ⟨_, by rfl, by (with_reducible repeat (first | apply Kd.R_alloc | apply Kd.R_drewN | apply Kd.R_drew)); exact Kd.R_mono HO167.out (fun _ hk => trivial), by repeat ((with_reducible exact HB.out))⟩
end
end Go.Proofs.YtikbfjnbhogihaaGreatDoor.M
/- What impl.Canon's printed form answers. Plain. -/
namespace Go.Proofs.YtikbfjnbhogihaaGreatDoor.Can
open Go.Proofs.YtikbfjnbhogihaaGreatDoor.M Go.Proofs.YtikbfjnbhogihaaGreatDoor.Loops Go.Proofs.YtikbfjnbhogihaaGreatDoor.CanSort Go.Proofs.YtikbfjnbhogihaaGreatDoor.Utf Go.Proofs.YtikbfjnbhogihaaGreatDoorW.PrintWords Go.Proofs.YtikbfjnbhogihaaGreatDoorW.PrintLast Go.Proofs.YtikbfjnbhogihaaGreatDoorW.PrintMore Go.RowKit
set_option linter.unusedVariables false
theorem rd_get (l : List Lb) (j : Nat) (h : j < l.length) : rd_T141 l (j : Int) = l[j] := by
 unfold rd_T141
 rw [Int.toNat_natCast, List.getD_eq_getElem?_getD, List.getElem?_eq_getElem h]; rfl
theorem in_yes (l a : List Lb) (b : Bool) (i : Int) (u v : Int) (row : List Lb) (x : Lb) (hr : row.length ≤ 16) : ∀ m q, q + m = row.length → (row.drop q).any (named x) = true →
  Ev (fun k => impl_Canon.l2 k l a b i l u v row (row.length : Int) (q : Int) x.f0 x.f1) (([] : List Lb), (45 : Int), i) := by
 intro m
 induction m with
 | zero =>
  intro q hq h
  rw [List.drop_eq_nil_of_le (by omega)] at h
  cases h
 | succ m ih =>
  intro q hq h
  have hlt : q < row.length := by omega
  rw [List.drop_eq_getElem_cons hlt, List.any_cons] at h
  by_cases hn : row[q].f0.toList = x.f0.toList
  ·refine Ev.step (f := fun _ => some _) (fun k => ?_) (Ev.now _)
   simp only [impl_Canon.l2]
   rw [if_pos (by omega), if_pos (by omega), if_pos (by omega), rd_get row q hlt, if_pos hn]
  ·have hd : named x row[q] = false := by unfold named; exact decide_eq_false hn
   rw [hd, Bool.false_or] at h
   refine Ev.step (fun k => ?_) (ih (q + 1) (by omega) h)
   conv => lhs; unfold impl_Canon.l2
   rw [if_pos (by omega), if_pos (by omega), if_pos (by omega), rd_get row q hlt, if_neg hn, w_succ q (by omega)]
theorem in_no (l a : List Lb) (b : Bool) (i : Int) (u v : Int) (row : List Lb) (x : Lb) (hr : row.length ≤ 16) (ha : a.length ≤ 16) (R : List Lb × Int × Int)
  (hend : Ev (fun k => if x.f1.toList = ([] : List UInt8) then impl_Canon.l1 k l a b l u (wrap64 (v + 1)) else impl_Canon.l1 k l (a ++ [x]) (b || (x.f0.toList == ([95, 95, 110, 97, 109, 101, 95, 95] : List UInt8))) l u (wrap64 (v + 1))) R) :
  ∀ m q, q + m = row.length → (row.drop q).any (named x) = false → Ev (fun k => impl_Canon.l2 k l a b i l u v row (row.length : Int) (q : Int) x.f0 x.f1) R := by
 intro m
 induction m with
 | zero =>
  intro q hq h
  refine Ev.step (fun k => ?_) hend
  conv => lhs; unfold impl_Canon.l2
  rw [if_neg (by omega)]
  by_cases hv : x.f1.toList = ([] : List UInt8)
  ·rw [if_pos hv, if_pos hv]
  ·rw [if_neg hv, if_neg hv, if_pos (by omega)]
   cases b with
   | true => rfl
   | false => rfl
 | succ m ih =>
  intro q hq h
  have hlt : q < row.length := by omega
  rw [List.drop_eq_getElem_cons hlt, List.any_cons, Bool.or_eq_false_iff] at h
  have hn : ¬ row[q].f0.toList = x.f0.toList := by
   have := h.1
   unfold named at this
   exact of_decide_eq_false this
  refine Ev.step (fun k => ?_) (ih (q + 1) (by omega) h.2)
  conv => lhs; unfold impl_Canon.l2
  rw [if_pos (by omega), if_pos (by omega), if_pos (by omega), rd_get row q hlt, if_neg hn, w_succ q (by omega)]
theorem impl_second (l : List Lb) (h16 : ¬ 16 < l.length) (hf : firstF l 0 = none) : ∀ n j, j + n = l.length → firstT (l.take j) (l.drop j) = firstT [] l →
  Ev (fun k => impl_Canon.l1 k l ((l.take j).filter keep) ((l.take j).any isMet) l (l.length : Int) (j : Int)) (can l) := by
 intro n
 induction n with
 | zero =>
  intro j hj ht
  obtain rfl : j = l.length := by omega
  rw [List.drop_eq_nil_of_le (Nat.le_refl _)] at ht
  have ht0 : firstT [] l = none := ht.symm
  rw [List.take_of_length_le (Nat.le_refl _)]
  cases hm : l.any isMet with
  | true =>
   rw [can_good h16 hf ht0 hm]
   refine Ev.step (f := fun _ => some _) (fun k => ?_) (Ev.now _)
   simp only [impl_Canon.l1]
   rw [if_neg (by omega)]
   have hx : impl_Label_177.f (l.filter keep) = some (order (l.filter keep)) := by
    unfold impl_Label_177.f
    rw [if_pos ⟨once_filter keep (once_all ht0), Nat.lt_of_le_of_lt (List.length_filter_le _ _) (by omega)⟩]
   rw [hx]
   rfl
  | false =>
   rw [can_none h16 hf ht0 hm]
   refine Ev.step (f := fun _ => some _) (fun k => ?_) (Ev.now _)
   simp only [impl_Canon.l1]
   rw [if_neg (by omega), if_neg (by decide)]
 | succ n ih =>
  intro j hj ht
  have hlt : j < l.length := by omega
  obtain ⟨x, hx⟩ : ∃ x, x = l[j] := ⟨_, rfl⟩
  have htk : l.take (j + 1) = l.take j ++ [x] := by rw [List.take_add_one, List.getElem?_eq_getElem hlt, Option.toList_some, hx]
  rw [List.drop_eq_getElem_cons hlt, ← hx] at ht
  have hlen : (l.take j).length = j := by rw [List.length_take]; omega
  refine Ev.step (f := fun k => impl_Canon.l2 k l ((l.take j).filter keep) ((l.take j).any isMet) (j : Int) l (l.length : Int) (j : Int) (l.take j) ((l.take j).length : Int) ((0 : Nat) : Int) x.f0 x.f1) (fun k => by
   conv => lhs; unfold impl_Canon.l1
   rw [if_pos (by omega), if_pos (by omega), if_pos (by omega), if_pos (by omega), Option.bind_some, Int.toNat_natCast, rd_get l j hlt, ← hx]
   rfl) ?_
  cases hany : (l.take j).any (named x) with
  | true =>
   have htw : firstT [] l = some j := by rw [← ht, firstT_yes hany, hlen]
   rw [can_twice h16 hf htw]
   exact in_yes l _ _ _ _ _ (l.take j) x (by omega) j 0 (by omega) hany
  | false =>
   rw [firstT_no hany, ← htk] at ht
   have hn := ih (j + 1) (by omega) ht
   refine in_no l _ _ _ _ _ (l.take j) x (by omega) (Nat.le_trans (List.length_filter_le _ _) (by omega)) (can l) ?_ j 0 (by omega) hany
   rw [w_succ j (by omega)]
   rw [htk, List.filter_append, List.any_append] at hn
   by_cases hv : x.f1.toList = ([] : List UInt8)
   ·refine Ev.ite_pos hv (Ev.congr (fun k => ?_) hn)
    have hk : keep x = false := by unfold keep; exact decide_eq_false (fun h => h hv)
    have h1 : [x].filter keep = [] := by simp [hk]
    have h2 : [x].any isMet = false := by simp [isMet, hk]
    rw [h1, h2, List.append_nil, Bool.or_false]
   ·refine Ev.ite_neg hv (Ev.congr (fun k => ?_) hn)
    have hk : keep x = true := by unfold keep; exact decide_eq_true hv
    have h1 : [x].filter keep = [x] := by simp [hk]
    have h2 : [x].any isMet = (x.f0.toList == ([95, 95, 110, 97, 109, 101, 95, 95] : List UInt8)) := by
     simp only [List.any_cons, List.any_nil, Bool.or_false, isMet, hk, Bool.true_and]
     by_cases hq : x.f0.toList = [95, 95, 110, 97, 109, 101, 95, 95] <;> simp [hq]
    rw [h1, h2]
theorem impl_first (l : List Lb) (h16 : ¬ 16 < l.length) (hF : Fit l) : ∀ n j, j + n = l.length → firstF (l.drop j) j = firstF l 0 →
  Ev (fun k => impl_Canon.l0 k l l (l.length : Int) (j : Int)) (can l) := by
 intro n
 induction n with
 | zero =>
  intro j hj h
  obtain rfl : j = l.length := by omega
  rw [List.drop_eq_nil_of_le (Nat.le_refl _)] at h
  have hf : firstF l 0 = none := h.symm
  refine Ev.step (fun k => ?_) (impl_second l h16 hf l.length 0 (by omega) rfl)
  conv => lhs; unfold impl_Canon.l0
  rw [if_neg (by omega)]
  rfl
 | succ n ih =>
  intro j hj h
  have hlt : j < l.length := by omega
  obtain ⟨x, hx⟩ : ∃ x, x = l[j] := ⟨_, rfl⟩
  rw [List.drop_eq_getElem_cons hlt, ← hx] at h
  have hfx : x.f1.size ≤ 1073741824 := (hF x (by rw [hx]; exact List.getElem_mem _)).2
  have hv : impl_valueFault.f x.f1 = some (vf x.f1) := by unfold impl_valueFault.f; rw [if_pos (by omega)]
  have hl : ∀ k, impl_Canon.l0 (k + 1) l l (l.length : Int) (j : Int) = (impl_isName.f k x.f0).bind fun t => if t = true then (if vf x.f1 = 0 then impl_Canon.l0 k l l (l.length : Int) ((j + 1 : Nat) : Int) else some (([] : List Lb), vf x.f1, (j : Int))) else some (([] : List Lb), 41, (j : Int)) := by
   intro k
   conv => lhs; unfold impl_Canon.l0
   rw [if_pos (by omega), if_pos (by omega), if_pos (by omega), rd_get l j hlt, ← hx, hv, w_succ j (by omega)]
   rfl
  refine Ev.step hl (Ev.bind (impl_name x.f0) ?_)
  cases hn : nameOK x.f0 with
  | false =>
   have hq : fault x = 41 := by unfold fault; rw [hn]; rfl
   rw [firstF_bad (by rw [hq]; decide), hq] at h
   rw [can_fault h16 h.symm]
   exact Ev.now _
  | true =>
   have hq : fault x = vf x.f1 := by unfold fault; rw [hn]; rfl
   simp only [if_true]
   by_cases h0 : vf x.f1 = 0
   ·refine Ev.ite_pos h0 (ih (j + 1) (by omega) ?_)
    rw [← h, firstF_ok (by rw [hq]; exact h0)]
   ·refine Ev.ite_neg h0 ?_
    rw [firstF_bad (by rw [hq]; exact h0), hq] at h
    rw [can_fault h16 h.symm]
    exact Ev.now _
theorem impl_can (l : List Lb) (hF : Fit l) : Ev (fun k => impl_Canon.f k l) (can l) := by
 unfold impl_Canon.f
 by_cases h : 16 < l.length
 ·refine Ev.ite_pos (by omega) ?_
  rw [can_many h]
  exact Ev.now _
 ·exact Ev.ite_neg (by omega) (impl_first l h hF l.length 0 (by omega) rfl)
end Go.Proofs.YtikbfjnbhogihaaGreatDoor.Can
namespace Go.Proofs.YtikbfjnbhogihaaGreatDoor.M
open Go.RowKit Go.Proofs.YtikbfjnbhogihaaGreatDoorW.PrintWords Go.Proofs.YtikbfjnbhogihaaGreatDoorW.PrintLast Go.Proofs.YtikbfjnbhogihaaGreatDoorW.PrintMore
attribute [local go_sem] max2_int min2_int max_two min_two max_three min_three max_four min_four
set_option linter.unusedVariables false
set_option linter.unusedSimpArgs false
noncomputable section
/-! ### spec_Metric: function 81 -/
def spec_Metric.l0 : Nat → List (S141) → Int → Int → Option (ByteArray)
 | 0, _, _, _ => none
 | k + 1, x12, x13, x14 => if x14 < x13 then (if 0 ≤ x14 then (if x14 < (x12.length : Int) then (if ((rd_T141 x12 x14).f0).toList = ([95, 95, 110, 97, 109, 101, 95, 95] : List UInt8) then (some ((rd_T141 x12 x14).f1)) else (spec_Metric.l0 k x12 x13 (wrap64 (x14 + 1)))) else (none)) else (none)) else (some (⟨#[]⟩ : ByteArray))
def spec_Metric.f (k : Nat) (a0 : ByteArray) : Option (ByteArray) := (spec_DecodeKey.f k a0).bind fun bt168 => (spec_Metric.l0 k bt168.1 (bt168.1.length : Int) 0)
theorem spec_Metric.mono_l : ∀ k, (∀ y0 y1 y2, LeO (spec_Metric.l0 k y0 y1 y2) (spec_Metric.l0 (k + 1) y0 y1 y2))
 | 0 => fun _ _ _ r h => by simp [spec_Metric.l0] at h
 | k + 1 => by
  have ih0 := spec_Metric.mono_l k
  ·intro y0 y1 y2
   unfold spec_Metric.l0
   repeat' first
   | (with_reducible exact ih0 _ _ _)
   | (with_reducible exact LeO.refl _)
   | (with_reducible refine LeO.ite ?_ ?_)
theorem spec_Metric.mono : ∀ a0 k, LeO (spec_Metric.f k a0) (spec_Metric.f (k + 1) a0) := by
 intro a0 k
 have ih0 := spec_Metric.mono_l k
 unfold spec_Metric.f
 repeat' first
   | (with_reducible exact ih0 _ _ _)
   | (with_reducible exact spec_DecodeKey.mono _ _)
   | (with_reducible refine LeO.bind ?_ (fun _ => ?_))
set_option maxHeartbeats 8000000 in
set_option maxRecDepth 100000 in
theorem spec_Metric.calls (k : Nat) (a0 : ByteArray) (r : ByteArray) (w : World) (h : spec_Metric.f k a0 = some r) :
  Calls Tryz.prog 81 #[.string a0] w fun e w' => e = .returned (.string r) ∧ Below w.heap.size w w' := by
 have HB := Aside0.mk (Below.refl w.heap.size w)
 have H : ((spec_DecodeKey.f k a0).bind fun bt168 => (spec_Metric.l0 k bt168.1 (bt168.1.length : Int) 0)) = some r := h
 clear h
 replace H := Option.bind_eq_some_iff.mp H
 obtain ⟨⟨t168, t169⟩, A20, H⟩ := H
 replace H : (spec_Metric.l0 k t168 (t168.length : Int) 0) = some r := H
 have A2 := Aside0.mk A20
 clear A20
 have H' := Aside0.mk H
 clear H
 go_enter Tryz.func81, Tryz.ntmps81
 go_wp2_with (((with_reducible refine gate_callee (f := 104) rfl ?_); refine goesL_ (some 9) rfl rfl Tryz.func104 (by kernel_rfl) rfl #[.string a0] rfl (by (try simp only [List.map_toArray, List.map_cons, List.map_nil]); first | done | rfl) ?_; (with_reducible refine (spec_DecodeKey.calls k a0 t168 t169 _ A2.out).mono ?_); rintro e w3 ⟨v170, rfl, ho0, hb⟩; refine ⟨_, rfl, ?_⟩; have n0_ := Aside0.mk (Kd.R_lower ho0 (below_size (by repeat ((with_reducible exact HB.out))))); have n1_ := Aside0.mk (below_step (by repeat ((with_reducible exact HB.out))) hb); clear HB; have HO171 := n0_; have HB := n1_; clear n0_ n1_; (try clear hb); (try clear ho0); obtain ⟨Ao4, co4, eo4⟩ := Kd.R_slice HO171.out; subst eo4))
 go_loopg [14] k (fun kq v14 w' => ∃ (x14_1 : Int), v14 = .int .i64 x14_1 ∧ Aside0 (spec_Metric.l0 kq t168 (t168.length : Int) x14_1 = some r) ∧ Aside0 (kq ≤ k) ∧ Aside0 (Kd.R k141 141 w' w.heap.size (fun _ => True) (.slice Ao4 t168.length co4) t168) ∧ Aside0 (Below w.heap.size w w'))
 case atStart => exact ⟨(0), (by rfl), H', ⟨Nat.le_refl _⟩, ⟨by (with_reducible repeat (first | apply Kd.R_alloc | apply Kd.R_drewN | apply Kd.R_drew)); exact HO171.out⟩, ⟨by repeat ((with_reducible exact HB.out))⟩⟩
 case round =>
  clear H'
  obtain ⟨x14_1, rfl, HA, HK1, HO_12, HB⟩ := hrel
  cases gk with
  | zero => exact absurd HA.out (by simp [spec_Metric.l0])
  | succ k1 =>
   have H := HA.out
   clear HA
   simp only [spec_Metric.l0] at H
   by_cases c5 : x14_1 < (t168.length : Int)
   ·rw [if_pos c5] at H
    clear c5
    by_cases c6 : 0 ≤ x14_1
    ·rw [if_pos c6] at H
     have c6b0 : decide (0 ≤ x14_1) = true := decide_eq_true c6
     clear c6
     by_cases c7 : x14_1 < (t168.length : Int)
     ·rw [if_pos c7] at H
      have c7b0 : decide (x14_1 < (t168.length : Int)) = true := decide_eq_true c7
      clear c7
      by_cases c8 : ((rd_T141 t168 x14_1).f0).toList = ([95, 95, 110, 97, 109, 101, 95, 95] : List UInt8)
      ·rw [if_pos c8] at H
       have c8b0 : (((rd_T141 t168 x14_1).f0).toList == ([95, 95, 110, 97, 109, 101, 95, 95] : List UInt8)) = true := beq_iff_eq.mpr c8
       clear c8
       obtain rfl := Option.some.inj H
       have p172 : 0 ≤ (x14_1 : Int) := of_decide_eq_true (by (with_reducible assumption))
       have q172 : x14_1 < (t168.length : Int) := of_decide_eq_true (by (with_reducible assumption))
       obtain ⟨ad172, e172, hx172_0, hx172_1⟩ := at_T141 (Kd.R_reads' HO_12.out).2.2 x14_1 p172 q172
       cases e172
       replace p172 := eq_true p172
       replace q172 := eq_true q172
       go_wp2_with (((with_reducible refine gate_dst (N := 6) rfl ?_); refine box_event ?hg (N := 6) ?hd (cs := #[.string (⟨#[]⟩ : ByteArray), .string (⟨#[]⟩ : ByteArray)]) (t := 141) ?hr ?_; (case hd => rfl); (case hg => rfl); (case hr => (go_simp; done)); intro gb173 hg w9 hbox hb; have n1_ := Aside0.mk (below_step (by repeat ((with_reducible exact HB.out))) hb); have n2_ := Aside0.mk (hbox); have n4_ := Aside0.mk ((by rw [hg]; exact (below_size (by repeat ((with_reducible exact HB.out)))) : w.heap.size ≤ gb173)); clear HO_12; clear HB; have HB := n1_; have BK173 := n2_; have GE173 := n4_; clear n1_ n2_ n4_; clear hb hbox hg; have hcz10_0 : w9.cell? ⟨gb173, 0, none⟩ = some (.string (⟨#[]⟩ : ByteArray)) := (blk_cell BK173.out 0).trans rfl; have hcz10_1 : w9.cell? ⟨gb173, 1, none⟩ = some (.string (⟨#[]⟩ : ByteArray)) := (blk_cell BK173.out 1).trans rfl; have hfz10_0 := blk_frozen BK173.out 0; have hfz10_1 := blk_frozen BK173.out 1))
       go_ret
       exact ⟨by rfl, by repeat ((with_reducible first | exact HB.out | refine below_set ?_ GE173.out))⟩
      ·rw [if_neg c8] at H
       have c8b0 : (((rd_T141 t168 x14_1).f0).toList == ([95, 95, 110, 97, 109, 101, 95, 95] : List UInt8)) = false := beq_eq_false_iff_ne.mpr c8
       have H' := Aside0.mk H
       clear H
       have p172 : 0 ≤ (x14_1 : Int) := of_decide_eq_true (by (with_reducible assumption))
       have q172 : x14_1 < (t168.length : Int) := of_decide_eq_true (by (with_reducible assumption))
       obtain ⟨ad172, e172, hx172_0, hx172_1⟩ := at_T141 (Kd.R_reads' HO_12.out).2.2 x14_1 p172 q172
       cases e172
       replace p172 := eq_true p172
       replace q172 := eq_true q172
       go_wp2_with (((with_reducible refine gate_dst (N := 6) rfl ?_); refine box_event ?hg (N := 6) ?hd (cs := #[.string (⟨#[]⟩ : ByteArray), .string (⟨#[]⟩ : ByteArray)]) (t := 141) ?hr ?_; (case hd => rfl); (case hg => rfl); (case hr => (go_simp; done)); intro gb173 hg w11 hbox hb; have n0_ := Aside0.mk (Kd.R_below (Kd.R_elderB (by (with_reducible repeat (first | apply Kd.R_alloc | apply Kd.R_drewN | apply Kd.R_drew)); exact HO_12.out) gb173 (Nat.le_of_eq hg.symm)) hb); have n1_ := Aside0.mk (below_step (by repeat ((with_reducible exact HB.out))) hb); have n2_ := Aside0.mk (hbox); have n4_ := Aside0.mk ((by rw [hg]; exact (below_size (by repeat ((with_reducible exact HB.out)))) : w.heap.size ≤ gb173)); clear HO_12; clear HB; have HO_12 := n0_; have HB := n1_; have BK173 := n2_; have GE173 := n4_; clear n0_ n1_ n2_ n4_; clear hb hbox hg; have hcz12_0 : w11.cell? ⟨gb173, 0, none⟩ = some (.string (⟨#[]⟩ : ByteArray)) := (blk_cell BK173.out 0).trans rfl; have hcz12_1 : w11.cell? ⟨gb173, 1, none⟩ = some (.string (⟨#[]⟩ : ByteArray)) := (blk_cell BK173.out 1).trans rfl; have hfz12_0 := blk_frozen BK173.out 0; have hfz12_1 := blk_frozen BK173.out 1))
       go_roundg k1
       case measure => have := HK1.out; omega
       case rel => exact ⟨(wrap64 (x14_1 + 1)), (by rfl), H', ⟨by have := HK1.out; omega⟩, ⟨by (with_reducible repeat (first | apply Kd.R_alloc | apply Kd.R_drewN | apply Kd.R_drew)); exact Kd.R_mono (Kd.R_far (p := ⟨gb173, 1, none⟩) (Kd.R_far (p := ⟨gb173, 0, none⟩) (Kd.R_mono HO_12.out (fun k_ hk => (⟨hk, hk.2⟩ : _ ∧ k_ ≠ gb173))) (fun _ hk => hk.2) (.string ((rd_T141 t168 x14_1).f0))) (fun _ hk => hk.2) (.string ((rd_T141 t168 x14_1).f1))) (fun _ hk => trivial)⟩, ⟨by repeat ((with_reducible first | exact HB.out | refine below_set ?_ GE173.out))⟩⟩
     ·rw [if_neg c7] at H
      exact absurd H (by simp)
    ·rw [if_neg c6] at H
     exact absurd H (by simp)
   ·rw [if_neg c5] at H
    have c5b0 : decide (x14_1 < (t168.length : Int)) = false := decide_eq_false c5
    clear c5
    obtain rfl := Option.some.inj H
    go_wp2
    go_ret
    exact ⟨by rfl, by repeat ((with_reducible exact HB.out))⟩
end
end Go.Proofs.YtikbfjnbhogihaaGreatDoor.M
