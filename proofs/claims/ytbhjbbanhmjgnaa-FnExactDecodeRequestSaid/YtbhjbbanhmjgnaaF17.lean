-- By pp.py, a program of this repo, with the kit's printer: Lean checks it.
import Derived.Test.YtbhjbbanhmjgnaaM0
import Derived.Test.YtbhjbbanhmjgnaaF58
import Derived.Test.YtbhjbbanhmjgnaaF73
import Derived.Test.YtbhjbbanhmjgnaaS0
import Derived.Test.YtbhjbbanhmjgnaaXReq
import Derived.Test.YtbhjbbanhmjgnaaXSrcNum
namespace Go.Proofs.Ytbhjbbanhmjgnaa.M
open Go.RowKit Go.Proofs.YtbhjbbanhmjgnaaW.PrintWords Go.Proofs.YtbhjbbanhmjgnaaW.PrintLast Go.Proofs.YtbhjbbanhmjgnaaW.PrintMore
attribute [local go_sem] max2_int min2_int max_two min_two max_three min_three max_four min_four
set_option linter.unusedVariables false
set_option linter.unusedSimpArgs false

noncomputable section
/-! ### impl_DecodeRequest: function 17 -/
mutual
def impl_DecodeRequest.j0 : Nat → ByteArray → Bool → Option (Int × ByteArray × ByteArray × Int × (List (S65)) × Bool)
  | 0, _, _ => none
  | k + 1, x0, x12 => if x12 = true then (some (0, (⟨#[]⟩ : ByteArray), (⟨#[]⟩ : ByteArray), 0, ([] : List (S65)), false)) else ((impl_source_num.f x0 1).bind fun bt354 => (if bt354.1 = 2 then (impl_DecodeRequest.j1 k x0 false bt354.2 bt354.1 (⟨#[]⟩ : ByteArray) (⟨#[]⟩ : ByteArray) 0) else (impl_DecodeRequest.j1 k x0 (bt354.1 != 4) bt354.2 bt354.1 (⟨#[]⟩ : ByteArray) (⟨#[]⟩ : ByteArray) 0)))
def impl_DecodeRequest.j1 : Nat → ByteArray → Bool → ByteArray → Int → ByteArray → ByteArray → Int → Option (Int × ByteArray × ByteArray × Int × (List (S65)) × Bool)
  | 0, _, _, _, _, _, _, _ => none
  | k + 1, x0, x27, x354000, x357000, x357001, x357002, x357003 => if x27 = true then ((impl_source_s8.f x354000).bind fun bt357 => (impl_DecodeRequest.j2 k x0 bt357.2 x357000 bt357.1 x357002 x357003)) else (impl_DecodeRequest.j2 k x0 x354000 x357000 x357001 x357002 x357003)
def impl_DecodeRequest.j2 : Nat → ByteArray → ByteArray → Int → ByteArray → ByteArray → Int → Option (Int × ByteArray × ByteArray × Int × (List (S65)) × Bool)
  | 0, _, _, _, _, _, _ => none
  | k + 1, x0, x354000, x357000, x357001, x357002, x357003 => if x357000 = 3 then (impl_DecodeRequest.j3 k x0 true x354000 x357000 x357001 x357002 x357003) else (impl_DecodeRequest.j3 k x0 (x357000 == 5) x354000 x357000 x357001 x357002 x357003)
def impl_DecodeRequest.j3 : Nat → ByteArray → Bool → ByteArray → Int → ByteArray → ByteArray → Int → Option (Int × ByteArray × ByteArray × Int × (List (S65)) × Bool)
  | 0, _, _, _, _, _, _, _ => none
  | k + 1, x0, x38, x354000, x357000, x357001, x357002, x357003 => if x38 = true then ((impl_source_s16.f x354000).bind fun bt359 => (impl_DecodeRequest.j4 k x0 bt359.2 x357000 x357001 bt359.1 x357003)) else (impl_DecodeRequest.j4 k x0 x354000 x357000 x357001 x357002 x357003)
def impl_DecodeRequest.j4 : Nat → ByteArray → ByteArray → Int → ByteArray → ByteArray → Int → Option (Int × ByteArray × ByteArray × Int × (List (S65)) × Bool)
  | 0, _, _, _, _, _, _ => none
  | k + 1, x0, x354000, x357000, x357001, x357002, x357003 => if x357000 = 2 then (impl_DecodeRequest.j5 k x0 true x354000 x357000 x357001 x357002 x357003) else (impl_DecodeRequest.j5 k x0 (x357000 == 3) x354000 x357000 x357001 x357002 x357003)
def impl_DecodeRequest.j5 : Nat → ByteArray → Bool → ByteArray → Int → ByteArray → ByteArray → Int → Option (Int × ByteArray × ByteArray × Int × (List (S65)) × Bool)
  | 0, _, _, _, _, _, _, _ => none
  | k + 1, x0, x49, x354000, x357000, x357001, x357002, x357003 => if x49 = true then ((impl_source_num.f x354000 8).bind fun bt361 => (impl_DecodeRequest.j6 k x0 bt361.2 x357000 x357001 x357002 bt361.1)) else (impl_DecodeRequest.j6 k x0 x354000 x357000 x357001 x357002 x357003)
def impl_DecodeRequest.j6 : Nat → ByteArray → ByteArray → Int → ByteArray → ByteArray → Int → Option (Int × ByteArray × ByteArray × Int × (List (S65)) × Bool)
  | 0, _, _, _, _, _, _ => none
  | k + 1, x0, x354000, x357000, x357001, x357002, x357003 => if x357000 = 1 then ((impl_source_samples.f k x354000).bind fun bt363 => ((impl_EncodeRequest.f x357000 x357001 x357002 x357003 bt363.1).bind fun t367 => (if t367.toList = x0.toList then (some (x357000, x357001, x357002, x357003, bt363.1, true)) else (some (0, (⟨#[]⟩ : ByteArray), (⟨#[]⟩ : ByteArray), 0, ([] : List (S65)), false))))) else ((impl_EncodeRequest.f x357000 x357001 x357002 x357003 ([] : List (S65))).bind fun t368 => (if t368.toList = x0.toList then (some (x357000, x357001, x357002, x357003, ([] : List (S65)), true)) else (some (0, (⟨#[]⟩ : ByteArray), (⟨#[]⟩ : ByteArray), 0, ([] : List (S65)), false))))
end
def impl_DecodeRequest.f (k : Nat) (a0 : ByteArray) : Option (Int × ByteArray × ByteArray × Int × (List (S65)) × Bool) := if a0.toList = ([] : List UInt8) then (impl_DecodeRequest.j0 k a0 true) else (impl_DecodeRequest.j0 k a0 (decide ((a0.size : Int) > 60000)))
theorem impl_DecodeRequest.mono_l : ∀ k, (∀ y0 y1, LeO (impl_DecodeRequest.j0 k y0 y1) (impl_DecodeRequest.j0 (k + 1) y0 y1)) ∧ (∀ y0 y1 y2 y3 y4 y5 y6, LeO (impl_DecodeRequest.j1 k y0 y1 y2 y3 y4 y5 y6) (impl_DecodeRequest.j1 (k + 1) y0 y1 y2 y3 y4 y5 y6)) ∧ (∀ y0 y1 y2 y3 y4 y5, LeO (impl_DecodeRequest.j2 k y0 y1 y2 y3 y4 y5) (impl_DecodeRequest.j2 (k + 1) y0 y1 y2 y3 y4 y5)) ∧ (∀ y0 y1 y2 y3 y4 y5 y6, LeO (impl_DecodeRequest.j3 k y0 y1 y2 y3 y4 y5 y6) (impl_DecodeRequest.j3 (k + 1) y0 y1 y2 y3 y4 y5 y6)) ∧ (∀ y0 y1 y2 y3 y4 y5, LeO (impl_DecodeRequest.j4 k y0 y1 y2 y3 y4 y5) (impl_DecodeRequest.j4 (k + 1) y0 y1 y2 y3 y4 y5)) ∧ (∀ y0 y1 y2 y3 y4 y5 y6, LeO (impl_DecodeRequest.j5 k y0 y1 y2 y3 y4 y5 y6) (impl_DecodeRequest.j5 (k + 1) y0 y1 y2 y3 y4 y5 y6)) ∧ (∀ y0 y1 y2 y3 y4 y5, LeO (impl_DecodeRequest.j6 k y0 y1 y2 y3 y4 y5) (impl_DecodeRequest.j6 (k + 1) y0 y1 y2 y3 y4 y5))
  | 0 => ⟨fun _ _ r h => by simp [impl_DecodeRequest.j0] at h, fun _ _ _ _ _ _ _ r h => by simp [impl_DecodeRequest.j1] at h, fun _ _ _ _ _ _ r h => by simp [impl_DecodeRequest.j2] at h, fun _ _ _ _ _ _ _ r h => by simp [impl_DecodeRequest.j3] at h, fun _ _ _ _ _ _ r h => by simp [impl_DecodeRequest.j4] at h, fun _ _ _ _ _ _ _ r h => by simp [impl_DecodeRequest.j5] at h, fun _ _ _ _ _ _ r h => by simp [impl_DecodeRequest.j6] at h⟩
  | k + 1 => by
    obtain ⟨ih0, ih1, ih2, ih3, ih4, ih5, ih6⟩ := impl_DecodeRequest.mono_l k
    refine ⟨?_, ?_, ?_, ?_, ?_, ?_, ?_⟩
    · intro y0 y1
      unfold impl_DecodeRequest.j0
      repeat' first
      | (with_reducible exact ih0 _ _)
      | (with_reducible exact ih1 _ _ _ _ _ _ _)
      | (with_reducible exact ih2 _ _ _ _ _ _)
      | (with_reducible exact ih3 _ _ _ _ _ _ _)
      | (with_reducible exact ih4 _ _ _ _ _ _)
      | (with_reducible exact ih5 _ _ _ _ _ _ _)
      | (with_reducible exact ih6 _ _ _ _ _ _)
      | (with_reducible exact impl_source_samples.mono _ _)
      | (with_reducible exact LeO.refl _)
      | (with_reducible exact LeO.none _)
      | (with_reducible refine LeO.ite ?_ ?_)
      | (with_reducible refine LeO.bind ?_ (fun _ => ?_))
      | exact ih0 _ _
      | exact ih1 _ _ _ _ _ _ _
      | exact ih2 _ _ _ _ _ _
      | exact ih3 _ _ _ _ _ _ _
      | exact ih4 _ _ _ _ _ _
      | exact ih5 _ _ _ _ _ _ _
      | exact ih6 _ _ _ _ _ _
      | exact impl_source_samples.mono _ _
      | exact LeO.none _
      | refine LeO.ite ?_ ?_
      | refine LeO.bind ?_ (fun _ => ?_)
    · intro y0 y1 y2 y3 y4 y5 y6
      unfold impl_DecodeRequest.j1
      repeat' first
      | (with_reducible exact ih0 _ _)
      | (with_reducible exact ih1 _ _ _ _ _ _ _)
      | (with_reducible exact ih2 _ _ _ _ _ _)
      | (with_reducible exact ih3 _ _ _ _ _ _ _)
      | (with_reducible exact ih4 _ _ _ _ _ _)
      | (with_reducible exact ih5 _ _ _ _ _ _ _)
      | (with_reducible exact ih6 _ _ _ _ _ _)
      | (with_reducible exact impl_source_samples.mono _ _)
      | (with_reducible exact LeO.refl _)
      | (with_reducible exact LeO.none _)
      | (with_reducible refine LeO.ite ?_ ?_)
      | (with_reducible refine LeO.bind ?_ (fun _ => ?_))
      | exact ih0 _ _
      | exact ih1 _ _ _ _ _ _ _
      | exact ih2 _ _ _ _ _ _
      | exact ih3 _ _ _ _ _ _ _
      | exact ih4 _ _ _ _ _ _
      | exact ih5 _ _ _ _ _ _ _
      | exact ih6 _ _ _ _ _ _
      | exact impl_source_samples.mono _ _
      | exact LeO.none _
      | refine LeO.ite ?_ ?_
      | refine LeO.bind ?_ (fun _ => ?_)
    · intro y0 y1 y2 y3 y4 y5
      unfold impl_DecodeRequest.j2
      repeat' first
      | (with_reducible exact ih0 _ _)
      | (with_reducible exact ih1 _ _ _ _ _ _ _)
      | (with_reducible exact ih2 _ _ _ _ _ _)
      | (with_reducible exact ih3 _ _ _ _ _ _ _)
      | (with_reducible exact ih4 _ _ _ _ _ _)
      | (with_reducible exact ih5 _ _ _ _ _ _ _)
      | (with_reducible exact ih6 _ _ _ _ _ _)
      | (with_reducible exact impl_source_samples.mono _ _)
      | (with_reducible exact LeO.refl _)
      | (with_reducible exact LeO.none _)
      | (with_reducible refine LeO.ite ?_ ?_)
      | (with_reducible refine LeO.bind ?_ (fun _ => ?_))
      | exact ih0 _ _
      | exact ih1 _ _ _ _ _ _ _
      | exact ih2 _ _ _ _ _ _
      | exact ih3 _ _ _ _ _ _ _
      | exact ih4 _ _ _ _ _ _
      | exact ih5 _ _ _ _ _ _ _
      | exact ih6 _ _ _ _ _ _
      | exact impl_source_samples.mono _ _
      | exact LeO.none _
      | refine LeO.ite ?_ ?_
      | refine LeO.bind ?_ (fun _ => ?_)
    · intro y0 y1 y2 y3 y4 y5 y6
      unfold impl_DecodeRequest.j3
      repeat' first
      | (with_reducible exact ih0 _ _)
      | (with_reducible exact ih1 _ _ _ _ _ _ _)
      | (with_reducible exact ih2 _ _ _ _ _ _)
      | (with_reducible exact ih3 _ _ _ _ _ _ _)
      | (with_reducible exact ih4 _ _ _ _ _ _)
      | (with_reducible exact ih5 _ _ _ _ _ _ _)
      | (with_reducible exact ih6 _ _ _ _ _ _)
      | (with_reducible exact impl_source_samples.mono _ _)
      | (with_reducible exact LeO.refl _)
      | (with_reducible exact LeO.none _)
      | (with_reducible refine LeO.ite ?_ ?_)
      | (with_reducible refine LeO.bind ?_ (fun _ => ?_))
      | exact ih0 _ _
      | exact ih1 _ _ _ _ _ _ _
      | exact ih2 _ _ _ _ _ _
      | exact ih3 _ _ _ _ _ _ _
      | exact ih4 _ _ _ _ _ _
      | exact ih5 _ _ _ _ _ _ _
      | exact ih6 _ _ _ _ _ _
      | exact impl_source_samples.mono _ _
      | exact LeO.none _
      | refine LeO.ite ?_ ?_
      | refine LeO.bind ?_ (fun _ => ?_)
    · intro y0 y1 y2 y3 y4 y5
      unfold impl_DecodeRequest.j4
      repeat' first
      | (with_reducible exact ih0 _ _)
      | (with_reducible exact ih1 _ _ _ _ _ _ _)
      | (with_reducible exact ih2 _ _ _ _ _ _)
      | (with_reducible exact ih3 _ _ _ _ _ _ _)
      | (with_reducible exact ih4 _ _ _ _ _ _)
      | (with_reducible exact ih5 _ _ _ _ _ _ _)
      | (with_reducible exact ih6 _ _ _ _ _ _)
      | (with_reducible exact impl_source_samples.mono _ _)
      | (with_reducible exact LeO.refl _)
      | (with_reducible exact LeO.none _)
      | (with_reducible refine LeO.ite ?_ ?_)
      | (with_reducible refine LeO.bind ?_ (fun _ => ?_))
      | exact ih0 _ _
      | exact ih1 _ _ _ _ _ _ _
      | exact ih2 _ _ _ _ _ _
      | exact ih3 _ _ _ _ _ _ _
      | exact ih4 _ _ _ _ _ _
      | exact ih5 _ _ _ _ _ _ _
      | exact ih6 _ _ _ _ _ _
      | exact impl_source_samples.mono _ _
      | exact LeO.none _
      | refine LeO.ite ?_ ?_
      | refine LeO.bind ?_ (fun _ => ?_)
    · intro y0 y1 y2 y3 y4 y5 y6
      unfold impl_DecodeRequest.j5
      repeat' first
      | (with_reducible exact ih0 _ _)
      | (with_reducible exact ih1 _ _ _ _ _ _ _)
      | (with_reducible exact ih2 _ _ _ _ _ _)
      | (with_reducible exact ih3 _ _ _ _ _ _ _)
      | (with_reducible exact ih4 _ _ _ _ _ _)
      | (with_reducible exact ih5 _ _ _ _ _ _ _)
      | (with_reducible exact ih6 _ _ _ _ _ _)
      | (with_reducible exact impl_source_samples.mono _ _)
      | (with_reducible exact LeO.refl _)
      | (with_reducible exact LeO.none _)
      | (with_reducible refine LeO.ite ?_ ?_)
      | (with_reducible refine LeO.bind ?_ (fun _ => ?_))
      | exact ih0 _ _
      | exact ih1 _ _ _ _ _ _ _
      | exact ih2 _ _ _ _ _ _
      | exact ih3 _ _ _ _ _ _ _
      | exact ih4 _ _ _ _ _ _
      | exact ih5 _ _ _ _ _ _ _
      | exact ih6 _ _ _ _ _ _
      | exact impl_source_samples.mono _ _
      | exact LeO.none _
      | refine LeO.ite ?_ ?_
      | refine LeO.bind ?_ (fun _ => ?_)
    · intro y0 y1 y2 y3 y4 y5
      unfold impl_DecodeRequest.j6
      repeat' first
      | (with_reducible exact ih0 _ _)
      | (with_reducible exact ih1 _ _ _ _ _ _ _)
      | (with_reducible exact ih2 _ _ _ _ _ _)
      | (with_reducible exact ih3 _ _ _ _ _ _ _)
      | (with_reducible exact ih4 _ _ _ _ _ _)
      | (with_reducible exact ih5 _ _ _ _ _ _ _)
      | (with_reducible exact ih6 _ _ _ _ _ _)
      | (with_reducible exact impl_source_samples.mono _ _)
      | (with_reducible exact LeO.refl _)
      | (with_reducible exact LeO.none _)
      | (with_reducible refine LeO.ite ?_ ?_)
      | (with_reducible refine LeO.bind ?_ (fun _ => ?_))
      | exact ih0 _ _
      | exact ih1 _ _ _ _ _ _ _
      | exact ih2 _ _ _ _ _ _
      | exact ih3 _ _ _ _ _ _ _
      | exact ih4 _ _ _ _ _ _
      | exact ih5 _ _ _ _ _ _ _
      | exact ih6 _ _ _ _ _ _
      | exact impl_source_samples.mono _ _
      | exact LeO.none _
      | refine LeO.ite ?_ ?_
      | refine LeO.bind ?_ (fun _ => ?_)
theorem impl_DecodeRequest.mono : ∀ a0 k, LeO (impl_DecodeRequest.f k a0) (impl_DecodeRequest.f (k + 1) a0) := by
  intro a0 k
  obtain ⟨ih0, ih1, ih2, ih3, ih4, ih5, ih6⟩ := impl_DecodeRequest.mono_l k
  unfold impl_DecodeRequest.f
  repeat' first
      | (with_reducible exact ih0 _ _)
      | (with_reducible exact ih1 _ _ _ _ _ _ _)
      | (with_reducible exact ih2 _ _ _ _ _ _)
      | (with_reducible exact ih3 _ _ _ _ _ _ _)
      | (with_reducible exact ih4 _ _ _ _ _ _)
      | (with_reducible exact ih5 _ _ _ _ _ _ _)
      | (with_reducible exact ih6 _ _ _ _ _ _)
      | (with_reducible exact impl_source_samples.mono _ _)
      | (with_reducible exact LeO.refl _)
      | (with_reducible exact LeO.none _)
      | (with_reducible refine LeO.ite ?_ ?_)
      | (with_reducible refine LeO.bind ?_ (fun _ => ?_))
      | exact ih0 _ _
      | exact ih1 _ _ _ _ _ _ _
      | exact ih2 _ _ _ _ _ _
      | exact ih3 _ _ _ _ _ _ _
      | exact ih4 _ _ _ _ _ _
      | exact ih5 _ _ _ _ _ _ _
      | exact ih6 _ _ _ _ _ _
      | exact impl_source_samples.mono _ _
      | exact LeO.none _
      | refine LeO.ite ?_ ?_
      | refine LeO.bind ?_ (fun _ => ?_)
set_option maxHeartbeats 8000000 in
set_option maxRecDepth 100000 in
theorem impl_DecodeRequest.calls (k : Nat) (a0 : ByteArray) (r1 : Int) (r2 : ByteArray) (r3 : ByteArray) (r4 : Int) (r5 : List (S65)) (r6 : Bool) (w : World) (h : impl_DecodeRequest.f k a0 = some (r1, r2, r3, r4, r5, r6)) :
    Calls Try.prog 17 #[.string a0] w fun e w' => ∃ v4_ : Value, e = .returned (.tuple #[.agg #[.int .i64 r1, .string r2, .string r3, .int .i64 r4, v4_], .bool r6]) ∧ Kd.S k65 65 w' w.heap.size (fun _ => True) v4_ r5 ∧ Below w.heap.size w w' := by
  have hu29 := Try.underlying29
  have hu91 := Try.underlying91
  have HB := Aside0.mk (Below.refl w.heap.size w)
  have H : (if a0.toList = ([] : List UInt8) then (impl_DecodeRequest.j0 k a0 true) else (impl_DecodeRequest.j0 k a0 (decide ((a0.size : Int) > 60000)))) = some (r1, r2, r3, r4, r5, r6) := h
  clear h
  have HC2 := Aside0.mk H
  clear H
  go_enter Try.func17, Try.ntmps17
  go_upto_region 1 with (first | ((with_reducible refine gate_dst (N := 2) rfl ?_); (try (refine gate_guard (by rfl) ?_; dsimp only)); refine box_event ?hg (N := 2) ?hd (cs := #[.int .i64 0, .string (⟨#[]⟩ : ByteArray), .string (⟨#[]⟩ : ByteArray), .int .i64 0, .slice none 0 0]) (t := 29) ?hr ?_; (case hd => rfl); (case hg => rfl); (case hr => first | (go_simp; done) | (go_simp; rfl)); intro gb352 hg w3 hbox hb; have n0_ := Aside0.mk (below_step (by repeat (first | (with_reducible first | exact HB.out | apply below_alloc | apply pw_below_drewN | apply below_drew1) | exact HB.out)) hb); have n1_ := Aside0.mk (hbox); have n2_ := Aside0.mk ((by rw [hg]; exact (below_size (by repeat (first | (with_reducible first | exact HB.out | apply below_alloc | apply pw_below_drewN | apply below_drew1) | exact HB.out))) : w.heap.size ≤ gb352)); have n3_ := Aside0.mk ((by rw [hg]; exact (below_size (by repeat (first | (with_reducible first | exact HB.out | apply below_alloc | apply pw_below_drewN | apply below_drew1) | exact HB.out))) : w.heap.size ≤ gb352)); clear HB; have HB := n0_; have BK352 := n1_; have GW352 := n2_; have GE352 := n3_; clear n0_ n1_ n2_ n3_; clear hb hbox hg))
  (try simp only [Act.put, List.setIfInBounds_toArray, List.set_cons_zero, List.set_cons_succ])
  go_cut [12] (fun v12 wc => ∃ (kq : Nat) (x12_1 : Bool), v12 = .bool x12_1 ∧ Aside0 (impl_DecodeRequest.j0 kq a0 x12_1 = some (r1, r2, r3, r4, r5, r6)) ∧ Aside0 (kq ≤ k) ∧ Aside0 (wc.heap[gb352]? = some (.cells #[.int .i64 0, .string (⟨#[]⟩ : ByteArray), .string (⟨#[]⟩ : ByteArray), .int .i64 0, (.slice none 0 0)] 29 (0, 0))) ∧ Aside0 (Below w.heap.size w wc))
  case first =>
    have H := HC2.out
    clear HC2
    by_cases c4 : a0.toList = ([] : List UInt8)
    · rw [if_pos c4] at H
      have c4b0 : (a0.toList == ([] : List UInt8)) = true := beq_iff_eq.mpr c4
      have c4b1 : (a0.toList != ([] : List UInt8)) = false := bne_eq_false_iff_eq.mpr c4
      clear c4
      (first | rw [c4b0] | (simp only [i64_w, i32_w]; rw [c4b0]) | skip)
      have H' := Aside0.mk H
      clear H
      go_wp2
      go_meet
      case rel => exact ⟨_, (true), (by first | rfl | (simp; done) | (simp [*]; done)), H', ⟨by first | omega | exact Nat.le_refl _⟩, ⟨by (with_reducible repeat (first | refine blk_drewN ?_ _ | refine blk_drew ?_ | refine blk_alloc ?_ _)); exact BK352.out⟩, ⟨by repeat (first | (with_reducible first | exact HB.out | apply below_alloc | apply pw_below_drewN | apply below_drew1 | refine below_set ?_ GE352.out) | exact HB.out)⟩⟩
    · rw [if_neg c4] at H
      have c4b0 : (a0.toList == ([] : List UInt8)) = false := beq_eq_false_iff_ne.mpr c4
      have c4b1 : (a0.toList != ([] : List UInt8)) = true := bne_iff_ne.mpr c4
      (first | rw [c4b0] | (simp only [i64_w, i32_w]; rw [c4b0]) | skip)
      have H' := Aside0.mk H
      clear H
      go_wp2
      go_meet
      case rel => exact ⟨_, (decide ((a0.size : Int) > 60000)), (by first | rfl | (simp; done) | (simp [*]; done)), H', ⟨by first | omega | exact Nat.le_refl _⟩, ⟨by (with_reducible repeat (first | refine blk_drewN ?_ _ | refine blk_drew ?_ | refine blk_alloc ?_ _)); exact BK352.out⟩, ⟨by repeat (first | (with_reducible first | exact HB.out | apply below_alloc | apply pw_below_drewN | apply below_drew1 | refine below_set ?_ GE352.out) | exact HB.out)⟩⟩
  case rest =>
    clear HC2
    try clear c1
    try clear p2
    try clear c4
    try clear c4b0
    try clear c4b1
    obtain ⟨kq, x12_1, rfl, HA, HJ1, BK352, HB⟩ := hcut
    cases kq with
    | zero => exact absurd HA.out (by simp [impl_DecodeRequest.j0])
    | succ kj1 =>
      have H := HA.out
      clear HA
      simp only [impl_DecodeRequest.j0] at H
      by_cases c5 : x12_1 = true
      · subst c5
        have H1 : (some (0, (⟨#[]⟩ : ByteArray), (⟨#[]⟩ : ByteArray), 0, ([] : List (S65)), false)) = some (r1, r2, r3, r4, r5, r6) := by rw [if_pos rfl] at H; exact H
        clear H
        have H := H1
        clear H1
        simp only [Option.some.injEq, Prod.mk.injEq] at H
        obtain ⟨rfl, rfl, rfl, rfl, rfl, rfl⟩ := H
        have hcz6_0 : wc.cell? ⟨gb352, 0, none⟩ = some (.int .i64 0) := (blk_cell BK352.out 0).trans rfl
        have hcz6_1 : wc.cell? ⟨gb352, 1, none⟩ = some (.string (⟨#[]⟩ : ByteArray)) := (blk_cell BK352.out 1).trans rfl
        have hcz6_2 : wc.cell? ⟨gb352, 2, none⟩ = some (.string (⟨#[]⟩ : ByteArray)) := (blk_cell BK352.out 2).trans rfl
        have hcz6_3 : wc.cell? ⟨gb352, 3, none⟩ = some (.int .i64 0) := (blk_cell BK352.out 3).trans rfl
        have hcz6_4 : wc.cell? ⟨gb352, 4, none⟩ = some (.slice none 0 0) := (blk_cell BK352.out 4).trans rfl
        have hfz6_0 := blk_frozen BK352.out 0
        have hfz6_1 := blk_frozen BK352.out 1
        have hfz6_2 := blk_frozen BK352.out 2
        have hfz6_3 := blk_frozen BK352.out 3
        have hfz6_4 := blk_frozen BK352.out 4
        go_wp2
        refine bodyPost_ret (results_ct rfl _ _ gb352 29 #[.int .i64 0, .string (⟨#[]⟩ : ByteArray), .string (⟨#[]⟩ : ByteArray), .int .i64 0, .slice none 0 0] (0, 0) _ rfl (by (with_reducible repeat (first | refine blk_drewN ?_ _ | refine blk_drew ?_ | refine blk_alloc ?_ _)); refine blk_put (cs := #[.int .i64 0, .string (⟨#[]⟩ : ByteArray), .string (⟨#[]⟩ : ByteArray), .int .i64 0, .slice none 0 0]) ?_ 4 _ rfl; (with_reducible repeat (first | refine blk_drewN ?_ _ | refine blk_drew ?_ | refine blk_alloc ?_ _)); refine blk_put (cs := #[.int .i64 0, .string (⟨#[]⟩ : ByteArray), .string (⟨#[]⟩ : ByteArray), .int .i64 0, .slice none 0 0]) ?_ 3 _ rfl; (with_reducible repeat (first | refine blk_drewN ?_ _ | refine blk_drew ?_ | refine blk_alloc ?_ _)); refine blk_put (cs := #[.int .i64 0, .string (⟨#[]⟩ : ByteArray), .string (⟨#[]⟩ : ByteArray), .int .i64 0, .slice none 0 0]) ?_ 2 _ rfl; (with_reducible repeat (first | refine blk_drewN ?_ _ | refine blk_drew ?_ | refine blk_alloc ?_ _)); refine blk_put (cs := #[.int .i64 0, .string (⟨#[]⟩ : ByteArray), .string (⟨#[]⟩ : ByteArray), .int .i64 0, .slice none 0 0]) ?_ 1 _ rfl; (with_reducible repeat (first | refine blk_drewN ?_ _ | refine blk_drew ?_ | refine blk_alloc ?_ _)); refine blk_put (cs := #[.int .i64 0, .string (⟨#[]⟩ : ByteArray), .string (⟨#[]⟩ : ByteArray), .int .i64 0, .slice none 0 0]) ?_ 0 _ rfl; (with_reducible repeat (first | refine blk_drewN ?_ _ | refine blk_drew ?_ | refine blk_alloc ?_ _)); exact BK352.out) Try.underlying29 rfl (by kernel_rfl)) rfl ?_
        exact ⟨_, by first | rfl | (simp [errW_none, errW_some] <;> rfl) | (simp [*, errW_none, errW_some] <;> rfl), by first | exact Kd.S_nil _ _ _ _ _ | exact Kd.N_nil _ _ _ _ _ | exact Kd.V_nil _ _ _ _ _ | exact Kd.Q_nil _ _ _ _ _ | exact Kd.R_nil _ _ _ _ _, by repeat (first | (with_reducible first | exact HB.out | apply below_alloc | apply pw_below_drewN | apply below_drew1 | refine below_set ?_ GE352.out) | exact HB.out)⟩
      · replace c5 := Bool.eq_false_iff.mpr c5
        subst c5
        have H1 : ((impl_source_num.f a0 1).bind fun bt354 => (if bt354.1 = 2 then (impl_DecodeRequest.j1 kj1 a0 false bt354.2 bt354.1 (⟨#[]⟩ : ByteArray) (⟨#[]⟩ : ByteArray) 0) else (impl_DecodeRequest.j1 kj1 a0 (bt354.1 != 4) bt354.2 bt354.1 (⟨#[]⟩ : ByteArray) (⟨#[]⟩ : ByteArray) 0))) = some (r1, r2, r3, r4, r5, r6) := by rw [if_neg (show ¬ (false = true) by decide)] at H; exact H
        clear H
        have H := H1
        clear H1
        replace H := Option.bind_eq_some_iff.mp H
        obtain ⟨⟨t354, t355⟩, A70, H⟩ := H
        replace H : (if t354 = 2 then (impl_DecodeRequest.j1 kj1 a0 false t355 t354 (⟨#[]⟩ : ByteArray) (⟨#[]⟩ : ByteArray) 0) else (impl_DecodeRequest.j1 kj1 a0 (t354 != 4) t355 t354 (⟨#[]⟩ : ByteArray) (⟨#[]⟩ : ByteArray) 0)) = some (r1, r2, r3, r4, r5, r6) := H
        have A7 := Aside0.mk A70
        clear A70
        have HC8 := Aside0.mk H
        clear H
        go_upto_region 5 with (first | ((with_reducible refine gate_dst (N := 16) rfl ?_); (try (refine gate_guard (by rfl) ?_; dsimp only)); refine box_event ?hg (N := 16) ?hd (cs := #[.string a0]) (t := 91) ?hr ?_; (case hd => rfl); (case hg => rfl); (case hr => first | (go_simp; done) | (go_simp; rfl)); intro gb353 hg w9 hbox hb; have n0_ := Aside0.mk (blk_below (g := gb352) (o := .cells #[.int .i64 0, .string (⟨#[]⟩ : ByteArray), .string (⟨#[]⟩ : ByteArray), .int .i64 0, .slice none 0 0] 29 (0, 0)) (by (with_reducible repeat (first | refine blk_drewN ?_ _ | refine blk_drew ?_ | refine blk_alloc ?_ _)); exact BK352.out) hb); have n1_ := Aside0.mk (below_step (by repeat (first | (with_reducible first | exact HB.out | apply below_alloc | apply pw_below_drewN | apply below_drew1 | refine below_set ?_ GE352.out) | exact HB.out)) hb); have n2_ := Aside0.mk ((by rw [hg]; exact Nat.ne_of_lt (blk_lt (g := gb352) (o := .cells #[.int .i64 0, .string (⟨#[]⟩ : ByteArray), .string (⟨#[]⟩ : ByteArray), .int .i64 0, .slice none 0 0] 29 (0, 0)) (by (with_reducible repeat (first | refine blk_drewN ?_ _ | refine blk_drew ?_ | refine blk_alloc ?_ _)); exact BK352.out)) : gb352 ≠ gb353)); have n3_ := Aside0.mk ((by rw [hg]; exact Nat.ne_of_gt (blk_lt (g := gb352) (o := .cells #[.int .i64 0, .string (⟨#[]⟩ : ByteArray), .string (⟨#[]⟩ : ByteArray), .int .i64 0, .slice none 0 0] 29 (0, 0)) (by (with_reducible repeat (first | refine blk_drewN ?_ _ | refine blk_drew ?_ | refine blk_alloc ?_ _)); exact BK352.out)) : gb353 ≠ gb352)); have n4_ := Aside0.mk ((⟨hbox, (by rw [hg]; exact (below_size (by repeat (first | (with_reducible first | exact HB.out | apply below_alloc | apply pw_below_drewN | apply below_drew1 | refine below_set ?_ GE352.out) | exact HB.out))) : w.heap.size ≤ gb353)⟩ : IsS91 w w9 gb353 a0)); clear BK352; clear HB; have BK352 := n0_; have HB := n1_; have NB352_353 := n2_; have NB353_352 := n3_; have HI353 := n4_; clear n0_ n1_ n2_ n3_ n4_; clear hb hbox hg) | ((with_reducible refine gate_callee (f := 43) rfl ?_); refine goesL_ (some 18) rfl rfl Try.func43 (by kernel_rfl) rfl #[.pointer (some ⟨gb353, 0, none⟩), .int .i64 1] rfl (by (try simp only [List.map_toArray, List.map_cons, List.map_nil]); first | done | rfl | (simp only [List.length_drop, List.length_take]; rfl)) ?_; (with_reducible refine (impl_source_num.calls gb353 a0 1 t354 t355 w _ ?side1 ?side2 A7.out).mono ?_); (case side1 => repeat (first | (with_reducible first | exact HI353.out | apply IsS91.alloc | apply IsS91.drewN | apply IsS91.drew | apply IsS91.set_0 | refine IsS91.far ?_ NB353_352.out _) | exact HI353.out)); (case side2 => repeat (first | (with_reducible first | exact HB.out | apply below_alloc | apply pw_below_drewN | apply below_drew1 | refine below_set ?_ (IsS91.ge HI353.out) | refine below_set ?_ GE352.out) | exact HB.out)); rintro e w10 ⟨rfl, hi, hb, hk⟩; refine ⟨_, rfl, ?_⟩; have n0_ := Aside0.mk (KeepBut.blk hk (g' := gb352) (o := .cells #[.int .i64 0, .string (⟨#[]⟩ : ByteArray), .string (⟨#[]⟩ : ByteArray), .int .i64 0, .slice none 0 0] 29 (0, 0)) (by (with_reducible repeat (first | refine blk_drewN ?_ _ | refine blk_drew ?_ | refine blk_alloc ?_ _)); exact BK352.out) NB352_353.out (by simp)); have n1_ := Aside0.mk (hb); have n2_ := Aside0.mk (hi); clear BK352; clear HB; clear HI353; have BK352 := n0_; have HB := n1_; have HI353 := n2_; clear n0_ n1_ n2_; (try clear hb); (try clear hb2); (try clear hk); (try clear hi)) | ((with_reducible refine gate_dst (N := 5) rfl ?_); (try (refine gate_guard (by rfl) ?_; dsimp only)); refine box_event ?hg (N := 5) ?hd (cs := #[.int .i64 0, .string (⟨#[]⟩ : ByteArray), .string (⟨#[]⟩ : ByteArray), .int .i64 0, .slice none 0 0]) (t := 29) ?hr ?_; (case hd => rfl); (case hg => rfl); (case hr => first | (go_simp; done) | (go_simp; rfl)); intro gb356 hg w11 hbox hb; have n0_ := Aside0.mk (blk_below (g := gb352) (o := .cells #[.int .i64 0, .string (⟨#[]⟩ : ByteArray), .string (⟨#[]⟩ : ByteArray), .int .i64 0, .slice none 0 0] 29 (0, 0)) (by (with_reducible repeat (first | refine blk_drewN ?_ _ | refine blk_drew ?_ | refine blk_alloc ?_ _)); exact BK352.out) hb); have n1_ := Aside0.mk (IsS91.below (by repeat (first | (with_reducible first | exact HI353.out | apply IsS91.alloc | apply IsS91.drewN | apply IsS91.drew | apply IsS91.set_0 | refine IsS91.far ?_ NB353_352.out _) | exact HI353.out)) hb); have n2_ := Aside0.mk (below_step (by repeat (first | (with_reducible first | exact HB.out | apply below_alloc | apply pw_below_drewN | apply below_drew1 | refine below_set ?_ (IsS91.ge HI353.out) | refine below_set ?_ GE352.out) | exact HB.out)) hb); have n3_ := Aside0.mk (hbox); have n4_ := Aside0.mk ((by rw [hg]; exact (below_size (by repeat (first | (with_reducible first | exact HB.out | apply below_alloc | apply pw_below_drewN | apply below_drew1 | refine below_set ?_ (IsS91.ge HI353.out) | refine below_set ?_ GE352.out) | exact HB.out))) : w.heap.size ≤ gb356)); have n5_ := Aside0.mk ((by rw [hg]; exact (below_size (by repeat (first | (with_reducible first | exact HB.out | apply below_alloc | apply pw_below_drewN | apply below_drew1 | refine below_set ?_ (IsS91.ge HI353.out) | refine below_set ?_ GE352.out) | exact HB.out))) : w.heap.size ≤ gb356)); have n6_ := Aside0.mk ((by rw [hg]; exact Nat.ne_of_lt (blk_lt (g := gb352) (o := .cells #[.int .i64 0, .string (⟨#[]⟩ : ByteArray), .string (⟨#[]⟩ : ByteArray), .int .i64 0, .slice none 0 0] 29 (0, 0)) (by (with_reducible repeat (first | refine blk_drewN ?_ _ | refine blk_drew ?_ | refine blk_alloc ?_ _)); exact BK352.out)) : gb352 ≠ gb356)); have n7_ := Aside0.mk ((by rw [hg]; exact Nat.ne_of_gt (blk_lt (g := gb352) (o := .cells #[.int .i64 0, .string (⟨#[]⟩ : ByteArray), .string (⟨#[]⟩ : ByteArray), .int .i64 0, .slice none 0 0] 29 (0, 0)) (by (with_reducible repeat (first | refine blk_drewN ?_ _ | refine blk_drew ?_ | refine blk_alloc ?_ _)); exact BK352.out)) : gb356 ≠ gb352)); have n8_ := Aside0.mk ((by rw [hg]; exact Nat.ne_of_lt (IsS91.lt (show IsS91 w _ gb353 t355 from by repeat (first | (with_reducible first | exact HI353.out | apply IsS91.alloc | apply IsS91.drewN | apply IsS91.drew | apply IsS91.set_0 | refine IsS91.far ?_ NB353_352.out _) | exact HI353.out))) : gb353 ≠ gb356)); have n9_ := Aside0.mk ((by rw [hg]; exact Nat.ne_of_gt (IsS91.lt (show IsS91 w _ gb353 t355 from by repeat (first | (with_reducible first | exact HI353.out | apply IsS91.alloc | apply IsS91.drewN | apply IsS91.drew | apply IsS91.set_0 | refine IsS91.far ?_ NB353_352.out _) | exact HI353.out))) : gb356 ≠ gb353)); clear BK352; clear HI353; clear HB; have BK352 := n0_; have HI353 := n1_; have HB := n2_; have BK356 := n3_; have GW356 := n4_; have GE356 := n5_; have NB352_356 := n6_; have NB356_352 := n7_; have NB353_356 := n8_; have NB356_353 := n9_; clear n0_ n1_ n2_ n3_ n4_ n5_ n6_ n7_ n8_ n9_; clear hb hbox hg; have hnb12 := NB356_352.out; have hnc12 := NB352_356.out; have hnb13 := NB356_353.out; have hnc13 := NB353_356.out; have hcz14_0 : w11.cell? ⟨gb356, 0, none⟩ = some (.int .i64 0) := (blk_cell BK356.out 0).trans rfl; have hcz14_1 : w11.cell? ⟨gb356, 1, none⟩ = some (.string (⟨#[]⟩ : ByteArray)) := (blk_cell BK356.out 1).trans rfl; have hcz14_2 : w11.cell? ⟨gb356, 2, none⟩ = some (.string (⟨#[]⟩ : ByteArray)) := (blk_cell BK356.out 2).trans rfl; have hcz14_3 : w11.cell? ⟨gb356, 3, none⟩ = some (.int .i64 0) := (blk_cell BK356.out 3).trans rfl; have hcz14_4 : w11.cell? ⟨gb356, 4, none⟩ = some (.slice none 0 0) := (blk_cell BK356.out 4).trans rfl; have hfz14_0 := blk_frozen BK356.out 0; have hfz14_1 := blk_frozen BK356.out 1; have hfz14_2 := blk_frozen BK356.out 2; have hfz14_3 := blk_frozen BK356.out 3; have hfz14_4 := blk_frozen BK356.out 4))
        (try simp only [Act.put, List.setIfInBounds_toArray, List.set_cons_zero, List.set_cons_succ])
        go_cut [27] (fun v27 wc => ∃ (kq : Nat) (x27_7 : Bool), v27 = .bool x27_7 ∧ Aside0 (impl_DecodeRequest.j1 kq a0 x27_7 t355 t354 (⟨#[]⟩ : ByteArray) (⟨#[]⟩ : ByteArray) 0 = some (r1, r2, r3, r4, r5, r6)) ∧ Aside0 (kq ≤ kj1) ∧ Aside0 (wc.heap[gb352]? = some (.cells #[.int .i64 0, .string (⟨#[]⟩ : ByteArray), .string (⟨#[]⟩ : ByteArray), .int .i64 0, (.slice none 0 0)] 29 (0, 0))) ∧ Aside0 (wc.heap[gb356]? = some (.cells #[.int .i64 t354, .string (⟨#[]⟩ : ByteArray), .string (⟨#[]⟩ : ByteArray), .int .i64 0, (.slice none 0 0)] 29 (0, 0))) ∧ Aside0 (IsS91 w wc gb353 t355) ∧ Aside0 (Below w.heap.size w wc))
        case first =>
          have H := HC8.out
          clear HC8
          by_cases c15 : t354 = 2
          · rw [if_pos c15] at H
            have c15b0 : (t354 == 2) = true := beq_iff_eq.mpr c15
            have c15b1 : (t354 != 2) = false := bne_eq_false_iff_eq.mpr c15
            clear c15
            (first | rw [c15b0] | (simp only [i64_w, i32_w]; rw [c15b0]) | skip)
            have H' := Aside0.mk H
            clear H
            have hnb16 := NB356_352.out
            have hnc16 := NB352_356.out
            have hnb17 := NB356_353.out
            have hnc17 := NB353_356.out
            have hcz18_0 : w11.cell? ⟨gb356, 0, none⟩ = some (.int .i64 0) := (blk_cell BK356.out 0).trans rfl
            have hcz18_1 : w11.cell? ⟨gb356, 1, none⟩ = some (.string (⟨#[]⟩ : ByteArray)) := (blk_cell BK356.out 1).trans rfl
            have hcz18_2 : w11.cell? ⟨gb356, 2, none⟩ = some (.string (⟨#[]⟩ : ByteArray)) := (blk_cell BK356.out 2).trans rfl
            have hcz18_3 : w11.cell? ⟨gb356, 3, none⟩ = some (.int .i64 0) := (blk_cell BK356.out 3).trans rfl
            have hcz18_4 : w11.cell? ⟨gb356, 4, none⟩ = some (.slice none 0 0) := (blk_cell BK356.out 4).trans rfl
            have hfz18_0 := blk_frozen BK356.out 0
            have hfz18_1 := blk_frozen BK356.out 1
            have hfz18_2 := blk_frozen BK356.out 2
            have hfz18_3 := blk_frozen BK356.out 3
            have hfz18_4 := blk_frozen BK356.out 4
            go_wp2
            go_meet
            case rel => exact ⟨_, (false), (by first | rfl | (simp; done) | (simp [*]; done)), H', ⟨by have := HJ1.out; first | omega | exact Nat.le_refl _⟩, ⟨by (with_reducible repeat (first | refine blk_drewN ?_ _ | refine blk_drew ?_ | refine blk_alloc ?_ _)); refine blk_far ?_ NB352_356.out _; (with_reducible repeat (first | refine blk_drewN ?_ _ | refine blk_drew ?_ | refine blk_alloc ?_ _)); refine blk_far ?_ NB352_356.out _; (with_reducible repeat (first | refine blk_drewN ?_ _ | refine blk_drew ?_ | refine blk_alloc ?_ _)); refine blk_far ?_ NB352_356.out _; (with_reducible repeat (first | refine blk_drewN ?_ _ | refine blk_drew ?_ | refine blk_alloc ?_ _)); refine blk_far ?_ NB352_356.out _; (with_reducible repeat (first | refine blk_drewN ?_ _ | refine blk_drew ?_ | refine blk_alloc ?_ _)); refine blk_far ?_ NB352_356.out _; (with_reducible repeat (first | refine blk_drewN ?_ _ | refine blk_drew ?_ | refine blk_alloc ?_ _)); exact BK352.out⟩, ⟨by (with_reducible repeat (first | refine blk_drewN ?_ _ | refine blk_drew ?_ | refine blk_alloc ?_ _)); refine blk_put (cs := #[.int .i64 t354, .string (⟨#[]⟩ : ByteArray), .string (⟨#[]⟩ : ByteArray), .int .i64 0, .slice none 0 0]) ?_ 4 _ rfl; (with_reducible repeat (first | refine blk_drewN ?_ _ | refine blk_drew ?_ | refine blk_alloc ?_ _)); refine blk_put (cs := #[.int .i64 t354, .string (⟨#[]⟩ : ByteArray), .string (⟨#[]⟩ : ByteArray), .int .i64 0, .slice none 0 0]) ?_ 3 _ rfl; (with_reducible repeat (first | refine blk_drewN ?_ _ | refine blk_drew ?_ | refine blk_alloc ?_ _)); refine blk_put (cs := #[.int .i64 t354, .string (⟨#[]⟩ : ByteArray), .string (⟨#[]⟩ : ByteArray), .int .i64 0, .slice none 0 0]) ?_ 2 _ rfl; (with_reducible repeat (first | refine blk_drewN ?_ _ | refine blk_drew ?_ | refine blk_alloc ?_ _)); refine blk_put (cs := #[.int .i64 t354, .string (⟨#[]⟩ : ByteArray), .string (⟨#[]⟩ : ByteArray), .int .i64 0, .slice none 0 0]) ?_ 1 _ rfl; (with_reducible repeat (first | refine blk_drewN ?_ _ | refine blk_drew ?_ | refine blk_alloc ?_ _)); refine blk_put (cs := #[.int .i64 0, .string (⟨#[]⟩ : ByteArray), .string (⟨#[]⟩ : ByteArray), .int .i64 0, .slice none 0 0]) ?_ 0 _ rfl; (with_reducible repeat (first | refine blk_drewN ?_ _ | refine blk_drew ?_ | refine blk_alloc ?_ _)); exact BK356.out⟩, ⟨by repeat (first | (with_reducible first | exact HI353.out | apply IsS91.alloc | apply IsS91.drewN | apply IsS91.drew | apply IsS91.set_0 | refine IsS91.far ?_ NB353_352.out _ | refine IsS91.far ?_ NB353_356.out _) | exact HI353.out)⟩, ⟨by repeat (first | (with_reducible first | exact HB.out | apply below_alloc | apply pw_below_drewN | apply below_drew1 | refine below_set ?_ (IsS91.ge HI353.out) | refine below_set ?_ GE352.out | refine below_set ?_ GE356.out) | exact HB.out)⟩⟩
          · rw [if_neg c15] at H
            have c15b0 : (t354 == 2) = false := beq_eq_false_iff_ne.mpr c15
            have c15b1 : (t354 != 2) = true := bne_iff_ne.mpr c15
            (first | rw [c15b0] | (simp only [i64_w, i32_w]; rw [c15b0]) | skip)
            have H' := Aside0.mk H
            clear H
            have hnb19 := NB356_352.out
            have hnc19 := NB352_356.out
            have hnb20 := NB356_353.out
            have hnc20 := NB353_356.out
            have hcz21_0 : w11.cell? ⟨gb356, 0, none⟩ = some (.int .i64 0) := (blk_cell BK356.out 0).trans rfl
            have hcz21_1 : w11.cell? ⟨gb356, 1, none⟩ = some (.string (⟨#[]⟩ : ByteArray)) := (blk_cell BK356.out 1).trans rfl
            have hcz21_2 : w11.cell? ⟨gb356, 2, none⟩ = some (.string (⟨#[]⟩ : ByteArray)) := (blk_cell BK356.out 2).trans rfl
            have hcz21_3 : w11.cell? ⟨gb356, 3, none⟩ = some (.int .i64 0) := (blk_cell BK356.out 3).trans rfl
            have hcz21_4 : w11.cell? ⟨gb356, 4, none⟩ = some (.slice none 0 0) := (blk_cell BK356.out 4).trans rfl
            have hfz21_0 := blk_frozen BK356.out 0
            have hfz21_1 := blk_frozen BK356.out 1
            have hfz21_2 := blk_frozen BK356.out 2
            have hfz21_3 := blk_frozen BK356.out 3
            have hfz21_4 := blk_frozen BK356.out 4
            go_wp2
            go_meet
            case rel => exact ⟨_, ((t354 != 4)), (by first | rfl | (simp; done) | (simp [*]; done)), H', ⟨by have := HJ1.out; first | omega | exact Nat.le_refl _⟩, ⟨by (with_reducible repeat (first | refine blk_drewN ?_ _ | refine blk_drew ?_ | refine blk_alloc ?_ _)); refine blk_far ?_ NB352_356.out _; (with_reducible repeat (first | refine blk_drewN ?_ _ | refine blk_drew ?_ | refine blk_alloc ?_ _)); refine blk_far ?_ NB352_356.out _; (with_reducible repeat (first | refine blk_drewN ?_ _ | refine blk_drew ?_ | refine blk_alloc ?_ _)); refine blk_far ?_ NB352_356.out _; (with_reducible repeat (first | refine blk_drewN ?_ _ | refine blk_drew ?_ | refine blk_alloc ?_ _)); refine blk_far ?_ NB352_356.out _; (with_reducible repeat (first | refine blk_drewN ?_ _ | refine blk_drew ?_ | refine blk_alloc ?_ _)); refine blk_far ?_ NB352_356.out _; (with_reducible repeat (first | refine blk_drewN ?_ _ | refine blk_drew ?_ | refine blk_alloc ?_ _)); exact BK352.out⟩, ⟨by (with_reducible repeat (first | refine blk_drewN ?_ _ | refine blk_drew ?_ | refine blk_alloc ?_ _)); refine blk_put (cs := #[.int .i64 t354, .string (⟨#[]⟩ : ByteArray), .string (⟨#[]⟩ : ByteArray), .int .i64 0, .slice none 0 0]) ?_ 4 _ rfl; (with_reducible repeat (first | refine blk_drewN ?_ _ | refine blk_drew ?_ | refine blk_alloc ?_ _)); refine blk_put (cs := #[.int .i64 t354, .string (⟨#[]⟩ : ByteArray), .string (⟨#[]⟩ : ByteArray), .int .i64 0, .slice none 0 0]) ?_ 3 _ rfl; (with_reducible repeat (first | refine blk_drewN ?_ _ | refine blk_drew ?_ | refine blk_alloc ?_ _)); refine blk_put (cs := #[.int .i64 t354, .string (⟨#[]⟩ : ByteArray), .string (⟨#[]⟩ : ByteArray), .int .i64 0, .slice none 0 0]) ?_ 2 _ rfl; (with_reducible repeat (first | refine blk_drewN ?_ _ | refine blk_drew ?_ | refine blk_alloc ?_ _)); refine blk_put (cs := #[.int .i64 t354, .string (⟨#[]⟩ : ByteArray), .string (⟨#[]⟩ : ByteArray), .int .i64 0, .slice none 0 0]) ?_ 1 _ rfl; (with_reducible repeat (first | refine blk_drewN ?_ _ | refine blk_drew ?_ | refine blk_alloc ?_ _)); refine blk_put (cs := #[.int .i64 0, .string (⟨#[]⟩ : ByteArray), .string (⟨#[]⟩ : ByteArray), .int .i64 0, .slice none 0 0]) ?_ 0 _ rfl; (with_reducible repeat (first | refine blk_drewN ?_ _ | refine blk_drew ?_ | refine blk_alloc ?_ _)); exact BK356.out⟩, ⟨by repeat (first | (with_reducible first | exact HI353.out | apply IsS91.alloc | apply IsS91.drewN | apply IsS91.drew | apply IsS91.set_0 | refine IsS91.far ?_ NB353_352.out _ | refine IsS91.far ?_ NB353_356.out _) | exact HI353.out)⟩, ⟨by repeat (first | (with_reducible first | exact HB.out | apply below_alloc | apply pw_below_drewN | apply below_drew1 | refine below_set ?_ (IsS91.ge HI353.out) | refine below_set ?_ GE352.out | refine below_set ?_ GE356.out) | exact HB.out)⟩⟩
        case rest =>
          clear HC8
          try clear c1
          try clear c2
          try clear p2
          try clear c4
          try clear c4b0
          try clear c4b1
          try clear c5
          try clear c12
          try clear c13
          try clear c15
          try clear c15b0
          try clear c15b1
          try clear c16
          try clear c17
          try clear c19
          try clear c20
          try clear hcz14_0
          try clear hcz14_1
          try clear hcz14_2
          try clear hcz14_3
          try clear hcz14_4
          try clear hcz18_0
          try clear hcz18_1
          try clear hcz18_2
          try clear hcz18_3
          try clear hcz18_4
          try clear hcz21_0
          try clear hcz21_1
          try clear hcz21_2
          try clear hcz21_3
          try clear hcz21_4
          try clear hcz6_0
          try clear hcz6_1
          try clear hcz6_2
          try clear hcz6_3
          try clear hcz6_4
          try clear hfz14_0
          try clear hfz14_1
          try clear hfz14_2
          try clear hfz14_3
          try clear hfz14_4
          try clear hfz18_0
          try clear hfz18_1
          try clear hfz18_2
          try clear hfz18_3
          try clear hfz18_4
          try clear hfz21_0
          try clear hfz21_1
          try clear hfz21_2
          try clear hfz21_3
          try clear hfz21_4
          try clear hfz6_0
          try clear hfz6_1
          try clear hfz6_2
          try clear hfz6_3
          try clear hfz6_4
          try clear p2
          obtain ⟨kq, x27_7, rfl, HA, HJ7, BK352, BK356, HI353, HB⟩ := hcut
          cases kq with
          | zero => exact absurd HA.out (by simp [impl_DecodeRequest.j1])
          | succ kj7 =>
            have H := HA.out
            clear HA
            simp only [impl_DecodeRequest.j1] at H
            have HC22 := Aside0.mk H
            clear H
            go_upto_if 27 with (fail)
            go_cut [] (fun wc => ∃ (kq : Nat) (x354000_21 : ByteArray) (x357001_21 : ByteArray), Aside0 (impl_DecodeRequest.j2 kq a0 x354000_21 t354 x357001_21 (⟨#[]⟩ : ByteArray) 0 = some (r1, r2, r3, r4, r5, r6)) ∧ Aside0 (kq ≤ kj7) ∧ Aside0 (wc.heap[gb352]? = some (.cells #[.int .i64 0, .string (⟨#[]⟩ : ByteArray), .string (⟨#[]⟩ : ByteArray), .int .i64 0, (.slice none 0 0)] 29 (0, 0))) ∧ Aside0 (wc.heap[gb356]? = some (.cells #[.int .i64 t354, .string x357001_21, .string (⟨#[]⟩ : ByteArray), .int .i64 0, (.slice none 0 0)] 29 (0, 0))) ∧ Aside0 (IsS91 w wc gb353 x354000_21) ∧ Aside0 (Below w.heap.size w wc))
            case first =>
              have H := HC22.out
              clear HC22
              by_cases c23 : x27_7 = true
              · subst c23
                have H1 : ((impl_source_s8.f t355).bind fun bt357 => (impl_DecodeRequest.j2 kj7 a0 bt357.2 t354 bt357.1 (⟨#[]⟩ : ByteArray) 0)) = some (r1, r2, r3, r4, r5, r6) := by rw [if_pos rfl] at H; exact H
                clear H
                have H := H1
                clear H1
                replace H := Option.bind_eq_some_iff.mp H
                obtain ⟨⟨t357, t358⟩, A240, H⟩ := H
                replace H : (impl_DecodeRequest.j2 kj7 a0 t358 t354 t357 (⟨#[]⟩ : ByteArray) 0) = some (r1, r2, r3, r4, r5, r6) := H
                have A24 := Aside0.mk A240
                clear A240
                have H' := Aside0.mk H
                clear H
                go_wp2_with (first | ((with_reducible refine gate_callee (f := 44) rfl ?_); refine goesL_ (some 29) rfl rfl Try.func44 (by kernel_rfl) rfl #[.pointer (some ⟨gb353, 0, none⟩)] rfl (by (try simp only [List.map_toArray, List.map_cons, List.map_nil]); first | done | rfl | (simp only [List.length_drop, List.length_take]; rfl)) ?_; (with_reducible refine (impl_source_s8.calls gb353 t355 t357 t358 w _ ?side1 ?side2 A24.out).mono ?_); (case side1 => repeat (first | (with_reducible first | exact HI353.out | apply IsS91.alloc | apply IsS91.drewN | apply IsS91.drew | apply IsS91.set_0 | refine IsS91.far ?_ NB353_352.out _ | refine IsS91.far ?_ NB353_356.out _) | exact HI353.out)); (case side2 => repeat (first | (with_reducible first | exact HB.out | apply below_alloc | apply pw_below_drewN | apply below_drew1 | refine below_set ?_ (IsS91.ge HI353.out) | refine below_set ?_ GE352.out | refine below_set ?_ GE356.out) | exact HB.out)); rintro e w25 ⟨rfl, hi, hb, hk⟩; refine ⟨_, rfl, ?_⟩; have n0_ := Aside0.mk (KeepBut.blk hk (g' := gb352) (o := .cells #[.int .i64 0, .string (⟨#[]⟩ : ByteArray), .string (⟨#[]⟩ : ByteArray), .int .i64 0, .slice none 0 0] 29 (0, 0)) (by (with_reducible repeat (first | refine blk_drewN ?_ _ | refine blk_drew ?_ | refine blk_alloc ?_ _)); exact BK352.out) NB352_353.out (by simp)); have n1_ := Aside0.mk (KeepBut.blk hk (g' := gb356) (o := .cells #[.int .i64 t354, .string (⟨#[]⟩ : ByteArray), .string (⟨#[]⟩ : ByteArray), .int .i64 0, .slice none 0 0] 29 (0, 0)) (by (with_reducible repeat (first | refine blk_drewN ?_ _ | refine blk_drew ?_ | refine blk_alloc ?_ _)); exact BK356.out) NB356_353.out (by simp)); have n2_ := Aside0.mk (hb); have n3_ := Aside0.mk (hi); clear BK352; clear BK356; clear HB; clear HI353; have BK352 := n0_; have BK356 := n1_; have HB := n2_; have HI353 := n3_; clear n0_ n1_ n2_ n3_; (try clear hb); (try clear hb2); (try clear hk); (try clear hi); have hnb26 := NB356_352.out; have hnc26 := NB352_356.out; have hnb27 := NB356_353.out; have hnc27 := NB353_356.out; have hcz28_0 : w25.cell? ⟨gb356, 0, none⟩ = some (.int .i64 t354) := (blk_cell BK356.out 0).trans rfl; have hcz28_1 : w25.cell? ⟨gb356, 1, none⟩ = some (.string (⟨#[]⟩ : ByteArray)) := (blk_cell BK356.out 1).trans rfl; have hcz28_2 : w25.cell? ⟨gb356, 2, none⟩ = some (.string (⟨#[]⟩ : ByteArray)) := (blk_cell BK356.out 2).trans rfl; have hcz28_3 : w25.cell? ⟨gb356, 3, none⟩ = some (.int .i64 0) := (blk_cell BK356.out 3).trans rfl; have hcz28_4 : w25.cell? ⟨gb356, 4, none⟩ = some (.slice none 0 0) := (blk_cell BK356.out 4).trans rfl; have hfz28_0 := blk_frozen BK356.out 0; have hfz28_1 := blk_frozen BK356.out 1; have hfz28_2 := blk_frozen BK356.out 2; have hfz28_3 := blk_frozen BK356.out 3; have hfz28_4 := blk_frozen BK356.out 4))
                go_meet
                case rel => exact ⟨_, (t358), (t357), H', ⟨by have := HJ1.out; have := HJ7.out; first | omega | exact Nat.le_refl _⟩, ⟨by (with_reducible repeat (first | refine blk_drewN ?_ _ | refine blk_drew ?_ | refine blk_alloc ?_ _)); refine blk_far ?_ NB352_356.out _; (with_reducible repeat (first | refine blk_drewN ?_ _ | refine blk_drew ?_ | refine blk_alloc ?_ _)); exact BK352.out⟩, ⟨by (with_reducible repeat (first | refine blk_drewN ?_ _ | refine blk_drew ?_ | refine blk_alloc ?_ _)); refine blk_put (cs := #[.int .i64 t354, .string (⟨#[]⟩ : ByteArray), .string (⟨#[]⟩ : ByteArray), .int .i64 0, .slice none 0 0]) ?_ 1 _ rfl; (with_reducible repeat (first | refine blk_drewN ?_ _ | refine blk_drew ?_ | refine blk_alloc ?_ _)); exact BK356.out⟩, ⟨by repeat (first | (with_reducible first | exact HI353.out | apply IsS91.alloc | apply IsS91.drewN | apply IsS91.drew | apply IsS91.set_0 | refine IsS91.far ?_ NB353_352.out _ | refine IsS91.far ?_ NB353_356.out _) | exact HI353.out)⟩, ⟨by repeat (first | (with_reducible first | exact HB.out | apply below_alloc | apply pw_below_drewN | apply below_drew1 | refine below_set ?_ (IsS91.ge HI353.out) | refine below_set ?_ GE352.out | refine below_set ?_ GE356.out) | exact HB.out)⟩⟩
              · replace c23 := Bool.eq_false_iff.mpr c23
                subst c23
                have H1 : (impl_DecodeRequest.j2 kj7 a0 t355 t354 (⟨#[]⟩ : ByteArray) (⟨#[]⟩ : ByteArray) 0) = some (r1, r2, r3, r4, r5, r6) := by rw [if_neg (show ¬ (false = true) by decide)] at H; exact H
                clear H
                have H := H1
                clear H1
                have H' := Aside0.mk H
                clear H
                go_wp2
                go_meet
                case rel => exact ⟨_, (t355), ((⟨#[]⟩ : ByteArray)), H', ⟨by have := HJ1.out; have := HJ7.out; first | omega | exact Nat.le_refl _⟩, ⟨by (with_reducible repeat (first | refine blk_drewN ?_ _ | refine blk_drew ?_ | refine blk_alloc ?_ _)); exact BK352.out⟩, ⟨by (with_reducible repeat (first | refine blk_drewN ?_ _ | refine blk_drew ?_ | refine blk_alloc ?_ _)); exact BK356.out⟩, ⟨by repeat (first | (with_reducible first | exact HI353.out | apply IsS91.alloc | apply IsS91.drewN | apply IsS91.drew | apply IsS91.set_0 | refine IsS91.far ?_ NB353_352.out _ | refine IsS91.far ?_ NB353_356.out _) | exact HI353.out)⟩, ⟨by repeat (first | (with_reducible first | exact HB.out | apply below_alloc | apply pw_below_drewN | apply below_drew1 | refine below_set ?_ (IsS91.ge HI353.out) | refine below_set ?_ GE352.out | refine below_set ?_ GE356.out) | exact HB.out)⟩⟩
            case rest =>
              clear HC22
              try clear c1
              try clear c2
              try clear p2
              try clear c4
              try clear c4b0
              try clear c4b1
              try clear c5
              try clear c12
              try clear c13
              try clear c15
              try clear c15b0
              try clear c15b1
              try clear c16
              try clear c17
              try clear c19
              try clear c20
              try clear c23
              try clear c26
              try clear c27
              try clear hcz14_0
              try clear hcz14_1
              try clear hcz14_2
              try clear hcz14_3
              try clear hcz14_4
              try clear hcz18_0
              try clear hcz18_1
              try clear hcz18_2
              try clear hcz18_3
              try clear hcz18_4
              try clear hcz21_0
              try clear hcz21_1
              try clear hcz21_2
              try clear hcz21_3
              try clear hcz21_4
              try clear hcz28_0
              try clear hcz28_1
              try clear hcz28_2
              try clear hcz28_3
              try clear hcz28_4
              try clear hcz6_0
              try clear hcz6_1
              try clear hcz6_2
              try clear hcz6_3
              try clear hcz6_4
              try clear hfz14_0
              try clear hfz14_1
              try clear hfz14_2
              try clear hfz14_3
              try clear hfz14_4
              try clear hfz18_0
              try clear hfz18_1
              try clear hfz18_2
              try clear hfz18_3
              try clear hfz18_4
              try clear hfz21_0
              try clear hfz21_1
              try clear hfz21_2
              try clear hfz21_3
              try clear hfz21_4
              try clear hfz28_0
              try clear hfz28_1
              try clear hfz28_2
              try clear hfz28_3
              try clear hfz28_4
              try clear hfz6_0
              try clear hfz6_1
              try clear hfz6_2
              try clear hfz6_3
              try clear hfz6_4
              try clear p2
              obtain ⟨kq, x354000_21, x357001_21, HA, HJ21, BK352, BK356, HI353, HB⟩ := hcut
              cases kq with
              | zero => exact absurd HA.out (by simp [impl_DecodeRequest.j2])
              | succ kj21 =>
                have H := HA.out
                clear HA
                simp only [impl_DecodeRequest.j2] at H
                have HC29 := Aside0.mk H
                clear H
                go_upto_region 7 with (fail)
                go_cut [38] (fun v38 wc => ∃ (kq : Nat) (x38_28 : Bool), v38 = .bool x38_28 ∧ Aside0 (impl_DecodeRequest.j3 kq a0 x38_28 x354000_21 t354 x357001_21 (⟨#[]⟩ : ByteArray) 0 = some (r1, r2, r3, r4, r5, r6)) ∧ Aside0 (kq ≤ kj21) ∧ Aside0 (wc.heap[gb352]? = some (.cells #[.int .i64 0, .string (⟨#[]⟩ : ByteArray), .string (⟨#[]⟩ : ByteArray), .int .i64 0, (.slice none 0 0)] 29 (0, 0))) ∧ Aside0 (wc.heap[gb356]? = some (.cells #[.int .i64 t354, .string x357001_21, .string (⟨#[]⟩ : ByteArray), .int .i64 0, (.slice none 0 0)] 29 (0, 0))) ∧ Aside0 (IsS91 w wc gb353 x354000_21) ∧ Aside0 (Below w.heap.size w wc))
                case first =>
                  have H := HC29.out
                  clear HC29
                  by_cases c30 : t354 = 3
                  · rw [if_pos c30] at H
                    have c30b0 : (t354 == 3) = true := beq_iff_eq.mpr c30
                    have c30b1 : (t354 != 3) = false := bne_eq_false_iff_eq.mpr c30
                    clear c30
                    (first | rw [c30b0] | (simp only [i64_w, i32_w]; rw [c30b0]) | skip)
                    have H' := Aside0.mk H
                    clear H
                    have hnb31 := NB356_352.out
                    have hnc31 := NB352_356.out
                    have hnb32 := NB356_353.out
                    have hnc32 := NB353_356.out
                    have hcz33_0 : wc.cell? ⟨gb356, 0, none⟩ = some (.int .i64 t354) := (blk_cell BK356.out 0).trans rfl
                    have hcz33_1 : wc.cell? ⟨gb356, 1, none⟩ = some (.string x357001_21) := (blk_cell BK356.out 1).trans rfl
                    have hcz33_2 : wc.cell? ⟨gb356, 2, none⟩ = some (.string (⟨#[]⟩ : ByteArray)) := (blk_cell BK356.out 2).trans rfl
                    have hcz33_3 : wc.cell? ⟨gb356, 3, none⟩ = some (.int .i64 0) := (blk_cell BK356.out 3).trans rfl
                    have hcz33_4 : wc.cell? ⟨gb356, 4, none⟩ = some (.slice none 0 0) := (blk_cell BK356.out 4).trans rfl
                    have hfz33_0 := blk_frozen BK356.out 0
                    have hfz33_1 := blk_frozen BK356.out 1
                    have hfz33_2 := blk_frozen BK356.out 2
                    have hfz33_3 := blk_frozen BK356.out 3
                    have hfz33_4 := blk_frozen BK356.out 4
                    go_wp2
                    go_meet
                    case rel => exact ⟨_, (true), (by first | rfl | (simp; done) | (simp [*]; done)), H', ⟨by have := HJ1.out; have := HJ7.out; have := HJ21.out; first | omega | exact Nat.le_refl _⟩, ⟨by (with_reducible repeat (first | refine blk_drewN ?_ _ | refine blk_drew ?_ | refine blk_alloc ?_ _)); exact BK352.out⟩, ⟨by (with_reducible repeat (first | refine blk_drewN ?_ _ | refine blk_drew ?_ | refine blk_alloc ?_ _)); exact BK356.out⟩, ⟨by repeat (first | (with_reducible first | exact HI353.out | apply IsS91.alloc | apply IsS91.drewN | apply IsS91.drew | apply IsS91.set_0 | refine IsS91.far ?_ NB353_352.out _ | refine IsS91.far ?_ NB353_356.out _) | exact HI353.out)⟩, ⟨by repeat (first | (with_reducible first | exact HB.out | apply below_alloc | apply pw_below_drewN | apply below_drew1 | refine below_set ?_ (IsS91.ge HI353.out) | refine below_set ?_ GE352.out | refine below_set ?_ GE356.out) | exact HB.out)⟩⟩
                  · rw [if_neg c30] at H
                    have c30b0 : (t354 == 3) = false := beq_eq_false_iff_ne.mpr c30
                    have c30b1 : (t354 != 3) = true := bne_iff_ne.mpr c30
                    (first | rw [c30b0] | (simp only [i64_w, i32_w]; rw [c30b0]) | skip)
                    have H' := Aside0.mk H
                    clear H
                    have hnb34 := NB356_352.out
                    have hnc34 := NB352_356.out
                    have hnb35 := NB356_353.out
                    have hnc35 := NB353_356.out
                    have hcz36_0 : wc.cell? ⟨gb356, 0, none⟩ = some (.int .i64 t354) := (blk_cell BK356.out 0).trans rfl
                    have hcz36_1 : wc.cell? ⟨gb356, 1, none⟩ = some (.string x357001_21) := (blk_cell BK356.out 1).trans rfl
                    have hcz36_2 : wc.cell? ⟨gb356, 2, none⟩ = some (.string (⟨#[]⟩ : ByteArray)) := (blk_cell BK356.out 2).trans rfl
                    have hcz36_3 : wc.cell? ⟨gb356, 3, none⟩ = some (.int .i64 0) := (blk_cell BK356.out 3).trans rfl
                    have hcz36_4 : wc.cell? ⟨gb356, 4, none⟩ = some (.slice none 0 0) := (blk_cell BK356.out 4).trans rfl
                    have hfz36_0 := blk_frozen BK356.out 0
                    have hfz36_1 := blk_frozen BK356.out 1
                    have hfz36_2 := blk_frozen BK356.out 2
                    have hfz36_3 := blk_frozen BK356.out 3
                    have hfz36_4 := blk_frozen BK356.out 4
                    go_wp2
                    go_meet
                    case rel => exact ⟨_, ((t354 == 5)), (by first | rfl | (simp; done) | (simp [*]; done)), H', ⟨by have := HJ1.out; have := HJ7.out; have := HJ21.out; first | omega | exact Nat.le_refl _⟩, ⟨by (with_reducible repeat (first | refine blk_drewN ?_ _ | refine blk_drew ?_ | refine blk_alloc ?_ _)); exact BK352.out⟩, ⟨by (with_reducible repeat (first | refine blk_drewN ?_ _ | refine blk_drew ?_ | refine blk_alloc ?_ _)); exact BK356.out⟩, ⟨by repeat (first | (with_reducible first | exact HI353.out | apply IsS91.alloc | apply IsS91.drewN | apply IsS91.drew | apply IsS91.set_0 | refine IsS91.far ?_ NB353_352.out _ | refine IsS91.far ?_ NB353_356.out _) | exact HI353.out)⟩, ⟨by repeat (first | (with_reducible first | exact HB.out | apply below_alloc | apply pw_below_drewN | apply below_drew1 | refine below_set ?_ (IsS91.ge HI353.out) | refine below_set ?_ GE352.out | refine below_set ?_ GE356.out) | exact HB.out)⟩⟩
                case rest =>
                  clear HC29
                  try clear c1
                  try clear c2
                  try clear p2
                  try clear c3
                  try clear c4
                  try clear c4b0
                  try clear c4b1
                  try clear c5
                  try clear c12
                  try clear c13
                  try clear c15
                  try clear c15b0
                  try clear c15b1
                  try clear c16
                  try clear c17
                  try clear c19
                  try clear c20
                  try clear c23
                  try clear c26
                  try clear c27
                  try clear c30
                  try clear c30b0
                  try clear c30b1
                  try clear c31
                  try clear c32
                  try clear c34
                  try clear c35
                  try clear hcz14_0
                  try clear hcz14_1
                  try clear hcz14_2
                  try clear hcz14_3
                  try clear hcz14_4
                  try clear hcz18_0
                  try clear hcz18_1
                  try clear hcz18_2
                  try clear hcz18_3
                  try clear hcz18_4
                  try clear hcz21_0
                  try clear hcz21_1
                  try clear hcz21_2
                  try clear hcz21_3
                  try clear hcz21_4
                  try clear hcz28_0
                  try clear hcz28_1
                  try clear hcz28_2
                  try clear hcz28_3
                  try clear hcz28_4
                  try clear hcz33_0
                  try clear hcz33_1
                  try clear hcz33_2
                  try clear hcz33_3
                  try clear hcz33_4
                  try clear hcz36_0
                  try clear hcz36_1
                  try clear hcz36_2
                  try clear hcz36_3
                  try clear hcz36_4
                  try clear hcz6_0
                  try clear hcz6_1
                  try clear hcz6_2
                  try clear hcz6_3
                  try clear hcz6_4
                  try clear hfz14_0
                  try clear hfz14_1
                  try clear hfz14_2
                  try clear hfz14_3
                  try clear hfz14_4
                  try clear hfz18_0
                  try clear hfz18_1
                  try clear hfz18_2
                  try clear hfz18_3
                  try clear hfz18_4
                  try clear hfz21_0
                  try clear hfz21_1
                  try clear hfz21_2
                  try clear hfz21_3
                  try clear hfz21_4
                  try clear hfz28_0
                  try clear hfz28_1
                  try clear hfz28_2
                  try clear hfz28_3
                  try clear hfz28_4
                  try clear hfz33_0
                  try clear hfz33_1
                  try clear hfz33_2
                  try clear hfz33_3
                  try clear hfz33_4
                  try clear hfz36_0
                  try clear hfz36_1
                  try clear hfz36_2
                  try clear hfz36_3
                  try clear hfz36_4
                  try clear hfz6_0
                  try clear hfz6_1
                  try clear hfz6_2
                  try clear hfz6_3
                  try clear hfz6_4
                  try clear p2
                  obtain ⟨kq, x38_28, rfl, HA, HJ28, BK352, BK356, HI353, HB⟩ := hcut
                  cases kq with
                  | zero => exact absurd HA.out (by simp [impl_DecodeRequest.j3])
                  | succ kj28 =>
                    have H := HA.out
                    clear HA
                    simp only [impl_DecodeRequest.j3] at H
                    have HC37 := Aside0.mk H
                    clear H
                    go_upto_if 38 with (fail)
                    go_cut [] (fun wc => ∃ (kq : Nat) (x354000_36 : ByteArray) (x357002_36 : ByteArray), Aside0 (impl_DecodeRequest.j4 kq a0 x354000_36 t354 x357001_21 x357002_36 0 = some (r1, r2, r3, r4, r5, r6)) ∧ Aside0 (kq ≤ kj28) ∧ Aside0 (wc.heap[gb352]? = some (.cells #[.int .i64 0, .string (⟨#[]⟩ : ByteArray), .string (⟨#[]⟩ : ByteArray), .int .i64 0, (.slice none 0 0)] 29 (0, 0))) ∧ Aside0 (wc.heap[gb356]? = some (.cells #[.int .i64 t354, .string x357001_21, .string x357002_36, .int .i64 0, (.slice none 0 0)] 29 (0, 0))) ∧ Aside0 (IsS91 w wc gb353 x354000_36) ∧ Aside0 (Below w.heap.size w wc))
                    case first =>
                      have H := HC37.out
                      clear HC37
                      by_cases c38 : x38_28 = true
                      · subst c38
                        have H1 : ((impl_source_s16.f x354000_21).bind fun bt359 => (impl_DecodeRequest.j4 kj28 a0 bt359.2 t354 x357001_21 bt359.1 0)) = some (r1, r2, r3, r4, r5, r6) := by rw [if_pos rfl] at H; exact H
                        clear H
                        have H := H1
                        clear H1
                        replace H := Option.bind_eq_some_iff.mp H
                        obtain ⟨⟨t359, t360⟩, A390, H⟩ := H
                        replace H : (impl_DecodeRequest.j4 kj28 a0 t360 t354 x357001_21 t359 0) = some (r1, r2, r3, r4, r5, r6) := H
                        have A39 := Aside0.mk A390
                        clear A390
                        have H' := Aside0.mk H
                        clear H
                        go_wp2_with (first | ((with_reducible refine gate_callee (f := 45) rfl ?_); refine goesL_ (some 40) rfl rfl Try.func45 (by kernel_rfl) rfl #[.pointer (some ⟨gb353, 0, none⟩)] rfl (by (try simp only [List.map_toArray, List.map_cons, List.map_nil]); first | done | rfl | (simp only [List.length_drop, List.length_take]; rfl)) ?_; (with_reducible refine (impl_source_s16.calls gb353 x354000_21 t359 t360 w _ ?side1 ?side2 A39.out).mono ?_); (case side1 => repeat (first | (with_reducible first | exact HI353.out | apply IsS91.alloc | apply IsS91.drewN | apply IsS91.drew | apply IsS91.set_0 | refine IsS91.far ?_ NB353_352.out _ | refine IsS91.far ?_ NB353_356.out _) | exact HI353.out)); (case side2 => repeat (first | (with_reducible first | exact HB.out | apply below_alloc | apply pw_below_drewN | apply below_drew1 | refine below_set ?_ (IsS91.ge HI353.out) | refine below_set ?_ GE352.out | refine below_set ?_ GE356.out) | exact HB.out)); rintro e w40 ⟨rfl, hi, hb, hk⟩; refine ⟨_, rfl, ?_⟩; have n0_ := Aside0.mk (KeepBut.blk hk (g' := gb352) (o := .cells #[.int .i64 0, .string (⟨#[]⟩ : ByteArray), .string (⟨#[]⟩ : ByteArray), .int .i64 0, .slice none 0 0] 29 (0, 0)) (by (with_reducible repeat (first | refine blk_drewN ?_ _ | refine blk_drew ?_ | refine blk_alloc ?_ _)); exact BK352.out) NB352_353.out (by simp)); have n1_ := Aside0.mk (KeepBut.blk hk (g' := gb356) (o := .cells #[.int .i64 t354, .string x357001_21, .string (⟨#[]⟩ : ByteArray), .int .i64 0, .slice none 0 0] 29 (0, 0)) (by (with_reducible repeat (first | refine blk_drewN ?_ _ | refine blk_drew ?_ | refine blk_alloc ?_ _)); exact BK356.out) NB356_353.out (by simp)); have n2_ := Aside0.mk (hb); have n3_ := Aside0.mk (hi); clear BK352; clear BK356; clear HB; clear HI353; have BK352 := n0_; have BK356 := n1_; have HB := n2_; have HI353 := n3_; clear n0_ n1_ n2_ n3_; (try clear hb); (try clear hb2); (try clear hk); (try clear hi); have hnb41 := NB356_352.out; have hnc41 := NB352_356.out; have hnb42 := NB356_353.out; have hnc42 := NB353_356.out; have hcz43_0 : w40.cell? ⟨gb356, 0, none⟩ = some (.int .i64 t354) := (blk_cell BK356.out 0).trans rfl; have hcz43_1 : w40.cell? ⟨gb356, 1, none⟩ = some (.string x357001_21) := (blk_cell BK356.out 1).trans rfl; have hcz43_2 : w40.cell? ⟨gb356, 2, none⟩ = some (.string (⟨#[]⟩ : ByteArray)) := (blk_cell BK356.out 2).trans rfl; have hcz43_3 : w40.cell? ⟨gb356, 3, none⟩ = some (.int .i64 0) := (blk_cell BK356.out 3).trans rfl; have hcz43_4 : w40.cell? ⟨gb356, 4, none⟩ = some (.slice none 0 0) := (blk_cell BK356.out 4).trans rfl; have hfz43_0 := blk_frozen BK356.out 0; have hfz43_1 := blk_frozen BK356.out 1; have hfz43_2 := blk_frozen BK356.out 2; have hfz43_3 := blk_frozen BK356.out 3; have hfz43_4 := blk_frozen BK356.out 4))
                        go_meet
                        case rel => exact ⟨_, (t360), (t359), H', ⟨by have := HJ1.out; have := HJ7.out; have := HJ21.out; have := HJ28.out; first | omega | exact Nat.le_refl _⟩, ⟨by (with_reducible repeat (first | refine blk_drewN ?_ _ | refine blk_drew ?_ | refine blk_alloc ?_ _)); refine blk_far ?_ NB352_356.out _; (with_reducible repeat (first | refine blk_drewN ?_ _ | refine blk_drew ?_ | refine blk_alloc ?_ _)); exact BK352.out⟩, ⟨by (with_reducible repeat (first | refine blk_drewN ?_ _ | refine blk_drew ?_ | refine blk_alloc ?_ _)); refine blk_put (cs := #[.int .i64 t354, .string x357001_21, .string (⟨#[]⟩ : ByteArray), .int .i64 0, .slice none 0 0]) ?_ 2 _ rfl; (with_reducible repeat (first | refine blk_drewN ?_ _ | refine blk_drew ?_ | refine blk_alloc ?_ _)); exact BK356.out⟩, ⟨by repeat (first | (with_reducible first | exact HI353.out | apply IsS91.alloc | apply IsS91.drewN | apply IsS91.drew | apply IsS91.set_0 | refine IsS91.far ?_ NB353_352.out _ | refine IsS91.far ?_ NB353_356.out _) | exact HI353.out)⟩, ⟨by repeat (first | (with_reducible first | exact HB.out | apply below_alloc | apply pw_below_drewN | apply below_drew1 | refine below_set ?_ (IsS91.ge HI353.out) | refine below_set ?_ GE352.out | refine below_set ?_ GE356.out) | exact HB.out)⟩⟩
                      · replace c38 := Bool.eq_false_iff.mpr c38
                        subst c38
                        have H1 : (impl_DecodeRequest.j4 kj28 a0 x354000_21 t354 x357001_21 (⟨#[]⟩ : ByteArray) 0) = some (r1, r2, r3, r4, r5, r6) := by rw [if_neg (show ¬ (false = true) by decide)] at H; exact H
                        clear H
                        have H := H1
                        clear H1
                        have H' := Aside0.mk H
                        clear H
                        go_wp2
                        go_meet
                        case rel => exact ⟨_, (x354000_21), ((⟨#[]⟩ : ByteArray)), H', ⟨by have := HJ1.out; have := HJ7.out; have := HJ21.out; have := HJ28.out; first | omega | exact Nat.le_refl _⟩, ⟨by (with_reducible repeat (first | refine blk_drewN ?_ _ | refine blk_drew ?_ | refine blk_alloc ?_ _)); exact BK352.out⟩, ⟨by (with_reducible repeat (first | refine blk_drewN ?_ _ | refine blk_drew ?_ | refine blk_alloc ?_ _)); exact BK356.out⟩, ⟨by repeat (first | (with_reducible first | exact HI353.out | apply IsS91.alloc | apply IsS91.drewN | apply IsS91.drew | apply IsS91.set_0 | refine IsS91.far ?_ NB353_352.out _ | refine IsS91.far ?_ NB353_356.out _) | exact HI353.out)⟩, ⟨by repeat (first | (with_reducible first | exact HB.out | apply below_alloc | apply pw_below_drewN | apply below_drew1 | refine below_set ?_ (IsS91.ge HI353.out) | refine below_set ?_ GE352.out | refine below_set ?_ GE356.out) | exact HB.out)⟩⟩
                    case rest =>
                      clear HC37
                      try clear c1
                      try clear c2
                      try clear p2
                      try clear c3
                      try clear c4
                      try clear c4b0
                      try clear c4b1
                      try clear c5
                      try clear c12
                      try clear c13
                      try clear c15
                      try clear c15b0
                      try clear c15b1
                      try clear c16
                      try clear c17
                      try clear c19
                      try clear c20
                      try clear c23
                      try clear c26
                      try clear c27
                      try clear c30
                      try clear c30b0
                      try clear c30b1
                      try clear c31
                      try clear c32
                      try clear c34
                      try clear c35
                      try clear c38
                      try clear c41
                      try clear c42
                      try clear c43
                      try clear hcz14_0
                      try clear hcz14_1
                      try clear hcz14_2
                      try clear hcz14_3
                      try clear hcz14_4
                      try clear hcz18_0
                      try clear hcz18_1
                      try clear hcz18_2
                      try clear hcz18_3
                      try clear hcz18_4
                      try clear hcz21_0
                      try clear hcz21_1
                      try clear hcz21_2
                      try clear hcz21_3
                      try clear hcz21_4
                      try clear hcz28_0
                      try clear hcz28_1
                      try clear hcz28_2
                      try clear hcz28_3
                      try clear hcz28_4
                      try clear hcz33_0
                      try clear hcz33_1
                      try clear hcz33_2
                      try clear hcz33_3
                      try clear hcz33_4
                      try clear hcz36_0
                      try clear hcz36_1
                      try clear hcz36_2
                      try clear hcz36_3
                      try clear hcz36_4
                      try clear hcz43_0
                      try clear hcz43_1
                      try clear hcz43_2
                      try clear hcz43_3
                      try clear hcz43_4
                      try clear hcz6_0
                      try clear hcz6_1
                      try clear hcz6_2
                      try clear hcz6_3
                      try clear hcz6_4
                      try clear hfz14_0
                      try clear hfz14_1
                      try clear hfz14_2
                      try clear hfz14_3
                      try clear hfz14_4
                      try clear hfz18_0
                      try clear hfz18_1
                      try clear hfz18_2
                      try clear hfz18_3
                      try clear hfz18_4
                      try clear hfz21_0
                      try clear hfz21_1
                      try clear hfz21_2
                      try clear hfz21_3
                      try clear hfz21_4
                      try clear hfz28_0
                      try clear hfz28_1
                      try clear hfz28_2
                      try clear hfz28_3
                      try clear hfz28_4
                      try clear hfz33_0
                      try clear hfz33_1
                      try clear hfz33_2
                      try clear hfz33_3
                      try clear hfz33_4
                      try clear hfz36_0
                      try clear hfz36_1
                      try clear hfz36_2
                      try clear hfz36_3
                      try clear hfz36_4
                      try clear hfz43_0
                      try clear hfz43_1
                      try clear hfz43_2
                      try clear hfz43_3
                      try clear hfz43_4
                      try clear hfz6_0
                      try clear hfz6_1
                      try clear hfz6_2
                      try clear hfz6_3
                      try clear hfz6_4
                      try clear p2
                      obtain ⟨kq, x354000_36, x357002_36, HA, HJ36, BK352, BK356, HI353, HB⟩ := hcut
                      cases kq with
                      | zero => exact absurd HA.out (by simp [impl_DecodeRequest.j4])
                      | succ kj36 =>
                        have H := HA.out
                        clear HA
                        simp only [impl_DecodeRequest.j4] at H
                        have HC44 := Aside0.mk H
                        clear H
                        go_upto_region 9 with (fail)
                        go_cut [49] (fun v49 wc => ∃ (kq : Nat) (x49_43 : Bool), v49 = .bool x49_43 ∧ Aside0 (impl_DecodeRequest.j5 kq a0 x49_43 x354000_36 t354 x357001_21 x357002_36 0 = some (r1, r2, r3, r4, r5, r6)) ∧ Aside0 (kq ≤ kj36) ∧ Aside0 (wc.heap[gb352]? = some (.cells #[.int .i64 0, .string (⟨#[]⟩ : ByteArray), .string (⟨#[]⟩ : ByteArray), .int .i64 0, (.slice none 0 0)] 29 (0, 0))) ∧ Aside0 (wc.heap[gb356]? = some (.cells #[.int .i64 t354, .string x357001_21, .string x357002_36, .int .i64 0, (.slice none 0 0)] 29 (0, 0))) ∧ Aside0 (IsS91 w wc gb353 x354000_36) ∧ Aside0 (Below w.heap.size w wc))
                        case first =>
                          have H := HC44.out
                          clear HC44
                          by_cases c45 : t354 = 2
                          · rw [if_pos c45] at H
                            have c45b0 : (t354 == 2) = true := beq_iff_eq.mpr c45
                            have c45b1 : (t354 != 2) = false := bne_eq_false_iff_eq.mpr c45
                            clear c45
                            (first | rw [c45b0] | (simp only [i64_w, i32_w]; rw [c45b0]) | skip)
                            have H' := Aside0.mk H
                            clear H
                            have hnb46 := NB356_352.out
                            have hnc46 := NB352_356.out
                            have hnb47 := NB356_353.out
                            have hnc47 := NB353_356.out
                            have hcz48_0 : wc.cell? ⟨gb356, 0, none⟩ = some (.int .i64 t354) := (blk_cell BK356.out 0).trans rfl
                            have hcz48_1 : wc.cell? ⟨gb356, 1, none⟩ = some (.string x357001_21) := (blk_cell BK356.out 1).trans rfl
                            have hcz48_2 : wc.cell? ⟨gb356, 2, none⟩ = some (.string x357002_36) := (blk_cell BK356.out 2).trans rfl
                            have hcz48_3 : wc.cell? ⟨gb356, 3, none⟩ = some (.int .i64 0) := (blk_cell BK356.out 3).trans rfl
                            have hcz48_4 : wc.cell? ⟨gb356, 4, none⟩ = some (.slice none 0 0) := (blk_cell BK356.out 4).trans rfl
                            have hfz48_0 := blk_frozen BK356.out 0
                            have hfz48_1 := blk_frozen BK356.out 1
                            have hfz48_2 := blk_frozen BK356.out 2
                            have hfz48_3 := blk_frozen BK356.out 3
                            have hfz48_4 := blk_frozen BK356.out 4
                            go_wp2
                            go_meet
                            case rel => exact ⟨_, (true), (by first | rfl | (simp; done) | (simp [*]; done)), H', ⟨by have := HJ1.out; have := HJ7.out; have := HJ21.out; have := HJ28.out; have := HJ36.out; first | omega | exact Nat.le_refl _⟩, ⟨by (with_reducible repeat (first | refine blk_drewN ?_ _ | refine blk_drew ?_ | refine blk_alloc ?_ _)); exact BK352.out⟩, ⟨by (with_reducible repeat (first | refine blk_drewN ?_ _ | refine blk_drew ?_ | refine blk_alloc ?_ _)); exact BK356.out⟩, ⟨by repeat (first | (with_reducible first | exact HI353.out | apply IsS91.alloc | apply IsS91.drewN | apply IsS91.drew | apply IsS91.set_0 | refine IsS91.far ?_ NB353_352.out _ | refine IsS91.far ?_ NB353_356.out _) | exact HI353.out)⟩, ⟨by repeat (first | (with_reducible first | exact HB.out | apply below_alloc | apply pw_below_drewN | apply below_drew1 | refine below_set ?_ (IsS91.ge HI353.out) | refine below_set ?_ GE352.out | refine below_set ?_ GE356.out) | exact HB.out)⟩⟩
                          · rw [if_neg c45] at H
                            have c45b0 : (t354 == 2) = false := beq_eq_false_iff_ne.mpr c45
                            have c45b1 : (t354 != 2) = true := bne_iff_ne.mpr c45
                            (first | rw [c45b0] | (simp only [i64_w, i32_w]; rw [c45b0]) | skip)
                            have H' := Aside0.mk H
                            clear H
                            have hnb49 := NB356_352.out
                            have hnc49 := NB352_356.out
                            have hnb50 := NB356_353.out
                            have hnc50 := NB353_356.out
                            have hcz51_0 : wc.cell? ⟨gb356, 0, none⟩ = some (.int .i64 t354) := (blk_cell BK356.out 0).trans rfl
                            have hcz51_1 : wc.cell? ⟨gb356, 1, none⟩ = some (.string x357001_21) := (blk_cell BK356.out 1).trans rfl
                            have hcz51_2 : wc.cell? ⟨gb356, 2, none⟩ = some (.string x357002_36) := (blk_cell BK356.out 2).trans rfl
                            have hcz51_3 : wc.cell? ⟨gb356, 3, none⟩ = some (.int .i64 0) := (blk_cell BK356.out 3).trans rfl
                            have hcz51_4 : wc.cell? ⟨gb356, 4, none⟩ = some (.slice none 0 0) := (blk_cell BK356.out 4).trans rfl
                            have hfz51_0 := blk_frozen BK356.out 0
                            have hfz51_1 := blk_frozen BK356.out 1
                            have hfz51_2 := blk_frozen BK356.out 2
                            have hfz51_3 := blk_frozen BK356.out 3
                            have hfz51_4 := blk_frozen BK356.out 4
                            go_wp2
                            go_meet
                            case rel => exact ⟨_, ((t354 == 3)), (by first | rfl | (simp; done) | (simp [*]; done)), H', ⟨by have := HJ1.out; have := HJ7.out; have := HJ21.out; have := HJ28.out; have := HJ36.out; first | omega | exact Nat.le_refl _⟩, ⟨by (with_reducible repeat (first | refine blk_drewN ?_ _ | refine blk_drew ?_ | refine blk_alloc ?_ _)); exact BK352.out⟩, ⟨by (with_reducible repeat (first | refine blk_drewN ?_ _ | refine blk_drew ?_ | refine blk_alloc ?_ _)); exact BK356.out⟩, ⟨by repeat (first | (with_reducible first | exact HI353.out | apply IsS91.alloc | apply IsS91.drewN | apply IsS91.drew | apply IsS91.set_0 | refine IsS91.far ?_ NB353_352.out _ | refine IsS91.far ?_ NB353_356.out _) | exact HI353.out)⟩, ⟨by repeat (first | (with_reducible first | exact HB.out | apply below_alloc | apply pw_below_drewN | apply below_drew1 | refine below_set ?_ (IsS91.ge HI353.out) | refine below_set ?_ GE352.out | refine below_set ?_ GE356.out) | exact HB.out)⟩⟩
                        case rest =>
                          clear HC44
                          try clear c1
                          try clear c2
                          try clear p2
                          try clear c3
                          try clear c4
                          try clear c4b0
                          try clear c4b1
                          try clear c5
                          try clear c12
                          try clear c13
                          try clear c15
                          try clear c15b0
                          try clear c15b1
                          try clear c16
                          try clear c17
                          try clear c19
                          try clear c20
                          try clear c23
                          try clear c26
                          try clear c27
                          try clear c30
                          try clear c30b0
                          try clear c30b1
                          try clear c31
                          try clear c32
                          try clear c34
                          try clear c35
                          try clear c38
                          try clear c41
                          try clear c42
                          try clear c43
                          try clear c44
                          try clear c45
                          try clear c45b0
                          try clear c45b1
                          try clear c46
                          try clear c47
                          try clear c49
                          try clear c50
                          try clear hcz14_0
                          try clear hcz14_1
                          try clear hcz14_2
                          try clear hcz14_3
                          try clear hcz14_4
                          try clear hcz18_0
                          try clear hcz18_1
                          try clear hcz18_2
                          try clear hcz18_3
                          try clear hcz18_4
                          try clear hcz21_0
                          try clear hcz21_1
                          try clear hcz21_2
                          try clear hcz21_3
                          try clear hcz21_4
                          try clear hcz28_0
                          try clear hcz28_1
                          try clear hcz28_2
                          try clear hcz28_3
                          try clear hcz28_4
                          try clear hcz33_0
                          try clear hcz33_1
                          try clear hcz33_2
                          try clear hcz33_3
                          try clear hcz33_4
                          try clear hcz36_0
                          try clear hcz36_1
                          try clear hcz36_2
                          try clear hcz36_3
                          try clear hcz36_4
                          try clear hcz43_0
                          try clear hcz43_1
                          try clear hcz43_2
                          try clear hcz43_3
                          try clear hcz43_4
                          try clear hcz48_0
                          try clear hcz48_1
                          try clear hcz48_2
                          try clear hcz48_3
                          try clear hcz48_4
                          try clear hcz51_0
                          try clear hcz51_1
                          try clear hcz51_2
                          try clear hcz51_3
                          try clear hcz51_4
                          try clear hcz6_0
                          try clear hcz6_1
                          try clear hcz6_2
                          try clear hcz6_3
                          try clear hcz6_4
                          try clear hfz14_0
                          try clear hfz14_1
                          try clear hfz14_2
                          try clear hfz14_3
                          try clear hfz14_4
                          try clear hfz18_0
                          try clear hfz18_1
                          try clear hfz18_2
                          try clear hfz18_3
                          try clear hfz18_4
                          try clear hfz21_0
                          try clear hfz21_1
                          try clear hfz21_2
                          try clear hfz21_3
                          try clear hfz21_4
                          try clear hfz28_0
                          try clear hfz28_1
                          try clear hfz28_2
                          try clear hfz28_3
                          try clear hfz28_4
                          try clear hfz33_0
                          try clear hfz33_1
                          try clear hfz33_2
                          try clear hfz33_3
                          try clear hfz33_4
                          try clear hfz36_0
                          try clear hfz36_1
                          try clear hfz36_2
                          try clear hfz36_3
                          try clear hfz36_4
                          try clear hfz43_0
                          try clear hfz43_1
                          try clear hfz43_2
                          try clear hfz43_3
                          try clear hfz43_4
                          try clear hfz48_0
                          try clear hfz48_1
                          try clear hfz48_2
                          try clear hfz48_3
                          try clear hfz48_4
                          try clear hfz51_0
                          try clear hfz51_1
                          try clear hfz51_2
                          try clear hfz51_3
                          try clear hfz51_4
                          try clear hfz6_0
                          try clear hfz6_1
                          try clear hfz6_2
                          try clear hfz6_3
                          try clear hfz6_4
                          try clear p2
                          obtain ⟨kq, x49_43, rfl, HA, HJ43, BK352, BK356, HI353, HB⟩ := hcut
                          cases kq with
                          | zero => exact absurd HA.out (by simp [impl_DecodeRequest.j5])
                          | succ kj43 =>
                            have H := HA.out
                            clear HA
                            simp only [impl_DecodeRequest.j5] at H
                            have HC52 := Aside0.mk H
                            clear H
                            go_upto_if 49 with (fail)
                            go_cut [] (fun wc => ∃ (kq : Nat) (x354000_51 : ByteArray) (x357003_51 : Int), Aside0 (impl_DecodeRequest.j6 kq a0 x354000_51 t354 x357001_21 x357002_36 x357003_51 = some (r1, r2, r3, r4, r5, r6)) ∧ Aside0 (kq ≤ kj43) ∧ Aside0 (wc.heap[gb352]? = some (.cells #[.int .i64 0, .string (⟨#[]⟩ : ByteArray), .string (⟨#[]⟩ : ByteArray), .int .i64 0, (.slice none 0 0)] 29 (0, 0))) ∧ Aside0 (wc.heap[gb356]? = some (.cells #[.int .i64 t354, .string x357001_21, .string x357002_36, .int .i64 x357003_51, (.slice none 0 0)] 29 (0, 0))) ∧ Aside0 (IsS91 w wc gb353 x354000_51) ∧ Aside0 (Below w.heap.size w wc))
                            case first =>
                              have H := HC52.out
                              clear HC52
                              by_cases c53 : x49_43 = true
                              · subst c53
                                have H1 : ((impl_source_num.f x354000_36 8).bind fun bt361 => (impl_DecodeRequest.j6 kj43 a0 bt361.2 t354 x357001_21 x357002_36 bt361.1)) = some (r1, r2, r3, r4, r5, r6) := by rw [if_pos rfl] at H; exact H
                                clear H
                                have H := H1
                                clear H1
                                replace H := Option.bind_eq_some_iff.mp H
                                obtain ⟨⟨t361, t362⟩, A540, H⟩ := H
                                replace H : (impl_DecodeRequest.j6 kj43 a0 t362 t354 x357001_21 x357002_36 t361) = some (r1, r2, r3, r4, r5, r6) := H
                                have A54 := Aside0.mk A540
                                clear A540
                                have H' := Aside0.mk H
                                clear H
                                go_wp2_with (first | ((with_reducible refine gate_callee (f := 43) rfl ?_); refine goesL_ (some 51) rfl rfl Try.func43 (by kernel_rfl) rfl #[.pointer (some ⟨gb353, 0, none⟩), .int .i64 8] rfl (by (try simp only [List.map_toArray, List.map_cons, List.map_nil]); first | done | rfl | (simp only [List.length_drop, List.length_take]; rfl)) ?_; (with_reducible refine (impl_source_num.calls gb353 x354000_36 8 t361 t362 w _ ?side1 ?side2 A54.out).mono ?_); (case side1 => repeat (first | (with_reducible first | exact HI353.out | apply IsS91.alloc | apply IsS91.drewN | apply IsS91.drew | apply IsS91.set_0 | refine IsS91.far ?_ NB353_352.out _ | refine IsS91.far ?_ NB353_356.out _) | exact HI353.out)); (case side2 => repeat (first | (with_reducible first | exact HB.out | apply below_alloc | apply pw_below_drewN | apply below_drew1 | refine below_set ?_ (IsS91.ge HI353.out) | refine below_set ?_ GE352.out | refine below_set ?_ GE356.out) | exact HB.out)); rintro e w55 ⟨rfl, hi, hb, hk⟩; refine ⟨_, rfl, ?_⟩; have n0_ := Aside0.mk (KeepBut.blk hk (g' := gb352) (o := .cells #[.int .i64 0, .string (⟨#[]⟩ : ByteArray), .string (⟨#[]⟩ : ByteArray), .int .i64 0, .slice none 0 0] 29 (0, 0)) (by (with_reducible repeat (first | refine blk_drewN ?_ _ | refine blk_drew ?_ | refine blk_alloc ?_ _)); exact BK352.out) NB352_353.out (by simp)); have n1_ := Aside0.mk (KeepBut.blk hk (g' := gb356) (o := .cells #[.int .i64 t354, .string x357001_21, .string x357002_36, .int .i64 0, .slice none 0 0] 29 (0, 0)) (by (with_reducible repeat (first | refine blk_drewN ?_ _ | refine blk_drew ?_ | refine blk_alloc ?_ _)); exact BK356.out) NB356_353.out (by simp)); have n2_ := Aside0.mk (hb); have n3_ := Aside0.mk (hi); clear BK352; clear BK356; clear HB; clear HI353; have BK352 := n0_; have BK356 := n1_; have HB := n2_; have HI353 := n3_; clear n0_ n1_ n2_ n3_; (try clear hb); (try clear hb2); (try clear hk); (try clear hi); have hnb56 := NB356_352.out; have hnc56 := NB352_356.out; have hnb57 := NB356_353.out; have hnc57 := NB353_356.out; have hcz58_0 : w55.cell? ⟨gb356, 0, none⟩ = some (.int .i64 t354) := (blk_cell BK356.out 0).trans rfl; have hcz58_1 : w55.cell? ⟨gb356, 1, none⟩ = some (.string x357001_21) := (blk_cell BK356.out 1).trans rfl; have hcz58_2 : w55.cell? ⟨gb356, 2, none⟩ = some (.string x357002_36) := (blk_cell BK356.out 2).trans rfl; have hcz58_3 : w55.cell? ⟨gb356, 3, none⟩ = some (.int .i64 0) := (blk_cell BK356.out 3).trans rfl; have hcz58_4 : w55.cell? ⟨gb356, 4, none⟩ = some (.slice none 0 0) := (blk_cell BK356.out 4).trans rfl; have hfz58_0 := blk_frozen BK356.out 0; have hfz58_1 := blk_frozen BK356.out 1; have hfz58_2 := blk_frozen BK356.out 2; have hfz58_3 := blk_frozen BK356.out 3; have hfz58_4 := blk_frozen BK356.out 4))
                                go_meet
                                case rel => exact ⟨_, (t362), (t361), H', ⟨by have := HJ1.out; have := HJ7.out; have := HJ21.out; have := HJ28.out; have := HJ36.out; have := HJ43.out; first | omega | exact Nat.le_refl _⟩, ⟨by (with_reducible repeat (first | refine blk_drewN ?_ _ | refine blk_drew ?_ | refine blk_alloc ?_ _)); refine blk_far ?_ NB352_356.out _; (with_reducible repeat (first | refine blk_drewN ?_ _ | refine blk_drew ?_ | refine blk_alloc ?_ _)); exact BK352.out⟩, ⟨by (with_reducible repeat (first | refine blk_drewN ?_ _ | refine blk_drew ?_ | refine blk_alloc ?_ _)); refine blk_put (cs := #[.int .i64 t354, .string x357001_21, .string x357002_36, .int .i64 0, .slice none 0 0]) ?_ 3 _ rfl; (with_reducible repeat (first | refine blk_drewN ?_ _ | refine blk_drew ?_ | refine blk_alloc ?_ _)); exact BK356.out⟩, ⟨by repeat (first | (with_reducible first | exact HI353.out | apply IsS91.alloc | apply IsS91.drewN | apply IsS91.drew | apply IsS91.set_0 | refine IsS91.far ?_ NB353_352.out _ | refine IsS91.far ?_ NB353_356.out _) | exact HI353.out)⟩, ⟨by repeat (first | (with_reducible first | exact HB.out | apply below_alloc | apply pw_below_drewN | apply below_drew1 | refine below_set ?_ (IsS91.ge HI353.out) | refine below_set ?_ GE352.out | refine below_set ?_ GE356.out) | exact HB.out)⟩⟩
                              · replace c53 := Bool.eq_false_iff.mpr c53
                                subst c53
                                have H1 : (impl_DecodeRequest.j6 kj43 a0 x354000_36 t354 x357001_21 x357002_36 0) = some (r1, r2, r3, r4, r5, r6) := by rw [if_neg (show ¬ (false = true) by decide)] at H; exact H
                                clear H
                                have H := H1
                                clear H1
                                have H' := Aside0.mk H
                                clear H
                                go_wp2
                                go_meet
                                case rel => exact ⟨_, (x354000_36), (0), H', ⟨by have := HJ1.out; have := HJ7.out; have := HJ21.out; have := HJ28.out; have := HJ36.out; have := HJ43.out; first | omega | exact Nat.le_refl _⟩, ⟨by (with_reducible repeat (first | refine blk_drewN ?_ _ | refine blk_drew ?_ | refine blk_alloc ?_ _)); exact BK352.out⟩, ⟨by (with_reducible repeat (first | refine blk_drewN ?_ _ | refine blk_drew ?_ | refine blk_alloc ?_ _)); exact BK356.out⟩, ⟨by repeat (first | (with_reducible first | exact HI353.out | apply IsS91.alloc | apply IsS91.drewN | apply IsS91.drew | apply IsS91.set_0 | refine IsS91.far ?_ NB353_352.out _ | refine IsS91.far ?_ NB353_356.out _) | exact HI353.out)⟩, ⟨by repeat (first | (with_reducible first | exact HB.out | apply below_alloc | apply pw_below_drewN | apply below_drew1 | refine below_set ?_ (IsS91.ge HI353.out) | refine below_set ?_ GE352.out | refine below_set ?_ GE356.out) | exact HB.out)⟩⟩
                            case rest =>
                              clear HC52
                              try clear c1
                              try clear c2
                              try clear p2
                              try clear c3
                              try clear c4
                              try clear c4b0
                              try clear c4b1
                              try clear c5
                              try clear c12
                              try clear c13
                              try clear c15
                              try clear c15b0
                              try clear c15b1
                              try clear c16
                              try clear c17
                              try clear c19
                              try clear c20
                              try clear c23
                              try clear c26
                              try clear c27
                              try clear c30
                              try clear c30b0
                              try clear c30b1
                              try clear c31
                              try clear c32
                              try clear c34
                              try clear c35
                              try clear c38
                              try clear c41
                              try clear c42
                              try clear c43
                              try clear c44
                              try clear c45
                              try clear c45b0
                              try clear c45b1
                              try clear c46
                              try clear c47
                              try clear c49
                              try clear c50
                              try clear c53
                              try clear c56
                              try clear c57
                              try clear hcz14_0
                              try clear hcz14_1
                              try clear hcz14_2
                              try clear hcz14_3
                              try clear hcz14_4
                              try clear hcz18_0
                              try clear hcz18_1
                              try clear hcz18_2
                              try clear hcz18_3
                              try clear hcz18_4
                              try clear hcz21_0
                              try clear hcz21_1
                              try clear hcz21_2
                              try clear hcz21_3
                              try clear hcz21_4
                              try clear hcz28_0
                              try clear hcz28_1
                              try clear hcz28_2
                              try clear hcz28_3
                              try clear hcz28_4
                              try clear hcz33_0
                              try clear hcz33_1
                              try clear hcz33_2
                              try clear hcz33_3
                              try clear hcz33_4
                              try clear hcz36_0
                              try clear hcz36_1
                              try clear hcz36_2
                              try clear hcz36_3
                              try clear hcz36_4
                              try clear hcz43_0
                              try clear hcz43_1
                              try clear hcz43_2
                              try clear hcz43_3
                              try clear hcz43_4
                              try clear hcz48_0
                              try clear hcz48_1
                              try clear hcz48_2
                              try clear hcz48_3
                              try clear hcz48_4
                              try clear hcz51_0
                              try clear hcz51_1
                              try clear hcz51_2
                              try clear hcz51_3
                              try clear hcz51_4
                              try clear hcz58_0
                              try clear hcz58_1
                              try clear hcz58_2
                              try clear hcz58_3
                              try clear hcz58_4
                              try clear hcz6_0
                              try clear hcz6_1
                              try clear hcz6_2
                              try clear hcz6_3
                              try clear hcz6_4
                              try clear hfz14_0
                              try clear hfz14_1
                              try clear hfz14_2
                              try clear hfz14_3
                              try clear hfz14_4
                              try clear hfz18_0
                              try clear hfz18_1
                              try clear hfz18_2
                              try clear hfz18_3
                              try clear hfz18_4
                              try clear hfz21_0
                              try clear hfz21_1
                              try clear hfz21_2
                              try clear hfz21_3
                              try clear hfz21_4
                              try clear hfz28_0
                              try clear hfz28_1
                              try clear hfz28_2
                              try clear hfz28_3
                              try clear hfz28_4
                              try clear hfz33_0
                              try clear hfz33_1
                              try clear hfz33_2
                              try clear hfz33_3
                              try clear hfz33_4
                              try clear hfz36_0
                              try clear hfz36_1
                              try clear hfz36_2
                              try clear hfz36_3
                              try clear hfz36_4
                              try clear hfz43_0
                              try clear hfz43_1
                              try clear hfz43_2
                              try clear hfz43_3
                              try clear hfz43_4
                              try clear hfz48_0
                              try clear hfz48_1
                              try clear hfz48_2
                              try clear hfz48_3
                              try clear hfz48_4
                              try clear hfz51_0
                              try clear hfz51_1
                              try clear hfz51_2
                              try clear hfz51_3
                              try clear hfz51_4
                              try clear hfz58_0
                              try clear hfz58_1
                              try clear hfz58_2
                              try clear hfz58_3
                              try clear hfz58_4
                              try clear hfz6_0
                              try clear hfz6_1
                              try clear hfz6_2
                              try clear hfz6_3
                              try clear hfz6_4
                              try clear p2
                              obtain ⟨kq, x354000_51, x357003_51, HA, HJ51, BK352, BK356, HI353, HB⟩ := hcut
                              cases kq with
                              | zero => exact absurd HA.out (by simp [impl_DecodeRequest.j6])
                              | succ kj51 =>
                                have H := HA.out
                                clear HA
                                simp only [impl_DecodeRequest.j6] at H
                                by_cases c59 : t354 = 1
                                · rw [if_pos c59] at H
                                  have c59b0 : (t354 == 1) = true := beq_iff_eq.mpr c59
                                  have c59b1 : (t354 != 1) = false := bne_eq_false_iff_eq.mpr c59
                                  clear c59
                                  replace H := Option.bind_eq_some_iff.mp H
                                  obtain ⟨⟨t363, t366⟩, A600, H⟩ := H
                                  replace H : ((impl_EncodeRequest.f t354 x357001_21 x357002_36 x357003_51 t363).bind fun t367 => (if t367.toList = a0.toList then (some (t354, x357001_21, x357002_36, x357003_51, t363, true)) else (some (0, (⟨#[]⟩ : ByteArray), (⟨#[]⟩ : ByteArray), 0, ([] : List (S65)), false)))) = some (r1, r2, r3, r4, r5, r6) := H
                                  have A60 := Aside0.mk A600
                                  clear A600
                                  replace H := Option.bind_eq_some_iff.mp H
                                  obtain ⟨t367, A610, H⟩ := H
                                  replace H : (if t367.toList = a0.toList then (some (t354, x357001_21, x357002_36, x357003_51, t363, true)) else (some (0, (⟨#[]⟩ : ByteArray), (⟨#[]⟩ : ByteArray), 0, ([] : List (S65)), false))) = some (r1, r2, r3, r4, r5, r6) := H
                                  have A61 := Aside0.mk A610
                                  clear A610
                                  by_cases c62 : t367.toList = a0.toList
                                  · rw [if_pos c62] at H
                                    have c62b0 : (t367.toList == a0.toList) = true := beq_iff_eq.mpr c62
                                    have c62b1 : (t367.toList != a0.toList) = false := bne_eq_false_iff_eq.mpr c62
                                    clear c62
                                    simp only [Option.some.injEq, Prod.mk.injEq] at H
                                    obtain ⟨rfl, rfl, rfl, rfl, rfl, rfl⟩ := H
                                    have hnb63 := NB356_352.out
                                    have hnc63 := NB352_356.out
                                    have hnb64 := NB356_353.out
                                    have hnc64 := NB353_356.out
                                    have hcz65_0 : wc.cell? ⟨gb356, 0, none⟩ = some (.int .i64 t354) := (blk_cell BK356.out 0).trans rfl
                                    have hcz65_1 : wc.cell? ⟨gb356, 1, none⟩ = some (.string x357001_21) := (blk_cell BK356.out 1).trans rfl
                                    have hcz65_2 : wc.cell? ⟨gb356, 2, none⟩ = some (.string x357002_36) := (blk_cell BK356.out 2).trans rfl
                                    have hcz65_3 : wc.cell? ⟨gb356, 3, none⟩ = some (.int .i64 x357003_51) := (blk_cell BK356.out 3).trans rfl
                                    have hcz65_4 : wc.cell? ⟨gb356, 4, none⟩ = some (.slice none 0 0) := (blk_cell BK356.out 4).trans rfl
                                    have hfz65_0 := blk_frozen BK356.out 0
                                    have hfz65_1 := blk_frozen BK356.out 1
                                    have hfz65_2 := blk_frozen BK356.out 2
                                    have hfz65_3 := blk_frozen BK356.out 3
                                    have hfz65_4 := blk_frozen BK356.out 4
                                    go_wp2_with (first | ((with_reducible refine gate_callee (f := 46) rfl ?_); refine goesL_ (some 57) rfl rfl Try.func46 (by kernel_rfl) rfl #[.pointer (some ⟨gb353, 0, none⟩)] rfl (by (try simp only [List.map_toArray, List.map_cons, List.map_nil]); first | done | rfl | (simp only [List.length_drop, List.length_take]; rfl)) ?_; (with_reducible refine (impl_source_samples.calls kj51 gb353 x354000_51 t363 t366 w _ ?side1 ?side2 A60.out).mono ?_); (case side1 => repeat (first | (with_reducible first | exact HI353.out | apply IsS91.alloc | apply IsS91.drewN | apply IsS91.drew | apply IsS91.set_0 | refine IsS91.far ?_ NB353_352.out _ | refine IsS91.far ?_ NB353_356.out _) | exact HI353.out)); (case side2 => repeat (first | (with_reducible first | exact HB.out | apply below_alloc | apply pw_below_drewN | apply below_drew1 | refine below_set ?_ (IsS91.ge HI353.out) | refine below_set ?_ GE352.out | refine below_set ?_ GE356.out) | exact HB.out)); rintro e w66 ⟨v364, rfl, ho0, hi, hb, hk⟩; refine ⟨_, rfl, ?_⟩; have n0_ := Aside0.mk (KeepBut.blk hk (g' := gb352) (o := .cells #[.int .i64 0, .string (⟨#[]⟩ : ByteArray), .string (⟨#[]⟩ : ByteArray), .int .i64 0, .slice none 0 0] 29 (0, 0)) (by (with_reducible repeat (first | refine blk_drewN ?_ _ | refine blk_drew ?_ | refine blk_alloc ?_ _)); exact BK352.out) NB352_353.out (by simp)); have n1_ := Aside0.mk (KeepBut.blk hk (g' := gb356) (o := .cells #[.int .i64 t354, .string x357001_21, .string x357002_36, .int .i64 x357003_51, .slice none 0 0] 29 (0, 0)) (by (with_reducible repeat (first | refine blk_drewN ?_ _ | refine blk_drew ?_ | refine blk_alloc ?_ _)); exact BK356.out) NB356_353.out (by simp)); have n2_ := Aside0.mk (Kd.S_lower ho0 (below_size (by repeat (first | (with_reducible first | exact HB.out | apply below_alloc | apply pw_below_drewN | apply below_drew1 | refine below_set ?_ (IsS91.ge HI353.out) | refine below_set ?_ GE352.out | refine below_set ?_ GE356.out) | exact HB.out)))); have n3_ := Aside0.mk (hb); have n4_ := Aside0.mk (hi); clear BK352; clear BK356; clear HB; clear HI353; have BK352 := n0_; have BK356 := n1_; have HO365 := n2_; have HB := n3_; have HI353 := n4_; clear n0_ n1_ n2_ n3_ n4_; (try clear hb); (try clear hb2); (try clear hk); (try clear hi); (try clear ho0); obtain ⟨Ao67, co67, eo67⟩ := Kd.S_slice HO365.out; subst eo67; have hcz68_0 : w66.cell? ⟨gb356, 0, none⟩ = some (.int .i64 t354) := (blk_cell BK356.out 0).trans rfl; have hcz68_1 : w66.cell? ⟨gb356, 1, none⟩ = some (.string x357001_21) := (blk_cell BK356.out 1).trans rfl; have hcz68_2 : w66.cell? ⟨gb356, 2, none⟩ = some (.string x357002_36) := (blk_cell BK356.out 2).trans rfl; have hcz68_3 : w66.cell? ⟨gb356, 3, none⟩ = some (.int .i64 x357003_51) := (blk_cell BK356.out 3).trans rfl; have hcz68_4 : w66.cell? ⟨gb356, 4, none⟩ = some (.slice none 0 0) := (blk_cell BK356.out 4).trans rfl; have hfz68_0 := blk_frozen BK356.out 0; have hfz68_1 := blk_frozen BK356.out 1; have hfz68_2 := blk_frozen BK356.out 2; have hfz68_3 := blk_frozen BK356.out 3; have hfz68_4 := blk_frozen BK356.out 4) | ((with_reducible refine gate_callee (f := 9) rfl ?_); refine goesL_ (some 60) rfl rfl Try.func9 (by kernel_rfl) rfl #[.agg #[.int .i64 t354, .string x357001_21, .string x357002_36, .int .i64 x357003_51, .slice Ao67 t363.length co67]] rfl (by (try simp only [List.map_toArray, List.map_cons, List.map_nil]); first | done | rfl | (simp only [List.length_drop, List.length_take]; rfl)) ?_; (with_reducible refine (impl_EncodeRequest.calls t354 x357001_21 x357002_36 x357003_51 _ _ t363 t367 _ ?side1 ?side2 A61.out).mono ?_); (case side1 => refine (Kd.S_reads' (e := 65) (base := w.heap.size) (ok := fun k_ => True) (n := t363.length) (c := co67) ?_).2.2; exact (by (with_reducible repeat (first | apply Kd.S_alloc | apply Kd.S_drewN | apply Kd.S_drew)); exact (Kd.S_mono (Kd.S_far (p := ⟨gb356, 4, none⟩) (Kd.S_types HO365.out BK356.out (by decide)) (fun _ hk => hk.2) (.slice Ao67 t363.length co67)) (fun _ h_ => h_.1)))); (case side2 => exact (Kd.S_reads' HO365.out).2.1); rintro e w69 ⟨rfl, hb⟩; refine ⟨_, rfl, ?_⟩; have n0_ := Aside0.mk (Kd.S_below (by (with_reducible repeat (first | apply Kd.S_alloc | apply Kd.S_drewN | apply Kd.S_drew)); exact (Kd.S_mono (Kd.S_far (p := ⟨gb356, 4, none⟩) (Kd.S_types HO365.out BK356.out (by decide)) (fun _ hk => hk.2) (.slice Ao67 t363.length co67)) (fun _ h_ => h_.1))) hb); have n1_ := Aside0.mk (blk_below (g := gb352) (o := .cells #[.int .i64 0, .string (⟨#[]⟩ : ByteArray), .string (⟨#[]⟩ : ByteArray), .int .i64 0, .slice none 0 0] 29 (0, 0)) (by (with_reducible repeat (first | refine blk_drewN ?_ _ | refine blk_drew ?_ | refine blk_alloc ?_ _)); refine blk_far ?_ NB352_356.out _; (with_reducible repeat (first | refine blk_drewN ?_ _ | refine blk_drew ?_ | refine blk_alloc ?_ _)); exact BK352.out) hb); have n2_ := Aside0.mk (blk_below (g := gb356) (o := .cells #[.int .i64 t354, .string x357001_21, .string x357002_36, .int .i64 x357003_51, .slice Ao67 t363.length co67] 29 (0, 0)) (by (with_reducible repeat (first | refine blk_drewN ?_ _ | refine blk_drew ?_ | refine blk_alloc ?_ _)); refine blk_put (cs := #[.int .i64 t354, .string x357001_21, .string x357002_36, .int .i64 x357003_51, .slice none 0 0]) ?_ 4 _ rfl; (with_reducible repeat (first | refine blk_drewN ?_ _ | refine blk_drew ?_ | refine blk_alloc ?_ _)); exact BK356.out) hb); have n3_ := Aside0.mk (IsS91.below (show IsS91 w (w66.setCell ⟨gb356, 4, none⟩ (.slice Ao67 t363.length co67)) gb353 t366 from by repeat (first | (with_reducible first | exact HI353.out | apply IsS91.alloc | apply IsS91.drewN | apply IsS91.drew | apply IsS91.set_0 | refine IsS91.far ?_ NB353_352.out _ | refine IsS91.far ?_ NB353_356.out _) | exact HI353.out)) hb); have n4_ := Aside0.mk (below_step (by repeat (first | (with_reducible first | exact HB.out | apply below_alloc | apply pw_below_drewN | apply below_drew1 | refine below_set ?_ (IsS91.ge HI353.out) | refine below_set ?_ GE352.out | refine below_set ?_ GE356.out) | exact HB.out)) hb); clear HO365; clear BK352; clear BK356; clear HI353; clear HB; have HO365 := n0_; have BK352 := n1_; have BK356 := n2_; have HI353 := n3_; have HB := n4_; clear n0_ n1_ n2_ n3_ n4_; (try clear hb); (try clear hb2); (try clear hk); (try clear hi); have hcz70_0 : w69.cell? ⟨gb356, 0, none⟩ = some (.int .i64 t354) := (blk_cell BK356.out 0).trans rfl; have hcz70_1 : w69.cell? ⟨gb356, 1, none⟩ = some (.string x357001_21) := (blk_cell BK356.out 1).trans rfl; have hcz70_2 : w69.cell? ⟨gb356, 2, none⟩ = some (.string x357002_36) := (blk_cell BK356.out 2).trans rfl; have hcz70_3 : w69.cell? ⟨gb356, 3, none⟩ = some (.int .i64 x357003_51) := (blk_cell BK356.out 3).trans rfl; have hcz70_4 : w69.cell? ⟨gb356, 4, none⟩ = some (.slice Ao67 t363.length co67) := (blk_cell BK356.out 4).trans rfl; have hfz70_0 := blk_frozen BK356.out 0; have hfz70_1 := blk_frozen BK356.out 1; have hfz70_2 := blk_frozen BK356.out 2; have hfz70_3 := blk_frozen BK356.out 3; have hfz70_4 := blk_frozen BK356.out 4; have hnb71 := NB352_353.out; have hnc71 := NB353_352.out; have hcz72_0 : w69.cell? ⟨gb352, 0, none⟩ = some (.int .i64 0) := (blk_cell BK352.out 0).trans rfl; have hcz72_1 : w69.cell? ⟨gb352, 1, none⟩ = some (.string (⟨#[]⟩ : ByteArray)) := (blk_cell BK352.out 1).trans rfl; have hcz72_2 : w69.cell? ⟨gb352, 2, none⟩ = some (.string (⟨#[]⟩ : ByteArray)) := (blk_cell BK352.out 2).trans rfl; have hcz72_3 : w69.cell? ⟨gb352, 3, none⟩ = some (.int .i64 0) := (blk_cell BK352.out 3).trans rfl; have hcz72_4 : w69.cell? ⟨gb352, 4, none⟩ = some (.slice none 0 0) := (blk_cell BK352.out 4).trans rfl; have hfz72_0 := blk_frozen BK352.out 0; have hfz72_1 := blk_frozen BK352.out 1; have hfz72_2 := blk_frozen BK352.out 2; have hfz72_3 := blk_frozen BK352.out 3; have hfz72_4 := blk_frozen BK352.out 4))
                                    refine bodyPost_ret (results_ct rfl _ _ gb352 29 #[.int .i64 t354, .string x357001_21, .string x357002_36, .int .i64 x357003_51, .slice Ao67 t363.length co67] (0, 0) _ rfl (by (with_reducible repeat (first | refine blk_drewN ?_ _ | refine blk_drew ?_ | refine blk_alloc ?_ _)); refine blk_put (cs := #[.int .i64 t354, .string x357001_21, .string x357002_36, .int .i64 x357003_51, .slice none 0 0]) ?_ 4 _ rfl; (with_reducible repeat (first | refine blk_drewN ?_ _ | refine blk_drew ?_ | refine blk_alloc ?_ _)); refine blk_put (cs := #[.int .i64 t354, .string x357001_21, .string x357002_36, .int .i64 0, .slice none 0 0]) ?_ 3 _ rfl; (with_reducible repeat (first | refine blk_drewN ?_ _ | refine blk_drew ?_ | refine blk_alloc ?_ _)); refine blk_put (cs := #[.int .i64 t354, .string x357001_21, .string (⟨#[]⟩ : ByteArray), .int .i64 0, .slice none 0 0]) ?_ 2 _ rfl; (with_reducible repeat (first | refine blk_drewN ?_ _ | refine blk_drew ?_ | refine blk_alloc ?_ _)); refine blk_put (cs := #[.int .i64 t354, .string (⟨#[]⟩ : ByteArray), .string (⟨#[]⟩ : ByteArray), .int .i64 0, .slice none 0 0]) ?_ 1 _ rfl; (with_reducible repeat (first | refine blk_drewN ?_ _ | refine blk_drew ?_ | refine blk_alloc ?_ _)); refine blk_put (cs := #[.int .i64 0, .string (⟨#[]⟩ : ByteArray), .string (⟨#[]⟩ : ByteArray), .int .i64 0, .slice none 0 0]) ?_ 0 _ rfl; (with_reducible repeat (first | refine blk_drewN ?_ _ | refine blk_drew ?_ | refine blk_alloc ?_ _)); exact BK352.out) Try.underlying29 rfl (by kernel_rfl)) rfl ?_
                                    exact ⟨_, by first | rfl | (simp [errW_none, errW_some] <;> rfl) | (simp [*, errW_none, errW_some] <;> rfl), by (with_reducible repeat (first | apply Kd.S_alloc | apply Kd.S_drewN | apply Kd.S_drew)); exact Kd.S_mono (Kd.S_far (p := ⟨gb352, 4, none⟩) (Kd.S_far (p := ⟨gb352, 3, none⟩) (Kd.S_far (p := ⟨gb352, 2, none⟩) (Kd.S_far (p := ⟨gb352, 1, none⟩) (Kd.S_far (p := ⟨gb352, 0, none⟩) (Kd.S_types HO365.out BK352.out (by decide)) (fun _ hk => hk.2) (.int .i64 t354)) (fun _ hk => hk.2) (.string x357001_21)) (fun _ hk => hk.2) (.string x357002_36)) (fun _ hk => hk.2) (.int .i64 x357003_51)) (fun _ hk => hk.2) (.slice Ao67 t363.length co67)) (fun _ hk => trivial), by repeat (first | (with_reducible first | exact HB.out | apply below_alloc | apply pw_below_drewN | apply below_drew1 | refine below_set ?_ (IsS91.ge HI353.out) | refine below_set ?_ GE352.out | refine below_set ?_ GE356.out) | exact HB.out)⟩
                                  · rw [if_neg c62] at H
                                    have c62b0 : (t367.toList == a0.toList) = false := beq_eq_false_iff_ne.mpr c62
                                    have c62b1 : (t367.toList != a0.toList) = true := bne_iff_ne.mpr c62
                                    simp only [Option.some.injEq, Prod.mk.injEq] at H
                                    obtain ⟨rfl, rfl, rfl, rfl, rfl, rfl⟩ := H
                                    have hnb73 := NB356_352.out
                                    have hnc73 := NB352_356.out
                                    have hnb74 := NB356_353.out
                                    have hnc74 := NB353_356.out
                                    have hcz75_0 : wc.cell? ⟨gb356, 0, none⟩ = some (.int .i64 t354) := (blk_cell BK356.out 0).trans rfl
                                    have hcz75_1 : wc.cell? ⟨gb356, 1, none⟩ = some (.string x357001_21) := (blk_cell BK356.out 1).trans rfl
                                    have hcz75_2 : wc.cell? ⟨gb356, 2, none⟩ = some (.string x357002_36) := (blk_cell BK356.out 2).trans rfl
                                    have hcz75_3 : wc.cell? ⟨gb356, 3, none⟩ = some (.int .i64 x357003_51) := (blk_cell BK356.out 3).trans rfl
                                    have hcz75_4 : wc.cell? ⟨gb356, 4, none⟩ = some (.slice none 0 0) := (blk_cell BK356.out 4).trans rfl
                                    have hfz75_0 := blk_frozen BK356.out 0
                                    have hfz75_1 := blk_frozen BK356.out 1
                                    have hfz75_2 := blk_frozen BK356.out 2
                                    have hfz75_3 := blk_frozen BK356.out 3
                                    have hfz75_4 := blk_frozen BK356.out 4
                                    go_wp2_with (first | ((with_reducible refine gate_callee (f := 46) rfl ?_); refine goesL_ (some 57) rfl rfl Try.func46 (by kernel_rfl) rfl #[.pointer (some ⟨gb353, 0, none⟩)] rfl (by (try simp only [List.map_toArray, List.map_cons, List.map_nil]); first | done | rfl | (simp only [List.length_drop, List.length_take]; rfl)) ?_; (with_reducible refine (impl_source_samples.calls kj51 gb353 x354000_51 t363 t366 w _ ?side1 ?side2 A60.out).mono ?_); (case side1 => repeat (first | (with_reducible first | exact HI353.out | apply IsS91.alloc | apply IsS91.drewN | apply IsS91.drew | apply IsS91.set_0 | refine IsS91.far ?_ NB353_352.out _ | refine IsS91.far ?_ NB353_356.out _) | exact HI353.out)); (case side2 => repeat (first | (with_reducible first | exact HB.out | apply below_alloc | apply pw_below_drewN | apply below_drew1 | refine below_set ?_ (IsS91.ge HI353.out) | refine below_set ?_ GE352.out | refine below_set ?_ GE356.out) | exact HB.out)); rintro e w76 ⟨v364, rfl, ho0, hi, hb, hk⟩; refine ⟨_, rfl, ?_⟩; have n0_ := Aside0.mk (KeepBut.blk hk (g' := gb352) (o := .cells #[.int .i64 0, .string (⟨#[]⟩ : ByteArray), .string (⟨#[]⟩ : ByteArray), .int .i64 0, .slice none 0 0] 29 (0, 0)) (by (with_reducible repeat (first | refine blk_drewN ?_ _ | refine blk_drew ?_ | refine blk_alloc ?_ _)); exact BK352.out) NB352_353.out (by simp)); have n1_ := Aside0.mk (KeepBut.blk hk (g' := gb356) (o := .cells #[.int .i64 t354, .string x357001_21, .string x357002_36, .int .i64 x357003_51, .slice none 0 0] 29 (0, 0)) (by (with_reducible repeat (first | refine blk_drewN ?_ _ | refine blk_drew ?_ | refine blk_alloc ?_ _)); exact BK356.out) NB356_353.out (by simp)); have n2_ := Aside0.mk (Kd.S_lower ho0 (below_size (by repeat (first | (with_reducible first | exact HB.out | apply below_alloc | apply pw_below_drewN | apply below_drew1 | refine below_set ?_ (IsS91.ge HI353.out) | refine below_set ?_ GE352.out | refine below_set ?_ GE356.out) | exact HB.out)))); have n3_ := Aside0.mk (hb); have n4_ := Aside0.mk (hi); clear BK352; clear BK356; clear HB; clear HI353; have BK352 := n0_; have BK356 := n1_; have HO365 := n2_; have HB := n3_; have HI353 := n4_; clear n0_ n1_ n2_ n3_ n4_; (try clear hb); (try clear hb2); (try clear hk); (try clear hi); (try clear ho0); obtain ⟨Ao77, co77, eo77⟩ := Kd.S_slice HO365.out; subst eo77; have hcz78_0 : w76.cell? ⟨gb356, 0, none⟩ = some (.int .i64 t354) := (blk_cell BK356.out 0).trans rfl; have hcz78_1 : w76.cell? ⟨gb356, 1, none⟩ = some (.string x357001_21) := (blk_cell BK356.out 1).trans rfl; have hcz78_2 : w76.cell? ⟨gb356, 2, none⟩ = some (.string x357002_36) := (blk_cell BK356.out 2).trans rfl; have hcz78_3 : w76.cell? ⟨gb356, 3, none⟩ = some (.int .i64 x357003_51) := (blk_cell BK356.out 3).trans rfl; have hcz78_4 : w76.cell? ⟨gb356, 4, none⟩ = some (.slice none 0 0) := (blk_cell BK356.out 4).trans rfl; have hfz78_0 := blk_frozen BK356.out 0; have hfz78_1 := blk_frozen BK356.out 1; have hfz78_2 := blk_frozen BK356.out 2; have hfz78_3 := blk_frozen BK356.out 3; have hfz78_4 := blk_frozen BK356.out 4) | ((with_reducible refine gate_callee (f := 9) rfl ?_); refine goesL_ (some 60) rfl rfl Try.func9 (by kernel_rfl) rfl #[.agg #[.int .i64 t354, .string x357001_21, .string x357002_36, .int .i64 x357003_51, .slice Ao77 t363.length co77]] rfl (by (try simp only [List.map_toArray, List.map_cons, List.map_nil]); first | done | rfl | (simp only [List.length_drop, List.length_take]; rfl)) ?_; (with_reducible refine (impl_EncodeRequest.calls t354 x357001_21 x357002_36 x357003_51 _ _ t363 t367 _ ?side1 ?side2 A61.out).mono ?_); (case side1 => refine (Kd.S_reads' (e := 65) (base := w.heap.size) (ok := fun k_ => True) (n := t363.length) (c := co77) ?_).2.2; exact (by (with_reducible repeat (first | apply Kd.S_alloc | apply Kd.S_drewN | apply Kd.S_drew)); exact (Kd.S_mono (Kd.S_far (p := ⟨gb356, 4, none⟩) (Kd.S_types HO365.out BK356.out (by decide)) (fun _ hk => hk.2) (.slice Ao77 t363.length co77)) (fun _ h_ => h_.1)))); (case side2 => exact (Kd.S_reads' HO365.out).2.1); rintro e w79 ⟨rfl, hb⟩; refine ⟨_, rfl, ?_⟩; have n0_ := Aside0.mk (Kd.S_below (by (with_reducible repeat (first | apply Kd.S_alloc | apply Kd.S_drewN | apply Kd.S_drew)); exact (Kd.S_mono (Kd.S_far (p := ⟨gb356, 4, none⟩) (Kd.S_types HO365.out BK356.out (by decide)) (fun _ hk => hk.2) (.slice Ao77 t363.length co77)) (fun _ h_ => h_.1))) hb); have n1_ := Aside0.mk (blk_below (g := gb352) (o := .cells #[.int .i64 0, .string (⟨#[]⟩ : ByteArray), .string (⟨#[]⟩ : ByteArray), .int .i64 0, .slice none 0 0] 29 (0, 0)) (by (with_reducible repeat (first | refine blk_drewN ?_ _ | refine blk_drew ?_ | refine blk_alloc ?_ _)); refine blk_far ?_ NB352_356.out _; (with_reducible repeat (first | refine blk_drewN ?_ _ | refine blk_drew ?_ | refine blk_alloc ?_ _)); exact BK352.out) hb); have n2_ := Aside0.mk (blk_below (g := gb356) (o := .cells #[.int .i64 t354, .string x357001_21, .string x357002_36, .int .i64 x357003_51, .slice Ao77 t363.length co77] 29 (0, 0)) (by (with_reducible repeat (first | refine blk_drewN ?_ _ | refine blk_drew ?_ | refine blk_alloc ?_ _)); refine blk_put (cs := #[.int .i64 t354, .string x357001_21, .string x357002_36, .int .i64 x357003_51, .slice none 0 0]) ?_ 4 _ rfl; (with_reducible repeat (first | refine blk_drewN ?_ _ | refine blk_drew ?_ | refine blk_alloc ?_ _)); exact BK356.out) hb); have n3_ := Aside0.mk (IsS91.below (show IsS91 w (w76.setCell ⟨gb356, 4, none⟩ (.slice Ao77 t363.length co77)) gb353 t366 from by repeat (first | (with_reducible first | exact HI353.out | apply IsS91.alloc | apply IsS91.drewN | apply IsS91.drew | apply IsS91.set_0 | refine IsS91.far ?_ NB353_352.out _ | refine IsS91.far ?_ NB353_356.out _) | exact HI353.out)) hb); have n4_ := Aside0.mk (below_step (by repeat (first | (with_reducible first | exact HB.out | apply below_alloc | apply pw_below_drewN | apply below_drew1 | refine below_set ?_ (IsS91.ge HI353.out) | refine below_set ?_ GE352.out | refine below_set ?_ GE356.out) | exact HB.out)) hb); clear HO365; clear BK352; clear BK356; clear HI353; clear HB; have HO365 := n0_; have BK352 := n1_; have BK356 := n2_; have HI353 := n3_; have HB := n4_; clear n0_ n1_ n2_ n3_ n4_; (try clear hb); (try clear hb2); (try clear hk); (try clear hi); have hnb80 := NB352_353.out; have hnc80 := NB353_352.out; have hcz81_0 : w79.cell? ⟨gb352, 0, none⟩ = some (.int .i64 0) := (blk_cell BK352.out 0).trans rfl; have hcz81_1 : w79.cell? ⟨gb352, 1, none⟩ = some (.string (⟨#[]⟩ : ByteArray)) := (blk_cell BK352.out 1).trans rfl; have hcz81_2 : w79.cell? ⟨gb352, 2, none⟩ = some (.string (⟨#[]⟩ : ByteArray)) := (blk_cell BK352.out 2).trans rfl; have hcz81_3 : w79.cell? ⟨gb352, 3, none⟩ = some (.int .i64 0) := (blk_cell BK352.out 3).trans rfl; have hcz81_4 : w79.cell? ⟨gb352, 4, none⟩ = some (.slice none 0 0) := (blk_cell BK352.out 4).trans rfl; have hfz81_0 := blk_frozen BK352.out 0; have hfz81_1 := blk_frozen BK352.out 1; have hfz81_2 := blk_frozen BK352.out 2; have hfz81_3 := blk_frozen BK352.out 3; have hfz81_4 := blk_frozen BK352.out 4))
                                    refine bodyPost_ret (results_ct rfl _ _ gb352 29 #[.int .i64 0, .string (⟨#[]⟩ : ByteArray), .string (⟨#[]⟩ : ByteArray), .int .i64 0, .slice none 0 0] (0, 0) _ rfl (by (with_reducible repeat (first | refine blk_drewN ?_ _ | refine blk_drew ?_ | refine blk_alloc ?_ _)); refine blk_put (cs := #[.int .i64 0, .string (⟨#[]⟩ : ByteArray), .string (⟨#[]⟩ : ByteArray), .int .i64 0, .slice none 0 0]) ?_ 4 _ rfl; (with_reducible repeat (first | refine blk_drewN ?_ _ | refine blk_drew ?_ | refine blk_alloc ?_ _)); refine blk_put (cs := #[.int .i64 0, .string (⟨#[]⟩ : ByteArray), .string (⟨#[]⟩ : ByteArray), .int .i64 0, .slice none 0 0]) ?_ 3 _ rfl; (with_reducible repeat (first | refine blk_drewN ?_ _ | refine blk_drew ?_ | refine blk_alloc ?_ _)); refine blk_put (cs := #[.int .i64 0, .string (⟨#[]⟩ : ByteArray), .string (⟨#[]⟩ : ByteArray), .int .i64 0, .slice none 0 0]) ?_ 2 _ rfl; (with_reducible repeat (first | refine blk_drewN ?_ _ | refine blk_drew ?_ | refine blk_alloc ?_ _)); refine blk_put (cs := #[.int .i64 0, .string (⟨#[]⟩ : ByteArray), .string (⟨#[]⟩ : ByteArray), .int .i64 0, .slice none 0 0]) ?_ 1 _ rfl; (with_reducible repeat (first | refine blk_drewN ?_ _ | refine blk_drew ?_ | refine blk_alloc ?_ _)); refine blk_put (cs := #[.int .i64 0, .string (⟨#[]⟩ : ByteArray), .string (⟨#[]⟩ : ByteArray), .int .i64 0, .slice none 0 0]) ?_ 0 _ rfl; (with_reducible repeat (first | refine blk_drewN ?_ _ | refine blk_drew ?_ | refine blk_alloc ?_ _)); exact BK352.out) Try.underlying29 rfl (by kernel_rfl)) rfl ?_
                                    exact ⟨_, by first | rfl | (simp [errW_none, errW_some] <;> rfl) | (simp [*, errW_none, errW_some] <;> rfl), by first | exact Kd.S_nil _ _ _ _ _ | exact Kd.N_nil _ _ _ _ _ | exact Kd.V_nil _ _ _ _ _ | exact Kd.Q_nil _ _ _ _ _ | exact Kd.R_nil _ _ _ _ _, by repeat (first | (with_reducible first | exact HB.out | apply below_alloc | apply pw_below_drewN | apply below_drew1 | refine below_set ?_ (IsS91.ge HI353.out) | refine below_set ?_ GE352.out | refine below_set ?_ GE356.out) | exact HB.out)⟩
                                · rw [if_neg c59] at H
                                  have c59b0 : (t354 == 1) = false := beq_eq_false_iff_ne.mpr c59
                                  have c59b1 : (t354 != 1) = true := bne_iff_ne.mpr c59
                                  replace H := Option.bind_eq_some_iff.mp H
                                  obtain ⟨t368, A820, H⟩ := H
                                  replace H : (if t368.toList = a0.toList then (some (t354, x357001_21, x357002_36, x357003_51, ([] : List (S65)), true)) else (some (0, (⟨#[]⟩ : ByteArray), (⟨#[]⟩ : ByteArray), 0, ([] : List (S65)), false))) = some (r1, r2, r3, r4, r5, r6) := H
                                  have A82 := Aside0.mk A820
                                  clear A820
                                  by_cases c83 : t368.toList = a0.toList
                                  · rw [if_pos c83] at H
                                    have c83b0 : (t368.toList == a0.toList) = true := beq_iff_eq.mpr c83
                                    have c83b1 : (t368.toList != a0.toList) = false := bne_eq_false_iff_eq.mpr c83
                                    clear c83
                                    simp only [Option.some.injEq, Prod.mk.injEq] at H
                                    obtain ⟨rfl, rfl, rfl, rfl, rfl, rfl⟩ := H
                                    have hnb84 := NB356_352.out
                                    have hnc84 := NB352_356.out
                                    have hnb85 := NB356_353.out
                                    have hnc85 := NB353_356.out
                                    have hcz86_0 : wc.cell? ⟨gb356, 0, none⟩ = some (.int .i64 t354) := (blk_cell BK356.out 0).trans rfl
                                    have hcz86_1 : wc.cell? ⟨gb356, 1, none⟩ = some (.string x357001_21) := (blk_cell BK356.out 1).trans rfl
                                    have hcz86_2 : wc.cell? ⟨gb356, 2, none⟩ = some (.string x357002_36) := (blk_cell BK356.out 2).trans rfl
                                    have hcz86_3 : wc.cell? ⟨gb356, 3, none⟩ = some (.int .i64 x357003_51) := (blk_cell BK356.out 3).trans rfl
                                    have hcz86_4 : wc.cell? ⟨gb356, 4, none⟩ = some (.slice none 0 0) := (blk_cell BK356.out 4).trans rfl
                                    have hfz86_0 := blk_frozen BK356.out 0
                                    have hfz86_1 := blk_frozen BK356.out 1
                                    have hfz86_2 := blk_frozen BK356.out 2
                                    have hfz86_3 := blk_frozen BK356.out 3
                                    have hfz86_4 := blk_frozen BK356.out 4
                                    go_wp2_with (first | ((with_reducible refine gate_callee (f := 9) rfl ?_); refine goesL_ (some 60) rfl rfl Try.func9 (by kernel_rfl) rfl #[.agg #[.int .i64 t354, .string x357001_21, .string x357002_36, .int .i64 x357003_51, .slice none 0 0]] rfl (by (try simp only [List.map_toArray, List.map_cons, List.map_nil]); first | done | rfl | (simp only [List.length_drop, List.length_take]; rfl)) ?_; (refine (impl_EncodeRequest.calls t354 x357001_21 x357002_36 x357003_51 _ _ ([] : List (S65)) t368 _ ?side1 ?side2 A82.out).mono ?_); (case side1 => exact Kd.C_nil _ _); (case side2 => exact Nat.le_refl _); rintro e w87 ⟨rfl, hb⟩; refine ⟨_, rfl, ?_⟩; have n0_ := Aside0.mk (blk_below (g := gb352) (o := .cells #[.int .i64 0, .string (⟨#[]⟩ : ByteArray), .string (⟨#[]⟩ : ByteArray), .int .i64 0, .slice none 0 0] 29 (0, 0)) (by (with_reducible repeat (first | refine blk_drewN ?_ _ | refine blk_drew ?_ | refine blk_alloc ?_ _)); exact BK352.out) hb); have n1_ := Aside0.mk (blk_below (g := gb356) (o := .cells #[.int .i64 t354, .string x357001_21, .string x357002_36, .int .i64 x357003_51, .slice none 0 0] 29 (0, 0)) (by (with_reducible repeat (first | refine blk_drewN ?_ _ | refine blk_drew ?_ | refine blk_alloc ?_ _)); exact BK356.out) hb); have n2_ := Aside0.mk (IsS91.below (by repeat (first | (with_reducible first | exact HI353.out | apply IsS91.alloc | apply IsS91.drewN | apply IsS91.drew | apply IsS91.set_0 | refine IsS91.far ?_ NB353_352.out _ | refine IsS91.far ?_ NB353_356.out _) | exact HI353.out)) hb); have n3_ := Aside0.mk (below_step (by repeat (first | (with_reducible first | exact HB.out | apply below_alloc | apply pw_below_drewN | apply below_drew1 | refine below_set ?_ (IsS91.ge HI353.out) | refine below_set ?_ GE352.out | refine below_set ?_ GE356.out) | exact HB.out)) hb); clear BK352; clear BK356; clear HI353; clear HB; have BK352 := n0_; have BK356 := n1_; have HI353 := n2_; have HB := n3_; clear n0_ n1_ n2_ n3_; (try clear hb); (try clear hb2); (try clear hk); (try clear hi); have hcz88_0 : w87.cell? ⟨gb356, 0, none⟩ = some (.int .i64 t354) := (blk_cell BK356.out 0).trans rfl; have hcz88_1 : w87.cell? ⟨gb356, 1, none⟩ = some (.string x357001_21) := (blk_cell BK356.out 1).trans rfl; have hcz88_2 : w87.cell? ⟨gb356, 2, none⟩ = some (.string x357002_36) := (blk_cell BK356.out 2).trans rfl; have hcz88_3 : w87.cell? ⟨gb356, 3, none⟩ = some (.int .i64 x357003_51) := (blk_cell BK356.out 3).trans rfl; have hcz88_4 : w87.cell? ⟨gb356, 4, none⟩ = some (.slice none 0 0) := (blk_cell BK356.out 4).trans rfl; have hfz88_0 := blk_frozen BK356.out 0; have hfz88_1 := blk_frozen BK356.out 1; have hfz88_2 := blk_frozen BK356.out 2; have hfz88_3 := blk_frozen BK356.out 3; have hfz88_4 := blk_frozen BK356.out 4; have hnb89 := NB352_353.out; have hnc89 := NB353_352.out; have hcz90_0 : w87.cell? ⟨gb352, 0, none⟩ = some (.int .i64 0) := (blk_cell BK352.out 0).trans rfl; have hcz90_1 : w87.cell? ⟨gb352, 1, none⟩ = some (.string (⟨#[]⟩ : ByteArray)) := (blk_cell BK352.out 1).trans rfl; have hcz90_2 : w87.cell? ⟨gb352, 2, none⟩ = some (.string (⟨#[]⟩ : ByteArray)) := (blk_cell BK352.out 2).trans rfl; have hcz90_3 : w87.cell? ⟨gb352, 3, none⟩ = some (.int .i64 0) := (blk_cell BK352.out 3).trans rfl; have hcz90_4 : w87.cell? ⟨gb352, 4, none⟩ = some (.slice none 0 0) := (blk_cell BK352.out 4).trans rfl; have hfz90_0 := blk_frozen BK352.out 0; have hfz90_1 := blk_frozen BK352.out 1; have hfz90_2 := blk_frozen BK352.out 2; have hfz90_3 := blk_frozen BK352.out 3; have hfz90_4 := blk_frozen BK352.out 4))
                                    refine bodyPost_ret (results_ct rfl _ _ gb352 29 #[.int .i64 t354, .string x357001_21, .string x357002_36, .int .i64 x357003_51, .slice none 0 0] (0, 0) _ rfl (by (with_reducible repeat (first | refine blk_drewN ?_ _ | refine blk_drew ?_ | refine blk_alloc ?_ _)); refine blk_put (cs := #[.int .i64 t354, .string x357001_21, .string x357002_36, .int .i64 x357003_51, .slice none 0 0]) ?_ 4 _ rfl; (with_reducible repeat (first | refine blk_drewN ?_ _ | refine blk_drew ?_ | refine blk_alloc ?_ _)); refine blk_put (cs := #[.int .i64 t354, .string x357001_21, .string x357002_36, .int .i64 0, .slice none 0 0]) ?_ 3 _ rfl; (with_reducible repeat (first | refine blk_drewN ?_ _ | refine blk_drew ?_ | refine blk_alloc ?_ _)); refine blk_put (cs := #[.int .i64 t354, .string x357001_21, .string (⟨#[]⟩ : ByteArray), .int .i64 0, .slice none 0 0]) ?_ 2 _ rfl; (with_reducible repeat (first | refine blk_drewN ?_ _ | refine blk_drew ?_ | refine blk_alloc ?_ _)); refine blk_put (cs := #[.int .i64 t354, .string (⟨#[]⟩ : ByteArray), .string (⟨#[]⟩ : ByteArray), .int .i64 0, .slice none 0 0]) ?_ 1 _ rfl; (with_reducible repeat (first | refine blk_drewN ?_ _ | refine blk_drew ?_ | refine blk_alloc ?_ _)); refine blk_put (cs := #[.int .i64 0, .string (⟨#[]⟩ : ByteArray), .string (⟨#[]⟩ : ByteArray), .int .i64 0, .slice none 0 0]) ?_ 0 _ rfl; (with_reducible repeat (first | refine blk_drewN ?_ _ | refine blk_drew ?_ | refine blk_alloc ?_ _)); exact BK352.out) Try.underlying29 rfl (by kernel_rfl)) rfl ?_
                                    exact ⟨_, by first | rfl | (simp [errW_none, errW_some] <;> rfl) | (simp [*, errW_none, errW_some] <;> rfl), by first | exact Kd.S_nil _ _ _ _ _ | exact Kd.N_nil _ _ _ _ _ | exact Kd.V_nil _ _ _ _ _ | exact Kd.Q_nil _ _ _ _ _ | exact Kd.R_nil _ _ _ _ _, by repeat (first | (with_reducible first | exact HB.out | apply below_alloc | apply pw_below_drewN | apply below_drew1 | refine below_set ?_ (IsS91.ge HI353.out) | refine below_set ?_ GE352.out | refine below_set ?_ GE356.out) | exact HB.out)⟩
                                  · rw [if_neg c83] at H
                                    have c83b0 : (t368.toList == a0.toList) = false := beq_eq_false_iff_ne.mpr c83
                                    have c83b1 : (t368.toList != a0.toList) = true := bne_iff_ne.mpr c83
                                    simp only [Option.some.injEq, Prod.mk.injEq] at H
                                    obtain ⟨rfl, rfl, rfl, rfl, rfl, rfl⟩ := H
                                    have hnb91 := NB356_352.out
                                    have hnc91 := NB352_356.out
                                    have hnb92 := NB356_353.out
                                    have hnc92 := NB353_356.out
                                    have hcz93_0 : wc.cell? ⟨gb356, 0, none⟩ = some (.int .i64 t354) := (blk_cell BK356.out 0).trans rfl
                                    have hcz93_1 : wc.cell? ⟨gb356, 1, none⟩ = some (.string x357001_21) := (blk_cell BK356.out 1).trans rfl
                                    have hcz93_2 : wc.cell? ⟨gb356, 2, none⟩ = some (.string x357002_36) := (blk_cell BK356.out 2).trans rfl
                                    have hcz93_3 : wc.cell? ⟨gb356, 3, none⟩ = some (.int .i64 x357003_51) := (blk_cell BK356.out 3).trans rfl
                                    have hcz93_4 : wc.cell? ⟨gb356, 4, none⟩ = some (.slice none 0 0) := (blk_cell BK356.out 4).trans rfl
                                    have hfz93_0 := blk_frozen BK356.out 0
                                    have hfz93_1 := blk_frozen BK356.out 1
                                    have hfz93_2 := blk_frozen BK356.out 2
                                    have hfz93_3 := blk_frozen BK356.out 3
                                    have hfz93_4 := blk_frozen BK356.out 4
                                    go_wp2_with (first | ((with_reducible refine gate_callee (f := 9) rfl ?_); refine goesL_ (some 60) rfl rfl Try.func9 (by kernel_rfl) rfl #[.agg #[.int .i64 t354, .string x357001_21, .string x357002_36, .int .i64 x357003_51, .slice none 0 0]] rfl (by (try simp only [List.map_toArray, List.map_cons, List.map_nil]); first | done | rfl | (simp only [List.length_drop, List.length_take]; rfl)) ?_; (refine (impl_EncodeRequest.calls t354 x357001_21 x357002_36 x357003_51 _ _ ([] : List (S65)) t368 _ ?side1 ?side2 A82.out).mono ?_); (case side1 => exact Kd.C_nil _ _); (case side2 => exact Nat.le_refl _); rintro e w94 ⟨rfl, hb⟩; refine ⟨_, rfl, ?_⟩; have n0_ := Aside0.mk (blk_below (g := gb352) (o := .cells #[.int .i64 0, .string (⟨#[]⟩ : ByteArray), .string (⟨#[]⟩ : ByteArray), .int .i64 0, .slice none 0 0] 29 (0, 0)) (by (with_reducible repeat (first | refine blk_drewN ?_ _ | refine blk_drew ?_ | refine blk_alloc ?_ _)); exact BK352.out) hb); have n1_ := Aside0.mk (blk_below (g := gb356) (o := .cells #[.int .i64 t354, .string x357001_21, .string x357002_36, .int .i64 x357003_51, .slice none 0 0] 29 (0, 0)) (by (with_reducible repeat (first | refine blk_drewN ?_ _ | refine blk_drew ?_ | refine blk_alloc ?_ _)); exact BK356.out) hb); have n2_ := Aside0.mk (IsS91.below (by repeat (first | (with_reducible first | exact HI353.out | apply IsS91.alloc | apply IsS91.drewN | apply IsS91.drew | apply IsS91.set_0 | refine IsS91.far ?_ NB353_352.out _ | refine IsS91.far ?_ NB353_356.out _) | exact HI353.out)) hb); have n3_ := Aside0.mk (below_step (by repeat (first | (with_reducible first | exact HB.out | apply below_alloc | apply pw_below_drewN | apply below_drew1 | refine below_set ?_ (IsS91.ge HI353.out) | refine below_set ?_ GE352.out | refine below_set ?_ GE356.out) | exact HB.out)) hb); clear BK352; clear BK356; clear HI353; clear HB; have BK352 := n0_; have BK356 := n1_; have HI353 := n2_; have HB := n3_; clear n0_ n1_ n2_ n3_; (try clear hb); (try clear hb2); (try clear hk); (try clear hi); have hnb95 := NB352_353.out; have hnc95 := NB353_352.out; have hcz96_0 : w94.cell? ⟨gb352, 0, none⟩ = some (.int .i64 0) := (blk_cell BK352.out 0).trans rfl; have hcz96_1 : w94.cell? ⟨gb352, 1, none⟩ = some (.string (⟨#[]⟩ : ByteArray)) := (blk_cell BK352.out 1).trans rfl; have hcz96_2 : w94.cell? ⟨gb352, 2, none⟩ = some (.string (⟨#[]⟩ : ByteArray)) := (blk_cell BK352.out 2).trans rfl; have hcz96_3 : w94.cell? ⟨gb352, 3, none⟩ = some (.int .i64 0) := (blk_cell BK352.out 3).trans rfl; have hcz96_4 : w94.cell? ⟨gb352, 4, none⟩ = some (.slice none 0 0) := (blk_cell BK352.out 4).trans rfl; have hfz96_0 := blk_frozen BK352.out 0; have hfz96_1 := blk_frozen BK352.out 1; have hfz96_2 := blk_frozen BK352.out 2; have hfz96_3 := blk_frozen BK352.out 3; have hfz96_4 := blk_frozen BK352.out 4))
                                    refine bodyPost_ret (results_ct rfl _ _ gb352 29 #[.int .i64 0, .string (⟨#[]⟩ : ByteArray), .string (⟨#[]⟩ : ByteArray), .int .i64 0, .slice none 0 0] (0, 0) _ rfl (by (with_reducible repeat (first | refine blk_drewN ?_ _ | refine blk_drew ?_ | refine blk_alloc ?_ _)); refine blk_put (cs := #[.int .i64 0, .string (⟨#[]⟩ : ByteArray), .string (⟨#[]⟩ : ByteArray), .int .i64 0, .slice none 0 0]) ?_ 4 _ rfl; (with_reducible repeat (first | refine blk_drewN ?_ _ | refine blk_drew ?_ | refine blk_alloc ?_ _)); refine blk_put (cs := #[.int .i64 0, .string (⟨#[]⟩ : ByteArray), .string (⟨#[]⟩ : ByteArray), .int .i64 0, .slice none 0 0]) ?_ 3 _ rfl; (with_reducible repeat (first | refine blk_drewN ?_ _ | refine blk_drew ?_ | refine blk_alloc ?_ _)); refine blk_put (cs := #[.int .i64 0, .string (⟨#[]⟩ : ByteArray), .string (⟨#[]⟩ : ByteArray), .int .i64 0, .slice none 0 0]) ?_ 2 _ rfl; (with_reducible repeat (first | refine blk_drewN ?_ _ | refine blk_drew ?_ | refine blk_alloc ?_ _)); refine blk_put (cs := #[.int .i64 0, .string (⟨#[]⟩ : ByteArray), .string (⟨#[]⟩ : ByteArray), .int .i64 0, .slice none 0 0]) ?_ 1 _ rfl; (with_reducible repeat (first | refine blk_drewN ?_ _ | refine blk_drew ?_ | refine blk_alloc ?_ _)); refine blk_put (cs := #[.int .i64 0, .string (⟨#[]⟩ : ByteArray), .string (⟨#[]⟩ : ByteArray), .int .i64 0, .slice none 0 0]) ?_ 0 _ rfl; (with_reducible repeat (first | refine blk_drewN ?_ _ | refine blk_drew ?_ | refine blk_alloc ?_ _)); exact BK352.out) Try.underlying29 rfl (by kernel_rfl)) rfl ?_
                                    exact ⟨_, by first | rfl | (simp [errW_none, errW_some] <;> rfl) | (simp [*, errW_none, errW_some] <;> rfl), by first | exact Kd.S_nil _ _ _ _ _ | exact Kd.N_nil _ _ _ _ _ | exact Kd.V_nil _ _ _ _ _ | exact Kd.Q_nil _ _ _ _ _ | exact Kd.R_nil _ _ _ _ _, by repeat (first | (with_reducible first | exact HB.out | apply below_alloc | apply pw_below_drewN | apply below_drew1 | refine below_set ?_ (IsS91.ge HI353.out) | refine below_set ?_ GE352.out | refine below_set ?_ GE356.out) | exact HB.out)⟩

end

end Go.Proofs.Ytbhjbbanhmjgnaa.M
