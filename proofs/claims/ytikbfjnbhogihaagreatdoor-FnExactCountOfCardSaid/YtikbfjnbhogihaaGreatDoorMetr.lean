import Derived.Test.YtikbfjnbhogihaaGreatDoorBk
import Derived.Test.YtikbfjnbhogihaaGreatDoorM0
import Derived.WalkKit
import Derived.Lib.ConvBytes
import Derived.Lib.SmallJoins
import Derived.Laws.Cover1
import Derived.Test.YtikbfjnbhogihaaGreatDoorXJoin
import Derived.Test.YtikbfjnbhogihaaGreatDoorF48
import Derived.Deep.RegionHeld3
import Derived.Deep.DeepCutAuto
import Derived.BigQuiet
/- A key's metric: plain. -/
namespace Go.Proofs.YtikbfjnbhogihaaGreatDoor.Metr
open Go.Proofs.YtikbfjnbhogihaaGreatDoor.M Go.Proofs.YtikbfjnbhogihaaGreatDoor.Loops Go.Proofs.YtikbfjnbhogihaaGreatDoorW.PrintWords Go.Proofs.YtikbfjnbhogihaaGreatDoorW.PrintLast Go.RowKit
def metr : List S141 → ByteArray
  | [] => ⟨#[]⟩
  | x :: l => if x.f0.toList = ([95, 95, 110, 97, 109, 101, 95, 95] : List UInt8) then x.f1 else metr l
theorem metr_loop (L : Nat → List S141 → Int → Int → Option ByteArray)
    (hL : ∀ k x12 x13 x14, L (k + 1) x12 x13 x14 = if x14 < x13 then (if 0 ≤ x14 then (if x14 < (x12.length : Int) then (if ((rd_T141 x12 x14).f0).toList = ([95, 95, 110, 97, 109, 101, 95, 95] : List UInt8) then (some ((rd_T141 x12 x14).f1)) else (L k x12 x13 (wrap64 (x14 + 1)))) else (none)) else (none)) else (some (⟨#[]⟩ : ByteArray)))
    (l : List S141) (hl : l.length ≤ 1048576) : ∀ m j, j + m = l.length → Ev (fun k => L k l (l.length : Int) (j : Int)) (metr (l.drop j)) := by
  intro m
  induction m with
  | zero =>
    intro j hj
    refine Ev.step (f := fun _ => some (⟨#[]⟩ : ByteArray)) (fun k => by rw [hL, if_neg (by omega)]) (Ev.eq (Ev.now _) ?_)
    rw [List.drop_eq_nil_of_le (by omega)]; rfl
  | succ m ih =>
    intro j hj
    have h1 : j < l.length := by omega
    rw [List.drop_eq_getElem_cons h1]
    have hst : ∀ k, L (k + 1) l (l.length : Int) (j : Int) = if l[j].f0.toList = ([95, 95, 110, 97, 109, 101, 95, 95] : List UInt8) then some l[j].f1 else L k l (l.length : Int) ((j + 1 : Nat) : Int) := by
      intro k
      rw [hL, if_pos (by omega), if_pos (by omega), if_pos (by omega), Can.rd_get l j h1, w_succ j (by omega)]
    refine Ev.step hst ?_
    unfold metr
    by_cases hc : l[j].f0.toList = ([95, 95, 110, 97, 109, 101, 95, 95] : List UInt8)
    · rw [if_pos hc]; exact Ev.ite_pos hc (Ev.now _)
    · rw [if_neg hc]; exact Ev.ite_neg hc (ih (j + 1) (by omega))
end Go.Proofs.YtikbfjnbhogihaaGreatDoor.Metr
namespace Go.Proofs.YtikbfjnbhogihaaGreatDoor.M
open Go.RowKit Go.Proofs.YtikbfjnbhogihaaGreatDoorW.PrintWords Go.Proofs.YtikbfjnbhogihaaGreatDoorW.PrintLast Go.Proofs.YtikbfjnbhogihaaGreatDoorW.PrintMore
attribute [local go_sem] max2_int min2_int max_two min_two max_three min_three max_four min_four
set_option linter.unusedVariables false
set_option linter.unusedSimpArgs false
/-! ### laws_szMetricLimit: function 166 -/
def laws_szMetricLimit.f (a0_0 : ByteArray) (a0_1 : Int) (a1 : Int) : Option (Int) := if (wrap64 (a1 - (a0_0.size : Int))) < 0 then (some (-1)) else (some (wrap64 (a1 - (a0_0.size : Int))))
set_option maxHeartbeats 8000000 in
set_option maxRecDepth 100000 in
theorem laws_szMetricLimit.calls (a0_0 : ByteArray) (a0_1 : Int) (a1 : Int) (r : Int) (w : World) (h : laws_szMetricLimit.f a0_0 a0_1 a1 = some r) :
    Calls Tryz.prog 166 #[.agg #[.string a0_0, .int .i64 a0_1], .int .i64 a1] w fun e w' => e = .returned (.int .i64 r) ∧ Below w.heap.size w w' := by
  have HB := Aside0.mk (Below.refl w.heap.size w)
  have H : (if (wrap64 (a1 - (a0_0.size : Int))) < 0 then (some (-1)) else (some (wrap64 (a1 - (a0_0.size : Int))))) = some r := h
  clear h
  by_cases c3 : (wrap64 (a1 - (a0_0.size : Int))) < 0
  · rw [if_pos c3] at H
    have c3b0 : decide ((wrap64 (a1 - (a0_0.size : Int))) < 0) = true := decide_eq_true c3
    clear c3
    obtain rfl := Option.some.inj H
    go_enter Tryz.func166, Tryz.ntmps166
    go_wp2_with (((with_reducible refine gate_dst (N := 2) rfl ?_); refine box_event ?hg (N := 2) ?hd (cs := #[.string a0_0, .int .i64 a0_1]) (t := 223) ?hr ?_; (case hd => rfl); (case hg => rfl); (case hr => (go_simp; done)); intro gb101 hg w4 hbox hb; have n0_ := Aside0.mk (below_step (by repeat ((with_reducible exact HB.out))) hb); have n1_ := Aside0.mk (hbox); clear HB; have HB := n0_; have BK101 := n1_; clear n0_ n1_; clear hb hbox hg; have hcz5_0 : w4.cell? ⟨gb101, 0, none⟩ = some (.string a0_0) := (blk_cell BK101.out 0).trans rfl))
    go_ret
    exact ⟨by rfl, by repeat ((with_reducible exact HB.out))⟩
  · rw [if_neg c3] at H
    have c3b0 : decide ((wrap64 (a1 - (a0_0.size : Int))) < 0) = false := decide_eq_false c3
    clear c3
    obtain rfl := Option.some.inj H
    go_enter Tryz.func166, Tryz.ntmps166
    go_wp2_with (((with_reducible refine gate_dst (N := 2) rfl ?_); refine box_event ?hg (N := 2) ?hd (cs := #[.string a0_0, .int .i64 a0_1]) (t := 223) ?hr ?_; (case hd => rfl); (case hg => rfl); (case hr => (go_simp; done)); intro gb101 hg w6 hbox hb; have n0_ := Aside0.mk (below_step (by repeat ((with_reducible exact HB.out))) hb); have n1_ := Aside0.mk (hbox); clear HB; have HB := n0_; have BK101 := n1_; clear n0_ n1_; clear hb hbox hg; have hcz7_0 : w6.cell? ⟨gb101, 0, none⟩ = some (.string a0_0) := (blk_cell BK101.out 0).trans rfl))
    go_ret
    exact ⟨by rfl, by repeat ((with_reducible exact HB.out))⟩
end Go.Proofs.YtikbfjnbhogihaaGreatDoor.M
/- impl.isTenant: a range over a string's bytes. -/
namespace Go.Proofs.YtikbfjnbhogihaaGreatDoor.M
open Go.RowKit Go.Proofs.YtikbfjnbhogihaaGreatDoorW.PrintWords Go.Proofs.YtikbfjnbhogihaaGreatDoorW.PrintLast Go.Proofs.YtikbfjnbhogihaaGreatDoorW.PrintMore
set_option linter.unusedVariables false
set_option linter.unusedSimpArgs false
namespace TenN
def okB (c : Int) : Bool := decide (97 ≤ c ∧ c ≤ 122 ∨ 48 ≤ c ∧ c ≤ 57 ∨ c = 45)
def chars (s : ByteArray) : Nat → Bool
  | 0 => true
  | n + 1 => okB (bt s ((s.size - (n + 1) : Nat) : Int)) && chars s n
def ok (s : ByteArray) : Bool := decide (1 ≤ s.size ∧ s.size ≤ 32) && chars s s.size
theorem step (s : ByteArray) (k : Nat) (h : k < s.size) : chars s (s.size - k) = (okB (bt s (k : Int)) && chars s (s.size - (k + 1))) := by
  obtain ⟨n, hn⟩ : ∃ n, s.size - k = n + 1 := ⟨s.size - k - 1, by omega⟩
  rw [hn, show s.size - (k + 1) = n by omega]
  show (okB (bt s ((s.size - (n + 1) : Nat) : Int)) && chars s n) = _
  rw [show s.size - (n + 1) = k by omega]
theorem size_zero {a : ByteArray} (h : a.toList = []) : a.size = 0 := by
  rw [ByteArray.toList_eq] at h
  have : a.data.toList.length = 0 := by rw [h]; rfl
  exact this
theorem size_pos {a : ByteArray} (h : ¬ a.toList = []) : 1 ≤ a.size := by
  rw [ByteArray.toList_eq] at h
  by_cases h0 : a.size = 0
  · exact absurd (List.length_eq_zero_iff.1 (show a.data.toList.length = 0 from h0)) h
  · omega
end TenN
def impl_isTenant.f (a0 : ByteArray) : Option Bool := some (TenN.ok a0)
set_option maxHeartbeats 4000000 in
set_option maxRecDepth 100000 in
theorem impl_isTenant.calls (a0 : ByteArray) (r : Bool) (w : World) (h : impl_isTenant.f a0 = some r) :
    Calls Tryz.prog 62 #[.string a0] w fun e w' => e = .returned (.bool r) ∧ Below w.heap.size w w' := by
  have H := Aside0.mk (Option.some.inj h)
  clear h
  by_cases h0 : a0.toList = []
  · have hb : (a0.toList == ([] : List UInt8)) = true := by rw [h0]; rfl
    have hf := Aside0.mk (show TenN.ok a0 = false by unfold TenN.ok; rw [decide_eq_false (by have := TenN.size_zero h0; omega)]; rfl)
    clear h0
    go_enter Tryz.func62, Tryz.ntmps62
    go_wp2_with fail
    go_ret
    exact ⟨by rw [← H.out, hf.out]; rfl, Below.refl _ _⟩
  · have hb : (a0.toList == ([] : List UInt8)) = false := by simpa using h0
    have hp := TenN.size_pos h0
    clear h0
    by_cases h1 : 32 < a0.size
    · have hf := Aside0.mk (show TenN.ok a0 = false by unfold TenN.ok; rw [decide_eq_false (by omega)]; rfl)
      go_enter Tryz.func62, Tryz.ntmps62
      go_wp2_with fail
      go_ret
      exact ⟨by rw [← H.out, hf.out]; rfl, Below.refl _ _⟩
    · have hf := Aside0.mk (show TenN.ok a0 = TenN.chars a0 a0.size by unfold TenN.ok; rw [decide_eq_true (by omega)]; rfl)
      have hcv := Lib.run_convert_string_bytes (P := Tryz.prog) w 9 53 5 a0 Tryz.underlying9 Tryz.underlying53 Tryz.underlying5
      go_enter Tryz.func62, Tryz.ntmps62
      go_wp2_with fail
      have HC := Aside0.mk (bytes_reads w 5 a0 (by omega))
      have HB2 := Aside0.mk (Joins.below_bytesWorld w.heap.size w 5 a0 (Nat.le_refl _))
      clear hcv hb
      generalize Lib.bytesWorld w 5 a0 = W2 at HC HB2 ⊢
      go_loop [15] (fun i => ∃ k : Nat, k ≤ a0.size ∧ i = .int .i64 k ∧ Aside0 (TenN.chars a0 a0.size = TenN.chars a0 (a0.size - k))) (fun i => a0.size - (intOf i).toNat)
      case atStart => exact ⟨0, by omega, by simp, ⟨rfl⟩⟩
      case round =>
        obtain ⟨k, hk, rfl, HU⟩ := hrel
        obtain hk5 | hk6 : a0.size ≤ k ∨ k < a0.size := by omega
        · obtain rfl : k = a0.size := by omega
          have he := Aside0.mk (show TenN.chars a0 (a0.size - a0.size) = true by rw [Nat.sub_self]; rfl)
          go_wp2
          go_ret
          exact ⟨by rw [← H.out, hf.out, HU.out, he.out]; rfl, HB2.out⟩
        · obtain ⟨ad, e, hcell⟩ := HC.out.at_ (k : Int) (by omega) (by omega)
          obtain rfl : (⟨w.heap.size, 0, none⟩ : Addr) = ad := by injection e
          rw [rd_bytesOf, add_plain, Int.toNat_natCast] at hcell
          clear e
          have hs := TenN.step a0 k hk6
          obtain ⟨c, hc⟩ : ∃ c, c = bt a0 (k : Int) := ⟨_, rfl⟩
          rw [← hc] at hcell hs
          have hcs : (c = 45 ∨ (48 ≤ c ∧ c ≤ 57) ∨ (97 ≤ c ∧ c ≤ 122)) ∨ (c < 45 ∨ (45 < c ∧ c < 48) ∨ (57 < c ∧ c < 97) ∨ 122 < c) := by omega
          have HS := Aside0.mk hs
          clear hs hc
          rcases hcs with hg | hg
          · have ho := Aside0.mk (show TenN.okB c = true from decide_eq_true (by omega))
            rcases hg with h2 | h2 | h2
            all_goals
              go_wp2
              go_round
              case rel => exact ⟨k + 1, by omega, by go_num, ⟨by rw [HU.out, HS.out, ho.out, Bool.true_and]⟩⟩
              case measure => simp [intOf]; omega
          · have ho := Aside0.mk (show TenN.okB c = false from decide_eq_false (by omega))
            have h45 : (c == 45) = false := beq_eq_false_iff_ne.2 (by omega)
            rcases hg with h2 | h2 | h2 | h2
            all_goals
              (try have hd1 : decide (c ≤ 57) = false := decide_eq_false (by omega))
              (try have hd2 : decide (c ≤ 122) = false := decide_eq_false (by omega))
              go_wp2
              go_ret
              exact ⟨by rw [← H.out, hf.out, HU.out, HS.out, ho.out]; rfl, HB2.out⟩
end Go.Proofs.YtikbfjnbhogihaaGreatDoor.M
namespace Go.Proofs.YtikbfjnbhogihaaGreatDoor.M
open Go.RowKit Go.Proofs.YtikbfjnbhogihaaGreatDoorW.PrintWords Go.Proofs.YtikbfjnbhogihaaGreatDoorW.PrintLast Go.Proofs.YtikbfjnbhogihaaGreatDoorW.PrintMore
attribute [local go_sem] max2_int min2_int max_two min_two max_three min_three max_four min_four
set_option linter.unusedVariables false
set_option linter.unusedSimpArgs false
/-! ### laws_toSeriesS: function 150 -/
def laws_toSeriesS.l0 : Nat → List (S225) → List (S93) → Int → Option ((List (S93)))
  | 0, _, _, _ => none
  | k + 1, x0, x3, x4 => if x4 < (x0.length : Int) then (if 0 ≤ x4 then ((laws_toSeries.f ((rd_T225 x0 x4).f0) ((rd_T225 x0 x4).f1)).bind fun bt199 => (if x4 < (x3.length : Int) then (laws_toSeriesS.l0 k x0 (x3.set (x4 : Int).toNat (⟨bt199.1, bt199.2⟩ : S93)) (wrap64 (x4 + 1))) else (none))) else (none)) else (some x3)
def laws_toSeriesS.f (k : Nat) (l0 : List (S225)) : Option ((List (S93))) := if 0 ≤ (l0.length : Int) then (if ((l0.length : Int) : Int).toNat ≤ 11728124029610 then (laws_toSeriesS.l0 k l0 (List.replicate ((l0.length : Int) : Int).toNat z93) 0) else (none)) else (none)
theorem laws_toSeriesS.mono_l : ∀ k, (∀ y0 y1 y2, LeO (laws_toSeriesS.l0 k y0 y1 y2) (laws_toSeriesS.l0 (k + 1) y0 y1 y2))
  | 0 => fun _ _ _ r h => by simp [laws_toSeriesS.l0] at h
  | k + 1 => by
    have ih0 := laws_toSeriesS.mono_l k
    · intro y0 y1 y2
      unfold laws_toSeriesS.l0
      repeat' first
      | (with_reducible exact ih0 _ _ _)
      | (with_reducible exact LeO.refl _)
      | (with_reducible refine LeO.ite ?_ ?_)
      | (with_reducible refine LeO.bind ?_ (fun _ => ?_))
theorem laws_toSeriesS.mono : ∀ a0 k, LeO (laws_toSeriesS.f k a0) (laws_toSeriesS.f (k + 1) a0) := by
  intro a0 k
  have ih0 := laws_toSeriesS.mono_l k
  unfold laws_toSeriesS.f
  repeat' first
      | (with_reducible exact ih0 _ _ _)
      | (with_reducible exact LeO.refl _)
      | (with_reducible refine LeO.ite ?_ ?_)
set_option maxHeartbeats 8000000 in
set_option maxRecDepth 100000 in
theorem laws_toSeriesS.calls (k : Nat) (A0 : Option Addr) (c0 : Nat) (l0 : List (S225)) (r : List (S93)) (w : World) (hr0 : Kd.C k225 w A0 l0.length l0) (hc0 : l0.length ≤ c0) (h : laws_toSeriesS.f k l0 = some r) :
    Calls Tryz.prog 150 #[.slice A0 l0.length c0] w fun e w' => ∃ v0_ : Value, e = .returned (v0_) ∧ Kd.R k93 93 w' w.heap.size (fun _ => True) v0_ r ∧ Below w.heap.size w w' := by
  have HR0 := Aside0.mk hr0
  clear hr0 hc0
  have HB := Aside0.mk (Below.refl w.heap.size w)
  have H : (if 0 ≤ (l0.length : Int) then (if ((l0.length : Int) : Int).toNat ≤ 11728124029610 then (laws_toSeriesS.l0 k l0 (List.replicate ((l0.length : Int) : Int).toNat z93) 0) else (none)) else (none)) = some r := h
  clear h
  by_cases c2 : 0 ≤ (l0.length : Int)
  · rw [if_pos c2] at H
    have c2b1 : decide (0 ≤ (l0.length : Int)) = true := decide_eq_true c2
    clear c2
    by_cases c3 : ((l0.length : Int) : Int).toNat ≤ 11728124029610
    · rw [if_pos c3] at H
      have c3b1 : decide (((l0.length : Int) : Int).toNat ≤ 11728124029610) = true := decide_eq_true c3
      clear c3
      obtain ⟨y195, hy195⟩ : ∃ y_ : List (S93), y_ = (List.replicate ((l0.length : Int) : Int).toNat z93) := ⟨_, rfl⟩
      replace H : (laws_toSeriesS.l0 k l0 y195 0) = some r := by (rw [hy195]; with_reducible exact H)
      have Ny195 := Aside0.mk hy195
      clear hy195
      have H' := Aside0.mk H
      clear H
      go_enter Tryz.func150, Tryz.ntmps150
      go_wp2_with (((with_reducible refine gate_dst (N := 7) rfl ?_); refine Kd.R_make k93 _ 93 rfl (N := 7) rfl 85 _ _ rfl (l0.length : Int) rfl rfl Tryz.underlying85 (.agg #[(.string ⟨#[]⟩), (.int .i64 0)]) 24 info93 rfl (by decide) (by omega) z93 (ok := fun _ => True) (okp := fun _ => True) (k93_mkM _ _ _ z93 ) (fun _ hk => hk) trivial (of_decide_eq_true (by (with_reducible assumption))) (Nat.le_trans (Nat.mul_le_mul_right _ (of_decide_eq_true (by (with_reducible assumption)) : (l0.length : Int).toNat ≤ 11728124029610)) (by omega)) (Below.refl _ _) (Nat.le_refl _) ?_; intro v196 w4 ho5 hb hg_ hnew_; clear hg_ hnew_; (rw [← Ny195.out] at ho5); have n0_ := Aside0.mk (Kd.R_lower ho5 (below_size (by repeat ((with_reducible exact HB.out))))); have n1_ := Aside0.mk (below_step (by repeat ((with_reducible exact HB.out))) hb); clear HB; have HO197 := n0_; have HB := n1_; clear n0_ n1_; clear hb ho5))
      go_loopg [4] k (fun kq v4 w' => ∃ (x3_1 : List (S93)) (x4_1 : Int), v4 = .int .i64 x4_1 ∧ Aside0 (laws_toSeriesS.l0 kq l0 x3_1 x4_1 = some r) ∧ Aside0 (kq ≤ k) ∧ Aside0 (Kd.R k93 93 w' w.heap.size (fun _ => True) v196 x3_1) ∧ Aside0 (Below w.heap.size w w'))
      case atStart => exact ⟨(y195), (0), (by rfl), H', ⟨Nat.le_refl _⟩, ⟨by (with_reducible repeat (first | apply Kd.R_alloc | apply Kd.R_drewN | apply Kd.R_drew)); exact HO197.out⟩, ⟨by repeat ((with_reducible exact HB.out))⟩⟩
      case round =>
        clear H'
        try clear c2b1
        try clear c3b1
        obtain ⟨x3_1, x4_1, rfl, HA, HK1, HO_3, HB⟩ := hrel
        cases gk with
        | zero => exact absurd HA.out (by simp [laws_toSeriesS.l0])
        | succ k1 =>
          have H := HA.out
          clear HA
          simp only [laws_toSeriesS.l0] at H
          by_cases c6 : x4_1 < (l0.length : Int)
          · rw [if_pos c6] at H
            have c6b0 : decide (x4_1 < (l0.length : Int)) = true := decide_eq_true c6
            clear c6
            by_cases c7 : 0 ≤ x4_1
            · rw [if_pos c7] at H
              have c7b0 : decide (0 ≤ x4_1) = true := decide_eq_true c7
              clear c7
              replace H := Option.bind_eq_some_iff.mp H
              obtain ⟨⟨t199, t200⟩, A80, H⟩ := H
              replace H : (if x4_1 < (x3_1.length : Int) then (laws_toSeriesS.l0 k1 l0 (x3_1.set (x4_1 : Int).toNat (⟨t199, t200⟩ : S93)) (wrap64 (x4_1 + 1))) else (none)) = some r := H
              have A8 := Aside0.mk A80
              clear A80
              by_cases c9 : x4_1 < (x3_1.length : Int)
              · rw [if_pos c9] at H
                have c9b0 : decide (x4_1 < (x3_1.length : Int)) = true := decide_eq_true c9
                clear c9
                obtain ⟨y201, hy201⟩ : ∃ y_ : List (S93), y_ = (x3_1.set (x4_1 : Int).toNat (⟨t199, t200⟩ : S93)) := ⟨_, rfl⟩
                replace H : (laws_toSeriesS.l0 k1 l0 y201 (wrap64 (x4_1 + 1))) = some r := by (rw [hy201]; with_reducible exact H)
                have Ny201 := Aside0.mk hy201
                clear hy201
                have H' := Aside0.mk H
                clear H
                have p198 : 0 ≤ (x4_1 : Int) := of_decide_eq_true (by (with_reducible assumption))
                have q198 : x4_1 < (l0.length : Int) := of_decide_eq_true (by (with_reducible assumption))
                obtain ⟨ad198, e198, hx198_0, hx198_1⟩ := at_T225 HR0.out x4_1 p198 q198
                cases e198
                replace hx198_0 := (HB.out.cell (World.block_lt_of_cell? w _ hx198_0)).trans hx198_0
                replace hx198_1 := (HB.out.cell (World.block_lt_of_cell? w _ hx198_1)).trans hx198_1
                replace p198 := eq_true p198
                replace q198 := eq_true q198
                go_wp2_with (first | ((with_reducible refine gate_callee (f := 170) rfl ?_); refine goesL_ (some 20) rfl rfl Tryz.func170 (by kernel_rfl) rfl #[.agg #[.string ((rd_T225 l0 x4_1).f0), .int .i64 ((rd_T225 l0 x4_1).f1)]] rfl (by (try simp only [List.map_toArray, List.map_cons, List.map_nil]); first | done | rfl) ?_; (with_reducible refine (laws_toSeries.calls ((rd_T225 l0 x4_1).f0) ((rd_T225 l0 x4_1).f1) t199 t200 _ A8.out).mono ?_); rintro e w11 ⟨rfl, hb⟩; refine ⟨_, rfl, ?_⟩; have n0_ := Aside0.mk (Kd.R_below (by (with_reducible repeat (first | apply Kd.R_alloc | apply Kd.R_drewN | apply Kd.R_drew)); exact HO_3.out) hb); have n1_ := Aside0.mk (below_step (by repeat ((with_reducible exact HB.out))) hb); clear HO_3; clear HB; have HO_3 := n0_; have HB := n1_; clear n0_ n1_; (try clear hb); have p10 : 0 ≤ (x4_1 : Int) := of_decide_eq_true (by (with_reducible assumption)); have q10 : (x4_1 : Int) < ((x3_1.length : Int) : Int) := of_decide_eq_true (by (with_reducible assumption)); obtain ⟨go10, co10, eo10, gb10, gl10, cl10, HG10⟩ := Kd.R_form HO_3.out (by omega); (cases eo10); have GB10 := Aside0.mk gb10; clear gb10 gl10 HG10; obtain ⟨ce10, hcl10, hM10, hcc10, hfr10⟩ := Kd.R_elem HO_3.out z93 (x4_1 : Int) p10 q10; obtain rfl := k93_openM hM10; have hx10_0 : w11.cell? ⟨go10, (x4_1 : Int).toNat * 2, none⟩ = some (.string ((rd_T93 x3_1 x4_1).f0)) := hcc10 0 _ rfl; have hx10_1 : w11.cell? ⟨go10, (x4_1 : Int).toNat * 2 + 1, none⟩ = some (.int .i64 ((rd_T93 x3_1 x4_1).f1)) := hcc10 1 _ rfl; have hf10_0 : w11.frozen? ⟨go10, (x4_1 : Int).toNat * 2, none⟩ = false := hfr10 0; have hf10_1 : w11.frozen? ⟨go10, (x4_1 : Int).toNat * 2 + 1, none⟩ = false := hfr10 1; clear hcl10 hcc10 hfr10 hM10; replace q10 := eq_true q10; have HX12 := Aside0.mk (show Kd.R k93 93 w11 w.heap.size (fun _ => True) (.slice (some ⟨go10, 0, none⟩) x3_1.length co10) x3_1 from (by (with_reducible repeat (first | apply Kd.R_alloc | apply Kd.R_drewN | apply Kd.R_drew)); exact HO_3.out)); obtain ⟨ce12, hcl12, hM12, hcc12, hfr12⟩ := Kd.R_elem HX12.out z93 (x4_1 : Int) (of_decide_eq_true (by (with_reducible assumption))) (by have h_ : (x4_1 : Int) < ((x3_1.length : Int) : Int) := of_decide_eq_true (by (with_reducible assumption)); exact h_); obtain rfl := k93_openM hM12; have HP12 := Kd.R_seg HX12.out (x4_1 : Int) (of_decide_eq_true (by (with_reducible assumption))) (by have h_ : (x4_1 : Int) < ((x3_1.length : Int) : Int) := of_decide_eq_true (by (with_reducible assumption)); exact h_) (seg := [.string t199, .int .i64 t200]) (j := 0) hcl12 hcc12 (show 2 ≤ 2 from by decide) (x' := (⟨t199, t200⟩ : S93)) (k93_mkM _ _ _ (⟨t199, t200⟩ : S93) ) (fun _ hk => hk); have hx12_0 := hcc12 0 _ rfl; (try simp only [show (k93).sz = 2 from rfl, Nat.mul_one, Nat.add_zero] at hx12_0); have hf12_0 := hfr12 0; (try simp only [show (k93).sz = 2 from rfl, Nat.mul_one, Nat.add_zero] at hf12_0); have hx12_1 := hcc12 1 _ rfl; (try simp only [show (k93).sz = 2 from rfl, Nat.mul_one, Nat.add_zero] at hx12_1); have hf12_1 := hfr12 1; (try simp only [show (k93).sz = 2 from rfl, Nat.mul_one, Nat.add_zero] at hf12_1); clear hcl12 hcc12 hfr12 hM12) | ((with_reducible refine gate_store (t := 93) (p := 21) rfl ?_); refine store_event (t := 93) (p := 21) (v := ?vo_w13) (w1 := ((w11.setCell ⟨go10, (x4_1 : Int).toNat * 2, none⟩ (.string t199)).setCell ⟨go10, (x4_1 : Int).toNat * 2 + 1, none⟩ (.int .i64 t200))) ?hg ?ho ?hn ?hr ?_; (case ho => rfl); (case hg => rfl); (case hn => rfl); (case hr => (go_simp; done)); intro w13 hw; have hp_ : Kd.R k93 93 w13 w.heap.size (fun _ => True) (.slice (some ⟨go10, 0, none⟩) x3_1.length co10) y201 := (by rw [hw, Ny201.out]; exact HP12.1); clear HP12; have n0_ := Aside0.mk (hp_); have n1_ := Aside0.mk ((by rw [hw]; exact below_set (below_set (HB.out) GB10.out) GB10.out : Below w.heap.size w w13)); clear HO_3; clear HB; have HO_3 := n0_; have HB := n1_; clear n0_ n1_; clear hw hp_))
                go_roundg k1
                case measure => have := HK1.out; omega
                case rel => exact ⟨(y201), (wrap64 (x4_1 + 1)), (by rfl), H', ⟨by have := HK1.out; omega⟩, ⟨by (with_reducible repeat (first | apply Kd.R_alloc | apply Kd.R_drewN | apply Kd.R_drew)); exact HO_3.out⟩, ⟨by repeat ((with_reducible exact HB.out))⟩⟩
              · rw [if_neg c9] at H
                exact absurd H (by simp)
            · rw [if_neg c7] at H
              exact absurd H (by simp)
          · rw [if_neg c6] at H
            have c6b0 : decide (x4_1 < (l0.length : Int)) = false := decide_eq_false c6
            clear c6
            obtain rfl := Option.some.inj H
            go_wp2
            go_ret
            exact ⟨_, by rfl, by (with_reducible repeat (first | apply Kd.R_alloc | apply Kd.R_drewN | apply Kd.R_drew)); exact HO_3.out, by repeat ((with_reducible exact HB.out))⟩
    · rw [if_neg c3] at H
      exact absurd H (by simp)
  · rw [if_neg c2] at H
    exact absurd H (by simp)
end Go.Proofs.YtikbfjnbhogihaaGreatDoor.M
/- impl.rising: texts in strictly rising order, by a closure that reads each element's first field. -/
namespace Go.Proofs.YtikbfjnbhogihaaGreatDoor.M
open Go.RowKit Go.Proofs.YtikbfjnbhogihaaGreatDoorW.PrintWords Go.Proofs.YtikbfjnbhogihaaGreatDoorW.PrintLast Go.Proofs.YtikbfjnbhogihaaGreatDoorW.PrintMore
set_option linter.unusedVariables false
set_option linter.unusedSimpArgs false
namespace Rise
def up : List ByteArray → Bool
  | [] => true
  | [_] => true
  | a :: b :: l => Op.bytesLess a.toList b.toList && up (b :: l)
theorem up_short (l : List ByteArray) (h : l.length ≤ 1) : up l = true := by
  match l, h with
  | [], _ => rfl
  | [_], _ => rfl
  | _ :: _ :: _, h => simp at h
theorem up_two (l : List ByteArray) (i : Nat) (h : i + 1 < l.length) : up (l.drop i) = (Op.bytesLess l[i].toList l[i + 1].toList && up (l.drop (i + 1))) := by
  rw [List.drop_eq_getElem_cons (show i < l.length by omega), List.drop_eq_getElem_cons h]
  rfl
theorem le_not (a b : List UInt8) : (Op.bytesLess a b || a == b) = !(Op.bytesLess b a) := by
  cases h : Op.bytesLess b a with
  | true =>
    have h1 : Op.bytesLess a b = false := by
      cases h2 : Op.bytesLess a b with
      | false => rfl
      | true => have := CanSort.less_trans _ _ _ h h2; rw [CanSort.less_irrefl] at this; cases this
    have h3 : (a == b) = false := by
      cases h4 : a == b with
      | false => rfl
      | true => rw [eq_of_beq h4, CanSort.less_irrefl] at h; cases h
    rw [h1, h3]; rfl
  | false =>
    cases h2 : Op.bytesLess a b with
    | true => rfl
    | false => rw [CanSort.less_total a b h2 h, beq_self_eq_true]; rfl
theorem up_step {α : Type} (g : α → ByteArray) (z : α) (l : List α) (i j : Nat) (hij : j = i + 1) (h : j < l.length) : up ((l.map g).drop (j - 1)) = (Op.bytesLess (g (l.getD (i : Int).toNat z)).toList (g (l.getD (j : Int).toNat z)).toList && up ((l.map g).drop j)) := by
  subst hij
  have hi : i < l.length := by omega
  rw [Int.toNat_natCast, Int.toNat_natCast, Nat.add_sub_cancel, up_two (l.map g) i (by rw [List.length_map]; exact h), List.getD_eq_getElem?_getD, List.getD_eq_getElem?_getD, List.getElem?_eq_getElem h, List.getElem?_eq_getElem hi]
  simp
end Rise
set_option maxHeartbeats 1000000 in
theorem Rise.key_Series (s : ByteArray) (v1 : Value) (w : World) :
    Calls Tryz.prog 110 #[.agg #[.string s, v1]] w fun e w' => e = .returned (.string s) ∧ Below w.heap.size w w' := by
  have HB := Aside0.mk ((Below.refl w.heap.size w).alloc (Nat.le_refl _) (.cells #[.string s, v1] 93))
  have hx : (w.alloc (.cells #[.string s, v1] 93)).cell? ⟨w.heap.size, 0, none⟩ = some (.string s) := (blk_cell (blk_new w _) 0).trans rfl
  go_enter Tryz.func110, Tryz.ntmps110
  go_wp2_with fail
  go_ret
  exact ⟨rfl, HB.out⟩
def impl_Series_string.f (l : List S93) : Option Bool := if l.length < 9223372036854775807 then some (Rise.up (l.map (·.f0))) else none
set_option maxHeartbeats 4000000 in
set_option maxRecDepth 100000 in
theorem impl_Series_string.calls (A0 : Option Addr) (c0 : Nat) (l0 : List S93) (r : Bool) (w : World) (hr0 : Kd.C k93 w A0 l0.length l0) (hc0 : l0.length ≤ c0) (h : impl_Series_string.f l0 = some r) :
    Calls Tryz.prog 109 #[.slice A0 l0.length c0, .func (.func 110) #[] #[]] w fun e w' => e = .returned (.bool r) ∧ Below w.heap.size w w' := by
  unfold impl_Series_string.f at h
  by_cases hn : l0.length < 9223372036854775807
  case neg => rw [if_neg hn] at h; cases h
  rw [if_pos hn] at h
  have H := Aside0.mk (Option.some.inj h)
  have HR := Aside0.mk hr0
  clear h hr0
  have HB := Aside0.mk (Below.refl w.heap.size w)
  go_enter Tryz.func109, Tryz.ntmps109
  go_wp2_with fail
  go_loopw [5] (fun i wr => ∃ j : Nat, i = .int .i64 j ∧ 1 ≤ j ∧ Aside0 (Rise.up (l0.map (·.f0)) = Rise.up ((l0.map (·.f0)).drop (j - 1))) ∧ Aside0 (Below w.heap.size w wr)) (fun i _ => l0.length - (intOf i).toNat)
  case atStart => exact ⟨1, rfl, Nat.le_refl _, ⟨rfl⟩, HB⟩
  case round =>
    obtain ⟨j, rfl, h1, HU, HBr⟩ := hrel
    by_cases hlt : j < l0.length
    · obtain ⟨i, hij⟩ : ∃ i, j = i + 1 := ⟨j - 1, by omega⟩
      have hs := Rise.up_step (·.f0) z93 l0 i j hij hlt
      have hi : i < l0.length := by omega
      have hw : IntKind.i64.wrap ((j : Int) - 1) = (i : Int) := (IntWalk.i64_in _ (by omega)).trans (by omega)
      clear hij
      change _ = (Op.bytesLess (rd_T93 l0 (i : Int)).f0.toList (rd_T93 l0 (j : Int)).f0.toList && _) at hs
      obtain ⟨ad, eaa, xa0, xa1⟩ := at_T93 HR.out ((j : Int)) (by omega) (by omega)
      subst eaa
      obtain ⟨ad2, eab, xb0, xb1⟩ := at_T93 HR.out ((i : Int)) (by omega) (by omega)
      obtain rfl := Option.some.inj eab
      obtain ⟨a, ha⟩ : ∃ a, a = rd_T93 l0 (j : Int) := ⟨_, rfl⟩
      obtain ⟨b, hb⟩ : ∃ b, b = rd_T93 l0 (i : Int) := ⟨_, rfl⟩
      rw [← ha] at xa0 xa1
      rw [← hb] at xb0 xb1
      rw [← ha, ← hb] at hs
      clear ha hb
      simp only [Int.toNat_natCast] at xa0 xa1 xb0 xb1
      have HS := Aside0.mk hs
      clear hs
      have hle := Rise.le_not a.f0.toList b.f0.toList
      cases hc : Op.bytesLess b.f0.toList a.f0.toList with
      | true =>
        rw [hc] at hle
        change (Op.bytesLess a.f0.toList b.f0.toList || a.f0.toList == b.f0.toList) = false at hle
        go_wp2_with fail
        have ra0 := (HBr.out.cell (World.block_lt_of_cell? w _ xa0)).trans xa0
        have ra1 := (HBr.out.cell (World.block_lt_of_cell? w _ xa1)).trans xa1
        have rb0 := (HBr.out.cell (World.block_lt_of_cell? w _ xb0)).trans xb0
        have rb1 := (HBr.out.cell (World.block_lt_of_cell? w _ xb1)).trans xb1
        go_region_held3 (fun W' => W'.cell? (ad.add (j * 2)) = some (.string a.f0) ∧ W'.cell? (⟨(ad.add (j * 2)).block, (ad.add (j * 2)).off + 1, none⟩) = some (.int .i64 a.f1) ∧ W'.cell? (ad.add (i * 2)) = some (.string b.f0) ∧ W'.cell? (⟨(ad.add (i * 2)).block, (ad.add (i * 2)).off + 1, none⟩) = some (.int .i64 b.f1))
          (first | exact ⟨ra0, ra1, rb0, rb1⟩ | exact ⟨pa0, pa1, pb0, pb1⟩ | exact ⟨qa0, qa1, qb0, qb1⟩)
          (first | (go_at_call 110; refine (Rise.key_Series _ _ _).mono ?_; rintro e Wa ⟨rfl, hba⟩; have HBa := Aside0.mk (below_step (below_drew1 HBr.out) hba); have pa0 := (HBa.out.cell (World.block_lt_of_cell? w _ xa0)).trans xa0; have pa1 := (HBa.out.cell (World.block_lt_of_cell? w _ xa1)).trans xa1; have pb0 := (HBa.out.cell (World.block_lt_of_cell? w _ xb0)).trans xb0; have pb1 := (HBa.out.cell (World.block_lt_of_cell? w _ xb1)).trans xb1; clear hba HBr)
                 | (go_at_call 110; refine (Rise.key_Series _ _ _).mono ?_; rintro e Wb ⟨rfl, hbb⟩; have HBb := Aside0.mk (below_step HBa.out hbb); have qa0 := (HBb.out.cell (World.block_lt_of_cell? w _ xa0)).trans xa0; have qa1 := (HBb.out.cell (World.block_lt_of_cell? w _ xa1)).trans xa1; have qb0 := (HBb.out.cell (World.block_lt_of_cell? w _ xb0)).trans xb0; have qb1 := (HBb.out.cell (World.block_lt_of_cell? w _ xb1)).trans xb1; clear hbb HBa))
        go_wp2_with fail
        go_roundw
        case rel => exact ⟨j + 1, by go_num, by omega, ⟨by rw [HU.out, HS.out, hc, Bool.true_and, Nat.add_sub_cancel]⟩, HBb⟩
        case measure => simp [intOf]; omega
      | false =>
        rw [hc] at hle
        change (Op.bytesLess a.f0.toList b.f0.toList || a.f0.toList == b.f0.toList) = true at hle
        go_wp2_with fail
        have ra0 := (HBr.out.cell (World.block_lt_of_cell? w _ xa0)).trans xa0
        have ra1 := (HBr.out.cell (World.block_lt_of_cell? w _ xa1)).trans xa1
        have rb0 := (HBr.out.cell (World.block_lt_of_cell? w _ xb0)).trans xb0
        have rb1 := (HBr.out.cell (World.block_lt_of_cell? w _ xb1)).trans xb1
        go_region_held3 (fun W' => W'.cell? (ad.add (j * 2)) = some (.string a.f0) ∧ W'.cell? (⟨(ad.add (j * 2)).block, (ad.add (j * 2)).off + 1, none⟩) = some (.int .i64 a.f1) ∧ W'.cell? (ad.add (i * 2)) = some (.string b.f0) ∧ W'.cell? (⟨(ad.add (i * 2)).block, (ad.add (i * 2)).off + 1, none⟩) = some (.int .i64 b.f1))
          (first | exact ⟨ra0, ra1, rb0, rb1⟩ | exact ⟨pa0, pa1, pb0, pb1⟩ | exact ⟨qa0, qa1, qb0, qb1⟩)
          (first | (go_at_call 110; refine (Rise.key_Series _ _ _).mono ?_; rintro e Wa ⟨rfl, hba⟩; have HBa := Aside0.mk (below_step (below_drew1 HBr.out) hba); have pa0 := (HBa.out.cell (World.block_lt_of_cell? w _ xa0)).trans xa0; have pa1 := (HBa.out.cell (World.block_lt_of_cell? w _ xa1)).trans xa1; have pb0 := (HBa.out.cell (World.block_lt_of_cell? w _ xb0)).trans xb0; have pb1 := (HBa.out.cell (World.block_lt_of_cell? w _ xb1)).trans xb1; clear hba HBr)
                 | (go_at_call 110; refine (Rise.key_Series _ _ _).mono ?_; rintro e Wb ⟨rfl, hbb⟩; have HBb := Aside0.mk (below_step HBa.out hbb); have qa0 := (HBb.out.cell (World.block_lt_of_cell? w _ xa0)).trans xa0; have qa1 := (HBb.out.cell (World.block_lt_of_cell? w _ xa1)).trans xa1; have qb0 := (HBb.out.cell (World.block_lt_of_cell? w _ xb0)).trans xb0; have qb1 := (HBb.out.cell (World.block_lt_of_cell? w _ xb1)).trans xb1; clear hbb HBa))
        go_wp2_with fail
        go_ret
        exact ⟨by rw [← H.out, HU.out, HS.out, hc, Bool.false_and]; rfl, HBb.out⟩
    · have hfin := Aside0.mk (Rise.up_short ((l0.map (·.f0)).drop (j - 1)) (by rw [List.length_drop, List.length_map]; omega))
      go_wp2_with fail
      go_ret
      exact ⟨by rw [← H.out, HU.out, hfin.out]; rfl, HBr.out⟩
set_option maxHeartbeats 1000000 in
theorem Rise.key_MetricLimit (s : ByteArray) (v1 : Value) (w : World) :
    Calls Tryz.prog 108 #[.agg #[.string s, v1]] w fun e w' => e = .returned (.string s) ∧ Below w.heap.size w w' := by
  have HB := Aside0.mk ((Below.refl w.heap.size w).alloc (Nat.le_refl _) (.cells #[.string s, v1] 91))
  have hx : (w.alloc (.cells #[.string s, v1] 91)).cell? ⟨w.heap.size, 0, none⟩ = some (.string s) := (blk_cell (blk_new w _) 0).trans rfl
  go_enter Tryz.func108, Tryz.ntmps108
  go_wp2_with fail
  go_ret
  exact ⟨rfl, HB.out⟩
def impl_MetricLimit_string.f (l : List S91) : Option Bool := if l.length < 9223372036854775807 then some (Rise.up (l.map (·.f0))) else none
set_option maxHeartbeats 4000000 in
set_option maxRecDepth 100000 in
theorem impl_MetricLimit_string.calls (A0 : Option Addr) (c0 : Nat) (l0 : List S91) (r : Bool) (w : World) (hr0 : Kd.C k91 w A0 l0.length l0) (hc0 : l0.length ≤ c0) (h : impl_MetricLimit_string.f l0 = some r) :
    Calls Tryz.prog 107 #[.slice A0 l0.length c0, .func (.func 108) #[] #[]] w fun e w' => e = .returned (.bool r) ∧ Below w.heap.size w w' := by
  unfold impl_MetricLimit_string.f at h
  by_cases hn : l0.length < 9223372036854775807
  case neg => rw [if_neg hn] at h; cases h
  rw [if_pos hn] at h
  have H := Aside0.mk (Option.some.inj h)
  have HR := Aside0.mk hr0
  clear h hr0
  have HB := Aside0.mk (Below.refl w.heap.size w)
  go_enter Tryz.func107, Tryz.ntmps107
  go_wp2_with fail
  go_loopw [5] (fun i wr => ∃ j : Nat, i = .int .i64 j ∧ 1 ≤ j ∧ Aside0 (Rise.up (l0.map (·.f0)) = Rise.up ((l0.map (·.f0)).drop (j - 1))) ∧ Aside0 (Below w.heap.size w wr)) (fun i _ => l0.length - (intOf i).toNat)
  case atStart => exact ⟨1, rfl, Nat.le_refl _, ⟨rfl⟩, HB⟩
  case round =>
    obtain ⟨j, rfl, h1, HU, HBr⟩ := hrel
    by_cases hlt : j < l0.length
    · obtain ⟨i, hij⟩ : ∃ i, j = i + 1 := ⟨j - 1, by omega⟩
      have hs := Rise.up_step (·.f0) z91 l0 i j hij hlt
      have hi : i < l0.length := by omega
      have hw : IntKind.i64.wrap ((j : Int) - 1) = (i : Int) := (IntWalk.i64_in _ (by omega)).trans (by omega)
      clear hij
      change _ = (Op.bytesLess (rd_T91 l0 (i : Int)).f0.toList (rd_T91 l0 (j : Int)).f0.toList && _) at hs
      obtain ⟨ad, eaa, xa0, xa1⟩ := at_T91 HR.out ((j : Int)) (by omega) (by omega)
      subst eaa
      obtain ⟨ad2, eab, xb0, xb1⟩ := at_T91 HR.out ((i : Int)) (by omega) (by omega)
      obtain rfl := Option.some.inj eab
      obtain ⟨a, ha⟩ : ∃ a, a = rd_T91 l0 (j : Int) := ⟨_, rfl⟩
      obtain ⟨b, hb⟩ : ∃ b, b = rd_T91 l0 (i : Int) := ⟨_, rfl⟩
      rw [← ha] at xa0 xa1
      rw [← hb] at xb0 xb1
      rw [← ha, ← hb] at hs
      clear ha hb
      simp only [Int.toNat_natCast] at xa0 xa1 xb0 xb1
      have HS := Aside0.mk hs
      clear hs
      have hle := Rise.le_not a.f0.toList b.f0.toList
      cases hc : Op.bytesLess b.f0.toList a.f0.toList with
      | true =>
        rw [hc] at hle
        change (Op.bytesLess a.f0.toList b.f0.toList || a.f0.toList == b.f0.toList) = false at hle
        go_wp2_with fail
        have ra0 := (HBr.out.cell (World.block_lt_of_cell? w _ xa0)).trans xa0
        have ra1 := (HBr.out.cell (World.block_lt_of_cell? w _ xa1)).trans xa1
        have rb0 := (HBr.out.cell (World.block_lt_of_cell? w _ xb0)).trans xb0
        have rb1 := (HBr.out.cell (World.block_lt_of_cell? w _ xb1)).trans xb1
        go_region_held3 (fun W' => W'.cell? (ad.add (j * 2)) = some (.string a.f0) ∧ W'.cell? (⟨(ad.add (j * 2)).block, (ad.add (j * 2)).off + 1, none⟩) = some (.int .i64 a.f1) ∧ W'.cell? (ad.add (i * 2)) = some (.string b.f0) ∧ W'.cell? (⟨(ad.add (i * 2)).block, (ad.add (i * 2)).off + 1, none⟩) = some (.int .i64 b.f1))
          (first | exact ⟨ra0, ra1, rb0, rb1⟩ | exact ⟨pa0, pa1, pb0, pb1⟩ | exact ⟨qa0, qa1, qb0, qb1⟩)
          (first | (go_at_call 108; refine (Rise.key_MetricLimit _ _ _).mono ?_; rintro e Wa ⟨rfl, hba⟩; have HBa := Aside0.mk (below_step (below_drew1 HBr.out) hba); have pa0 := (HBa.out.cell (World.block_lt_of_cell? w _ xa0)).trans xa0; have pa1 := (HBa.out.cell (World.block_lt_of_cell? w _ xa1)).trans xa1; have pb0 := (HBa.out.cell (World.block_lt_of_cell? w _ xb0)).trans xb0; have pb1 := (HBa.out.cell (World.block_lt_of_cell? w _ xb1)).trans xb1; clear hba HBr)
                 | (go_at_call 108; refine (Rise.key_MetricLimit _ _ _).mono ?_; rintro e Wb ⟨rfl, hbb⟩; have HBb := Aside0.mk (below_step HBa.out hbb); have qa0 := (HBb.out.cell (World.block_lt_of_cell? w _ xa0)).trans xa0; have qa1 := (HBb.out.cell (World.block_lt_of_cell? w _ xa1)).trans xa1; have qb0 := (HBb.out.cell (World.block_lt_of_cell? w _ xb0)).trans xb0; have qb1 := (HBb.out.cell (World.block_lt_of_cell? w _ xb1)).trans xb1; clear hbb HBa))
        go_wp2_with fail
        go_roundw
        case rel => exact ⟨j + 1, by go_num, by omega, ⟨by rw [HU.out, HS.out, hc, Bool.true_and, Nat.add_sub_cancel]⟩, HBb⟩
        case measure => simp [intOf]; omega
      | false =>
        rw [hc] at hle
        change (Op.bytesLess a.f0.toList b.f0.toList || a.f0.toList == b.f0.toList) = true at hle
        go_wp2_with fail
        have ra0 := (HBr.out.cell (World.block_lt_of_cell? w _ xa0)).trans xa0
        have ra1 := (HBr.out.cell (World.block_lt_of_cell? w _ xa1)).trans xa1
        have rb0 := (HBr.out.cell (World.block_lt_of_cell? w _ xb0)).trans xb0
        have rb1 := (HBr.out.cell (World.block_lt_of_cell? w _ xb1)).trans xb1
        go_region_held3 (fun W' => W'.cell? (ad.add (j * 2)) = some (.string a.f0) ∧ W'.cell? (⟨(ad.add (j * 2)).block, (ad.add (j * 2)).off + 1, none⟩) = some (.int .i64 a.f1) ∧ W'.cell? (ad.add (i * 2)) = some (.string b.f0) ∧ W'.cell? (⟨(ad.add (i * 2)).block, (ad.add (i * 2)).off + 1, none⟩) = some (.int .i64 b.f1))
          (first | exact ⟨ra0, ra1, rb0, rb1⟩ | exact ⟨pa0, pa1, pb0, pb1⟩ | exact ⟨qa0, qa1, qb0, qb1⟩)
          (first | (go_at_call 108; refine (Rise.key_MetricLimit _ _ _).mono ?_; rintro e Wa ⟨rfl, hba⟩; have HBa := Aside0.mk (below_step (below_drew1 HBr.out) hba); have pa0 := (HBa.out.cell (World.block_lt_of_cell? w _ xa0)).trans xa0; have pa1 := (HBa.out.cell (World.block_lt_of_cell? w _ xa1)).trans xa1; have pb0 := (HBa.out.cell (World.block_lt_of_cell? w _ xb0)).trans xb0; have pb1 := (HBa.out.cell (World.block_lt_of_cell? w _ xb1)).trans xb1; clear hba HBr)
                 | (go_at_call 108; refine (Rise.key_MetricLimit _ _ _).mono ?_; rintro e Wb ⟨rfl, hbb⟩; have HBb := Aside0.mk (below_step HBa.out hbb); have qa0 := (HBb.out.cell (World.block_lt_of_cell? w _ xa0)).trans xa0; have qa1 := (HBb.out.cell (World.block_lt_of_cell? w _ xa1)).trans xa1; have qb0 := (HBb.out.cell (World.block_lt_of_cell? w _ xb0)).trans xb0; have qb1 := (HBb.out.cell (World.block_lt_of_cell? w _ xb1)).trans xb1; clear hbb HBa))
        go_wp2_with fail
        go_ret
        exact ⟨by rw [← H.out, HU.out, HS.out, hc, Bool.false_and]; rfl, HBb.out⟩
    · have hfin := Aside0.mk (Rise.up_short ((l0.map (·.f0)).drop (j - 1)) (by rw [List.length_drop, List.length_map]; omega))
      go_wp2_with fail
      go_ret
      exact ⟨by rw [← H.out, HU.out, hfin.out]; rfl, HBr.out⟩
set_option maxHeartbeats 1000000 in
theorem Rise.key_Tenant (s : ByteArray) (v1 v2 v3 : Value) (w : World) :
    Calls Tryz.prog 57 #[.agg #[.string s, v1, v2, v3]] w fun e w' => e = .returned (.string s) ∧ Below w.heap.size w w' := by
  have HB := Aside0.mk ((Below.refl w.heap.size w).alloc (Nat.le_refl _) (.cells #[.string s, v1, v2, v3] 87))
  have hx : (w.alloc (.cells #[.string s, v1, v2, v3] 87)).cell? ⟨w.heap.size, 0, none⟩ = some (.string s) := (blk_cell (blk_new w _) 0).trans rfl
  go_enter Tryz.func57, Tryz.ntmps57
  go_wp2_with fail
  go_ret
  exact ⟨rfl, HB.out⟩
def impl_Tenant_string.f (l : List S87) : Option Bool := if l.length < 9223372036854775807 then some (Rise.up (l.map (·.f0))) else none
set_option maxHeartbeats 4000000 in
set_option maxRecDepth 100000 in
theorem impl_Tenant_string.calls (A0 : Option Addr) (c0 : Nat) (l0 : List S87) (r : Bool) (w : World) (hr0 : Kd.C k87 w A0 l0.length l0) (hc0 : l0.length ≤ c0) (h : impl_Tenant_string.f l0 = some r) :
    Calls Tryz.prog 56 #[.slice A0 l0.length c0, .func (.func 57) #[] #[]] w fun e w' => e = .returned (.bool r) ∧ Below w.heap.size w w' := by
  unfold impl_Tenant_string.f at h
  by_cases hn : l0.length < 9223372036854775807
  case neg => rw [if_neg hn] at h; cases h
  rw [if_pos hn] at h
  have H := Aside0.mk (Option.some.inj h)
  have HR := Aside0.mk hr0
  clear h hr0
  have HB := Aside0.mk (Below.refl w.heap.size w)
  go_enter Tryz.func56, Tryz.ntmps56
  go_wp2_with fail
  go_loopw [5] (fun i wr => ∃ j : Nat, i = .int .i64 j ∧ 1 ≤ j ∧ Aside0 (Rise.up (l0.map (·.f0)) = Rise.up ((l0.map (·.f0)).drop (j - 1))) ∧ Aside0 (Below w.heap.size w wr)) (fun i _ => l0.length - (intOf i).toNat)
  case atStart => exact ⟨1, rfl, Nat.le_refl _, ⟨rfl⟩, HB⟩
  case round =>
    obtain ⟨j, rfl, h1, HU, HBr⟩ := hrel
    by_cases hlt : j < l0.length
    · obtain ⟨i, hij⟩ : ∃ i, j = i + 1 := ⟨j - 1, by omega⟩
      have hs := Rise.up_step (·.f0) z87 l0 i j hij hlt
      have hi : i < l0.length := by omega
      have hw : IntKind.i64.wrap ((j : Int) - 1) = (i : Int) := (IntWalk.i64_in _ (by omega)).trans (by omega)
      clear hij
      change _ = (Op.bytesLess (rd_T87 l0 (i : Int)).f0.toList (rd_T87 l0 (j : Int)).f0.toList && _) at hs
      obtain ⟨ad, A2a, c2a, A3a, c3a, eaa, xa0, xa1, xa2, xa3, _, _, _, _⟩ := at_T87 HR.out ((j : Int)) (by omega) (by omega)
      subst eaa
      obtain ⟨ad2, A2b, c2b, A3b, c3b, eab, xb0, xb1, xb2, xb3, _, _, _, _⟩ := at_T87 HR.out ((i : Int)) (by omega) (by omega)
      obtain rfl := Option.some.inj eab
      obtain ⟨a, ha⟩ : ∃ a, a = rd_T87 l0 (j : Int) := ⟨_, rfl⟩
      obtain ⟨b, hb⟩ : ∃ b, b = rd_T87 l0 (i : Int) := ⟨_, rfl⟩
      rw [← ha] at xa0 xa1 xa2 xa3
      rw [← hb] at xb0 xb1 xb2 xb3
      rw [← ha, ← hb] at hs
      clear ha hb
      simp only [Int.toNat_natCast] at xa0 xa1 xa2 xa3 xb0 xb1 xb2 xb3
      have HS := Aside0.mk hs
      clear hs
      have hle := Rise.le_not a.f0.toList b.f0.toList
      cases hc : Op.bytesLess b.f0.toList a.f0.toList with
      | true =>
        rw [hc] at hle
        change (Op.bytesLess a.f0.toList b.f0.toList || a.f0.toList == b.f0.toList) = false at hle
        go_wp2_with fail
        have ra0 := (HBr.out.cell (World.block_lt_of_cell? w _ xa0)).trans xa0
        have ra1 := (HBr.out.cell (World.block_lt_of_cell? w _ xa1)).trans xa1
        have ra2 := (HBr.out.cell (World.block_lt_of_cell? w _ xa2)).trans xa2
        have ra3 := (HBr.out.cell (World.block_lt_of_cell? w _ xa3)).trans xa3
        have rb0 := (HBr.out.cell (World.block_lt_of_cell? w _ xb0)).trans xb0
        have rb1 := (HBr.out.cell (World.block_lt_of_cell? w _ xb1)).trans xb1
        have rb2 := (HBr.out.cell (World.block_lt_of_cell? w _ xb2)).trans xb2
        have rb3 := (HBr.out.cell (World.block_lt_of_cell? w _ xb3)).trans xb3
        go_region_held3 (fun W' => W'.cell? (ad.add (j * 4)) = some (.string a.f0) ∧ W'.cell? (⟨(ad.add (j * 4)).block, (ad.add (j * 4)).off + 1, none⟩) = some (.int .i64 a.f1) ∧ W'.cell? (⟨(ad.add (j * 4)).block, (ad.add (j * 4)).off + 2, none⟩) = some (.slice A2a a.f2.length c2a) ∧ W'.cell? (⟨(ad.add (j * 4)).block, (ad.add (j * 4)).off + 3, none⟩) = some (.slice A3a a.f3.length c3a) ∧ W'.cell? (ad.add (i * 4)) = some (.string b.f0) ∧ W'.cell? (⟨(ad.add (i * 4)).block, (ad.add (i * 4)).off + 1, none⟩) = some (.int .i64 b.f1) ∧ W'.cell? (⟨(ad.add (i * 4)).block, (ad.add (i * 4)).off + 2, none⟩) = some (.slice A2b b.f2.length c2b) ∧ W'.cell? (⟨(ad.add (i * 4)).block, (ad.add (i * 4)).off + 3, none⟩) = some (.slice A3b b.f3.length c3b))
          (first | exact ⟨ra0, ra1, ra2, ra3, rb0, rb1, rb2, rb3⟩ | exact ⟨pa0, pa1, pa2, pa3, pb0, pb1, pb2, pb3⟩ | exact ⟨qa0, qa1, qa2, qa3, qb0, qb1, qb2, qb3⟩)
          (first | (go_at_call 57; refine (Rise.key_Tenant _ _ _ _ _).mono ?_; rintro e Wa ⟨rfl, hba⟩; have HBa := Aside0.mk (below_step (below_drew1 HBr.out) hba); have pa0 := (HBa.out.cell (World.block_lt_of_cell? w _ xa0)).trans xa0; have pa1 := (HBa.out.cell (World.block_lt_of_cell? w _ xa1)).trans xa1; have pa2 := (HBa.out.cell (World.block_lt_of_cell? w _ xa2)).trans xa2; have pa3 := (HBa.out.cell (World.block_lt_of_cell? w _ xa3)).trans xa3; have pb0 := (HBa.out.cell (World.block_lt_of_cell? w _ xb0)).trans xb0; have pb1 := (HBa.out.cell (World.block_lt_of_cell? w _ xb1)).trans xb1; have pb2 := (HBa.out.cell (World.block_lt_of_cell? w _ xb2)).trans xb2; have pb3 := (HBa.out.cell (World.block_lt_of_cell? w _ xb3)).trans xb3; clear hba HBr)
                 | (go_at_call 57; refine (Rise.key_Tenant _ _ _ _ _).mono ?_; rintro e Wb ⟨rfl, hbb⟩; have HBb := Aside0.mk (below_step HBa.out hbb); have qa0 := (HBb.out.cell (World.block_lt_of_cell? w _ xa0)).trans xa0; have qa1 := (HBb.out.cell (World.block_lt_of_cell? w _ xa1)).trans xa1; have qa2 := (HBb.out.cell (World.block_lt_of_cell? w _ xa2)).trans xa2; have qa3 := (HBb.out.cell (World.block_lt_of_cell? w _ xa3)).trans xa3; have qb0 := (HBb.out.cell (World.block_lt_of_cell? w _ xb0)).trans xb0; have qb1 := (HBb.out.cell (World.block_lt_of_cell? w _ xb1)).trans xb1; have qb2 := (HBb.out.cell (World.block_lt_of_cell? w _ xb2)).trans xb2; have qb3 := (HBb.out.cell (World.block_lt_of_cell? w _ xb3)).trans xb3; clear hbb HBa))
        go_wp2_with fail
        go_roundw
        case rel => exact ⟨j + 1, by go_num, by omega, ⟨by rw [HU.out, HS.out, hc, Bool.true_and, Nat.add_sub_cancel]⟩, HBb⟩
        case measure => simp [intOf]; omega
      | false =>
        rw [hc] at hle
        change (Op.bytesLess a.f0.toList b.f0.toList || a.f0.toList == b.f0.toList) = true at hle
        go_wp2_with fail
        have ra0 := (HBr.out.cell (World.block_lt_of_cell? w _ xa0)).trans xa0
        have ra1 := (HBr.out.cell (World.block_lt_of_cell? w _ xa1)).trans xa1
        have ra2 := (HBr.out.cell (World.block_lt_of_cell? w _ xa2)).trans xa2
        have ra3 := (HBr.out.cell (World.block_lt_of_cell? w _ xa3)).trans xa3
        have rb0 := (HBr.out.cell (World.block_lt_of_cell? w _ xb0)).trans xb0
        have rb1 := (HBr.out.cell (World.block_lt_of_cell? w _ xb1)).trans xb1
        have rb2 := (HBr.out.cell (World.block_lt_of_cell? w _ xb2)).trans xb2
        have rb3 := (HBr.out.cell (World.block_lt_of_cell? w _ xb3)).trans xb3
        go_region_held3 (fun W' => W'.cell? (ad.add (j * 4)) = some (.string a.f0) ∧ W'.cell? (⟨(ad.add (j * 4)).block, (ad.add (j * 4)).off + 1, none⟩) = some (.int .i64 a.f1) ∧ W'.cell? (⟨(ad.add (j * 4)).block, (ad.add (j * 4)).off + 2, none⟩) = some (.slice A2a a.f2.length c2a) ∧ W'.cell? (⟨(ad.add (j * 4)).block, (ad.add (j * 4)).off + 3, none⟩) = some (.slice A3a a.f3.length c3a) ∧ W'.cell? (ad.add (i * 4)) = some (.string b.f0) ∧ W'.cell? (⟨(ad.add (i * 4)).block, (ad.add (i * 4)).off + 1, none⟩) = some (.int .i64 b.f1) ∧ W'.cell? (⟨(ad.add (i * 4)).block, (ad.add (i * 4)).off + 2, none⟩) = some (.slice A2b b.f2.length c2b) ∧ W'.cell? (⟨(ad.add (i * 4)).block, (ad.add (i * 4)).off + 3, none⟩) = some (.slice A3b b.f3.length c3b))
          (first | exact ⟨ra0, ra1, ra2, ra3, rb0, rb1, rb2, rb3⟩ | exact ⟨pa0, pa1, pa2, pa3, pb0, pb1, pb2, pb3⟩ | exact ⟨qa0, qa1, qa2, qa3, qb0, qb1, qb2, qb3⟩)
          (first | (go_at_call 57; refine (Rise.key_Tenant _ _ _ _ _).mono ?_; rintro e Wa ⟨rfl, hba⟩; have HBa := Aside0.mk (below_step (below_drew1 HBr.out) hba); have pa0 := (HBa.out.cell (World.block_lt_of_cell? w _ xa0)).trans xa0; have pa1 := (HBa.out.cell (World.block_lt_of_cell? w _ xa1)).trans xa1; have pa2 := (HBa.out.cell (World.block_lt_of_cell? w _ xa2)).trans xa2; have pa3 := (HBa.out.cell (World.block_lt_of_cell? w _ xa3)).trans xa3; have pb0 := (HBa.out.cell (World.block_lt_of_cell? w _ xb0)).trans xb0; have pb1 := (HBa.out.cell (World.block_lt_of_cell? w _ xb1)).trans xb1; have pb2 := (HBa.out.cell (World.block_lt_of_cell? w _ xb2)).trans xb2; have pb3 := (HBa.out.cell (World.block_lt_of_cell? w _ xb3)).trans xb3; clear hba HBr)
                 | (go_at_call 57; refine (Rise.key_Tenant _ _ _ _ _).mono ?_; rintro e Wb ⟨rfl, hbb⟩; have HBb := Aside0.mk (below_step HBa.out hbb); have qa0 := (HBb.out.cell (World.block_lt_of_cell? w _ xa0)).trans xa0; have qa1 := (HBb.out.cell (World.block_lt_of_cell? w _ xa1)).trans xa1; have qa2 := (HBb.out.cell (World.block_lt_of_cell? w _ xa2)).trans xa2; have qa3 := (HBb.out.cell (World.block_lt_of_cell? w _ xa3)).trans xa3; have qb0 := (HBb.out.cell (World.block_lt_of_cell? w _ xb0)).trans xb0; have qb1 := (HBb.out.cell (World.block_lt_of_cell? w _ xb1)).trans xb1; have qb2 := (HBb.out.cell (World.block_lt_of_cell? w _ xb2)).trans xb2; have qb3 := (HBb.out.cell (World.block_lt_of_cell? w _ xb3)).trans xb3; clear hbb HBa))
        go_wp2_with fail
        go_ret
        exact ⟨by rw [← H.out, HU.out, HS.out, hc, Bool.false_and]; rfl, HBb.out⟩
    · have hfin := Aside0.mk (Rise.up_short ((l0.map (·.f0)).drop (j - 1)) (by rw [List.length_drop, List.length_map]; omega))
      go_wp2_with fail
      go_ret
      exact ⟨by rw [← H.out, HU.out, hfin.out]; rfl, HBr.out⟩
end Go.Proofs.YtikbfjnbhogihaaGreatDoor.M
