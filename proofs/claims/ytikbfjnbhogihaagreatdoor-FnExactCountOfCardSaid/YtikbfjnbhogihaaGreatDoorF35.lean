import Derived.Test.YtikbfjnbhogihaaGreatDoorM0
import Derived.Test.YtikbfjnbhogihaaGreatDoorF136
import Derived.Test.YtikbfjnbhogihaaGreatDoorF168
import Derived.Test.YtikbfjnbhogihaaGreatDoorBk
import Derived.Test.YtikbfjnbhogihaaGreatDoorLabLen
import Derived.Test.YtikbfjnbhogihaaGreatDoorXJoin
import Derived.BigQuiet
import Derived.BigRegion
import Derived.Deep.QuietTactic
import Derived.StillTailTactics
import Derived.Deep.RegionHeld3
import Derived.Lib.SliceRun
namespace Go.Proofs.YtikbfjnbhogihaaGreatDoor.M
open Go.RowKit Go.Proofs.YtikbfjnbhogihaaGreatDoorW.PrintWords Go.Proofs.YtikbfjnbhogihaaGreatDoorW.PrintLast Go.Proofs.YtikbfjnbhogihaaGreatDoorW.PrintMore
attribute [local go_sem] max2_int min2_int max_two min_two max_three min_three max_four min_four
set_option linter.unusedVariables false
set_option linter.unusedSimpArgs false
noncomputable section
/-! ### impl_Metric: function 35 -/
def impl_Metric.l0 : Nat → List (S141) → Int → Int → Option (ByteArray)
 | 0, _, _, _ => none
 | k + 1, x12, x13, x14 => if x14 < x13 then (if 0 ≤ x14 then (if x14 < (x12.length : Int) then (if ((rd_T141 x12 x14).f0).toList = ([95, 95, 110, 97, 109, 101, 95, 95] : List UInt8) then (some ((rd_T141 x12 x14).f1)) else (impl_Metric.l0 k x12 x13 (wrap64 (x14 + 1)))) else (none)) else (none)) else (some (⟨#[]⟩ : ByteArray))
def impl_Metric.f (k : Nat) (a0 : ByteArray) : Option (ByteArray) := (impl_DecodeKey.f k a0).bind fun bt394 => (impl_Metric.l0 k bt394.1 (bt394.1.length : Int) 0)
theorem impl_Metric.mono_l : ∀ k, (∀ y0 y1 y2, LeO (impl_Metric.l0 k y0 y1 y2) (impl_Metric.l0 (k + 1) y0 y1 y2))
 | 0 => fun _ _ _ r h => by simp [impl_Metric.l0] at h
 | k + 1 => by
  have ih0 := impl_Metric.mono_l k
  ·intro y0 y1 y2
   unfold impl_Metric.l0
   repeat' first
   | (with_reducible exact ih0 _ _ _)
   | (with_reducible exact LeO.refl _)
   | (with_reducible refine LeO.ite ?_ ?_)
theorem impl_Metric.mono : ∀ a0 k, LeO (impl_Metric.f k a0) (impl_Metric.f (k + 1) a0) := by
 intro a0 k
 have ih0 := impl_Metric.mono_l k
 unfold impl_Metric.f
 repeat' first
   | (with_reducible exact ih0 _ _ _)
   | (with_reducible exact impl_DecodeKey.mono _ _)
   | (with_reducible refine LeO.bind ?_ (fun _ => ?_))
set_option maxHeartbeats 8000000 in
set_option maxRecDepth 100000 in
theorem impl_Metric.calls (k : Nat) (a0 : ByteArray) (r : ByteArray) (w : World) (h : impl_Metric.f k a0 = some r) (hT_ : Tabs w) :
  Calls Tryz.prog 35 #[.string a0] w fun e w' => e = .returned (.string r) ∧ Below w.heap.size w w' := by
 have HT := Aside0.mk hT_
 clear hT_
 have HB := Aside0.mk (Below.refl w.heap.size w)
 have H : ((impl_DecodeKey.f k a0).bind fun bt394 => (impl_Metric.l0 k bt394.1 (bt394.1.length : Int) 0)) = some r := h
 clear h
 replace H := Option.bind_eq_some_iff.mp H
 obtain ⟨⟨t394, t395⟩, A20, H⟩ := H
 replace H : (impl_Metric.l0 k t394 (t394.length : Int) 0) = some r := H
 have A2 := Aside0.mk A20
 clear A20
 have H' := Aside0.mk H
 clear H
 go_enter Tryz.func35, Tryz.ntmps35
 go_wp2_with (((with_reducible refine gate_callee (f := 88) rfl ?_); refine goesL_ (some 9) rfl rfl Tryz.func88 (by kernel_rfl) rfl #[.string a0] rfl (by (try simp only [List.map_toArray, List.map_cons, List.map_nil]); first | done | rfl) ?_; (with_reducible refine (impl_DecodeKey.calls k a0 t394 t395 _ A2.out (Tabs.below HT.out (by repeat ((with_reducible exact HB.out))))).mono ?_); rintro e w3 ⟨v396, rfl, ho0, hb⟩; refine ⟨_, rfl, ?_⟩; have n0_ := Aside0.mk (Kd.R_lower ho0 (below_size (by repeat ((with_reducible exact HB.out))))); have n1_ := Aside0.mk (below_step (by repeat ((with_reducible exact HB.out))) hb); clear HB; have HO397 := n0_; have HB := n1_; clear n0_ n1_; (try clear hb); (try clear ho0); obtain ⟨Ao4, co4, eo4⟩ := Kd.R_slice HO397.out; subst eo4))
 go_loopg [14] k (fun kq v14 w' => ∃ (x14_1 : Int), v14 = .int .i64 x14_1 ∧ Aside0 (impl_Metric.l0 kq t394 (t394.length : Int) x14_1 = some r) ∧ Aside0 (kq ≤ k) ∧ Aside0 (Kd.R k141 141 w' w.heap.size (fun _ => True) (.slice Ao4 t394.length co4) t394) ∧ Aside0 (Below w.heap.size w w'))
 case atStart => exact ⟨(0), (by rfl), H', ⟨Nat.le_refl _⟩, ⟨by (with_reducible repeat (first | apply Kd.R_alloc | apply Kd.R_drewN | apply Kd.R_drew)); exact HO397.out⟩, ⟨by repeat ((with_reducible exact HB.out))⟩⟩
 case round =>
  clear H'
  obtain ⟨x14_1, rfl, HA, HK1, HO_12, HB⟩ := hrel
  cases gk with
  | zero => exact absurd HA.out (by simp [impl_Metric.l0])
  | succ k1 =>
   have H := HA.out
   clear HA
   simp only [impl_Metric.l0] at H
   by_cases c5 : x14_1 < (t394.length : Int)
   ·rw [if_pos c5] at H
    clear c5
    by_cases c6 : 0 ≤ x14_1
    ·rw [if_pos c6] at H
     have c6b0 : decide (0 ≤ x14_1) = true := decide_eq_true c6
     clear c6
     by_cases c7 : x14_1 < (t394.length : Int)
     ·rw [if_pos c7] at H
      have c7b0 : decide (x14_1 < (t394.length : Int)) = true := decide_eq_true c7
      clear c7
      by_cases c8 : ((rd_T141 t394 x14_1).f0).toList = ([95, 95, 110, 97, 109, 101, 95, 95] : List UInt8)
      ·rw [if_pos c8] at H
       have c8b0 : (((rd_T141 t394 x14_1).f0).toList == ([95, 95, 110, 97, 109, 101, 95, 95] : List UInt8)) = true := beq_iff_eq.mpr c8
       clear c8
       obtain rfl := Option.some.inj H
       have p398 : 0 ≤ (x14_1 : Int) := of_decide_eq_true (by (with_reducible assumption))
       have q398 : x14_1 < (t394.length : Int) := of_decide_eq_true (by (with_reducible assumption))
       obtain ⟨ad398, e398, hx398_0, hx398_1⟩ := at_T141 (Kd.R_reads' HO_12.out).2.2 x14_1 p398 q398
       cases e398
       replace p398 := eq_true p398
       replace q398 := eq_true q398
       go_wp2_with (((with_reducible refine gate_dst (N := 6) rfl ?_); refine box_event ?hg (N := 6) ?hd (cs := #[.string (⟨#[]⟩ : ByteArray), .string (⟨#[]⟩ : ByteArray)]) (t := 141) ?hr ?_; (case hd => rfl); (case hg => rfl); (case hr => (go_simp; done)); intro gb399 hg w9 hbox hb; have n1_ := Aside0.mk (below_step (by repeat ((with_reducible exact HB.out))) hb); have n2_ := Aside0.mk (hbox); have n4_ := Aside0.mk ((by rw [hg]; exact (below_size (by repeat ((with_reducible exact HB.out)))) : w.heap.size ≤ gb399)); clear HO_12; clear HB; have HB := n1_; have BK399 := n2_; have GE399 := n4_; clear n1_ n2_ n4_; clear hb hbox hg; have hcz10_0 : w9.cell? ⟨gb399, 0, none⟩ = some (.string (⟨#[]⟩ : ByteArray)) := (blk_cell BK399.out 0).trans rfl; have hcz10_1 : w9.cell? ⟨gb399, 1, none⟩ = some (.string (⟨#[]⟩ : ByteArray)) := (blk_cell BK399.out 1).trans rfl; have hfz10_0 := blk_frozen BK399.out 0; have hfz10_1 := blk_frozen BK399.out 1))
       go_ret
       exact ⟨by rfl, by repeat ((with_reducible first | exact HB.out | refine below_set ?_ GE399.out))⟩
      ·rw [if_neg c8] at H
       have c8b0 : (((rd_T141 t394 x14_1).f0).toList == ([95, 95, 110, 97, 109, 101, 95, 95] : List UInt8)) = false := beq_eq_false_iff_ne.mpr c8
       have H' := Aside0.mk H
       clear H
       have p398 : 0 ≤ (x14_1 : Int) := of_decide_eq_true (by (with_reducible assumption))
       have q398 : x14_1 < (t394.length : Int) := of_decide_eq_true (by (with_reducible assumption))
       obtain ⟨ad398, e398, hx398_0, hx398_1⟩ := at_T141 (Kd.R_reads' HO_12.out).2.2 x14_1 p398 q398
       cases e398
       replace p398 := eq_true p398
       replace q398 := eq_true q398
       go_wp2_with (((with_reducible refine gate_dst (N := 6) rfl ?_); refine box_event ?hg (N := 6) ?hd (cs := #[.string (⟨#[]⟩ : ByteArray), .string (⟨#[]⟩ : ByteArray)]) (t := 141) ?hr ?_; (case hd => rfl); (case hg => rfl); (case hr => (go_simp; done)); intro gb399 hg w11 hbox hb; have n0_ := Aside0.mk (Kd.R_below (Kd.R_elderB (by (with_reducible repeat (first | apply Kd.R_alloc | apply Kd.R_drewN | apply Kd.R_drew)); exact HO_12.out) gb399 (Nat.le_of_eq hg.symm)) hb); have n1_ := Aside0.mk (below_step (by repeat ((with_reducible exact HB.out))) hb); have n2_ := Aside0.mk (hbox); have n4_ := Aside0.mk ((by rw [hg]; exact (below_size (by repeat ((with_reducible exact HB.out)))) : w.heap.size ≤ gb399)); clear HO_12; clear HB; have HO_12 := n0_; have HB := n1_; have BK399 := n2_; have GE399 := n4_; clear n0_ n1_ n2_ n4_; clear hb hbox hg; have hcz12_0 : w11.cell? ⟨gb399, 0, none⟩ = some (.string (⟨#[]⟩ : ByteArray)) := (blk_cell BK399.out 0).trans rfl; have hcz12_1 : w11.cell? ⟨gb399, 1, none⟩ = some (.string (⟨#[]⟩ : ByteArray)) := (blk_cell BK399.out 1).trans rfl; have hfz12_0 := blk_frozen BK399.out 0; have hfz12_1 := blk_frozen BK399.out 1))
       go_roundg k1
       case measure => have := HK1.out; omega
       case rel => exact ⟨(wrap64 (x14_1 + 1)), (by rfl), H', ⟨by have := HK1.out; omega⟩, ⟨by (with_reducible repeat (first | apply Kd.R_alloc | apply Kd.R_drewN | apply Kd.R_drew)); exact Kd.R_mono (Kd.R_far (p := ⟨gb399, 1, none⟩) (Kd.R_far (p := ⟨gb399, 0, none⟩) (Kd.R_mono HO_12.out (fun k_ hk => (⟨hk, hk.2⟩ : _ ∧ k_ ≠ gb399))) (fun _ hk => hk.2) (.string ((rd_T141 t394 x14_1).f0))) (fun _ hk => hk.2) (.string ((rd_T141 t394 x14_1).f1))) (fun _ hk => trivial)⟩, ⟨by repeat ((with_reducible first | exact HB.out | refine below_set ?_ GE399.out))⟩⟩
     ·rw [if_neg c7] at H
      exact absurd H (by simp)
    ·rw [if_neg c6] at H
     exact absurd H (by simp)
   ·rw [if_neg c5] at H
    have c5b0 : decide (x14_1 < (t394.length : Int)) = false := decide_eq_false c5
    clear c5
    obtain rfl := Option.some.inj H
    go_wp2
    go_ret
    exact ⟨by rfl, by repeat ((with_reducible exact HB.out))⟩
end
end Go.Proofs.YtikbfjnbhogihaaGreatDoor.M
/- FnKey, what is plain: the canonical form hangs on the set alone; equal keys, equal lists. UNDER WAY. -/
namespace Go.Proofs.YtikbfjnbhogihaaGreatDoor.KeyLaw
open Go.Proofs.YtikbfjnbhogihaaGreatDoor.M Go.Proofs.YtikbfjnbhogihaaGreatDoor.DecLib Go.Proofs.YtikbfjnbhogihaaGreatDoor.Loops Go.Proofs.YtikbfjnbhogihaaGreatDoor.Can Go.Proofs.YtikbfjnbhogihaaGreatDoor.CanSort Go.Proofs.YtikbfjnbhogihaaGreatDoor.Key Go.Proofs.YtikbfjnbhogihaaGreatDoor.KeyDec Go.Proofs.YtikbfjnbhogihaaGreatDoor.LabLaws Go.Proofs.YtikbfjnbhogihaaGreatDoorW.PrintWords Go.Proofs.YtikbfjnbhogihaaGreatDoorW.PrintLast Go.Proofs.YtikbfjnbhogihaaGreatDoorW.PrintMore Go.RowKit
set_option linter.unusedVariables false
abbrev Lab := S141
theorem text_eq {a b : ByteArray} (h : a.toList = b.toList) : a = b := by
 apply ByteArray.ext
 apply Array.ext'
 rw [ByteArray.toList_eq, ByteArray.toList_eq] at h
 exact h
theorem sm_eq : ∀ x y : List Lab, x.length = y.length → sm x y = true → x = y
 | [], [], _, _ => rfl
 | [], _ :: _, h, _ => by simp at h
 | _ :: _, [], h, _ => by simp at h
 | a :: x, b :: y, h, hs => by
  unfold sm at hs
  by_cases hc : (!((a.f0.toList) == (b.f0.toList)) || (!((a.f1.toList) == (b.f1.toList)))) = true
  ·rw [if_pos hc] at hs; cases hs
  ·rw [if_neg hc] at hs
   have ih := sm_eq x y (by simpa using h) hs
   simp only [Bool.or_eq_true, Bool.not_eq_true', beq_eq_false_iff_ne, ne_eq, not_or, Decidable.not_not] at hc
   have h0 := text_eq hc.1
   have h1 := text_eq hc.2
   cases a; cases b
   simp only at h0 h1
   rw [h0, h1, ih]
theorem sm_refl : ∀ x : List Lab, sm x x = true
 | [] => rfl
 | a :: x => by unfold sm; simp [sm_refl x]
theorem same_iff (x y : List Lab) : same x y = true ↔ x = y := by
 constructor
 ·intro h
  have hl := same_len h
  unfold same at h
  rw [if_pos (by omega)] at h
  exact sm_eq x y hl h
 ·rintro rfl
  unfold same
  rw [if_pos rfl]
  exact sm_refl x
def Ok (l : List Lab) : Prop := ¬ 16 < l.length ∧ (∀ x ∈ l, fault x = 0) ∧ Once l ∧ l.any isMet = true
theorem firstF_all : ∀ (l : List Lab) (i : Nat), (∀ x ∈ l, fault x = 0) → firstF l i = none
 | [], _, _ => rfl
 | x :: l, i, h => by rw [firstF_ok (h x List.mem_cons_self)]; exact firstF_all l _ (fun y hy => h y (List.mem_cons_of_mem _ hy))
theorem firstT_once : ∀ (l b : List Lab), Once (b ++ l) → firstT b l = none
 | [], _, _ => rfl
 | x :: l, b, h => by
  have hx : b.any (named x) = false := by
   rw [List.any_eq_false]
   intro y hy
   unfold Once at h
   have := (List.pairwise_append.1 h).2.2 y hy x List.mem_cons_self
   unfold named
   simpa using this
  rw [firstT_no hx]
  exact firstT_once l (b ++ [x]) (by simpa using h)
theorem ok_can {l : List Lab} (h : Ok l) : can l = (order (l.filter keep), 0, 0) :=
 can_good h.1 (firstF_all l 0 h.2.1) (firstT_once l [] (by simpa using h.2.2.1)) h.2.2.2
theorem can_zero {l : List Lab} (h : (can l).2.1 = 0) : Ok l := by
 by_cases h16 : 16 < l.length
 ·rw [can_many h16] at h; cases h
 ·cases hf : firstF l 0 with
  | some cj =>
   obtain ⟨c, j⟩ := cj
   rw [can_fault h16 hf] at h
   exact absurd h (firstF_some l 0 c j hf)
  | none =>
   cases ht : firstT [] l with
   | some i => rw [can_twice h16 hf ht] at h; cases h
   | none =>
    cases hm : l.any isMet with
    | false => rw [can_none h16 hf ht hm] at h; cases h
    | true => exact ⟨h16, firstF_none l 0 hf, once_all ht, hm⟩
theorem key_bytes {c : List Lab} (h : Ok c) (hc : (can c).1 = c) : key c = B (keyL c) := by
 unfold key
 have h0 : (can c).2.1 = 0 := by rw [ok_can h]
 rw [if_pos h0, if_pos ((same_iff _ _).2 hc)]
 have := wr_list c (Num.bytes 1 (c.length : Int))
 rw [← B_list (wr _ c), this]
 rfl
theorem keyL_ne (c : List Lab) : ¬ (B (keyL c)).toList = [] := by
 rw [Can.size_zero, B_size]
 unfold keyL
 rw [List.length_append, Enc.nL_length]
 omega
theorem ok_good {c : List Lab} (h : Ok c) : KeyDec.Good c := can_ok (by rw [ok_can h])
theorem key_back {c : List Lab} (h : Ok c) (hc : (can c).1 = c) : fin (B (keyL c)) c = (c, true) := by
 unfold fin
 rw [if_neg (keyL_ne c), if_pos (by rw [key_bytes h hc])]
theorem key_inj {c d : List Lab} (hc : Ok c) (hc1 : (can c).1 = c) (hd : Ok d) (hd1 : (can d).1 = d) (e : key c = key d) : c = d := by
 rw [key_bytes hc hc1, key_bytes hd hd1] at e
 have h1 := impl_back c (ok_good hc)
 have h2 := impl_back d (ok_good hd)
 rw [← e] at h2
 have h3 := Ev.det h1 h2
 have h4 := key_back hd hd1
 rw [← e] at h4
 rw [key_back hc hc1, h4] at h3
 exact (Prod.mk.inj h3).1
end Go.Proofs.YtikbfjnbhogihaaGreatDoor.KeyLaw
namespace Go.Proofs.YtikbfjnbhogihaaGreatDoor.M
open Go.RowKit Go.Proofs.YtikbfjnbhogihaaGreatDoorW.PrintWords Go.Proofs.YtikbfjnbhogihaaGreatDoorW.PrintLast Go.Proofs.YtikbfjnbhogihaaGreatDoorW.PrintMore
attribute [local go_sem] max2_int min2_int max_two min_two max_three min_three max_four min_four
set_option linter.unusedVariables false
set_option linter.unusedSimpArgs false
/-! ### impl_idle: function 106 -/
def impl_idle.f (a0_0 : ByteArray) (a0_1 : Int) (l0_2 : List (S91)) (l0_3 : List (S93)) : Option (Bool) := if a0_1 = (-1) then (if (l0_2.length : Int) = 0 then (some ((l0_3.length : Int) == 0)) else (some false)) else (some false)
set_option maxHeartbeats 8000000 in
set_option maxRecDepth 100000 in
theorem impl_idle.calls (a0_0 : ByteArray) (a0_1 : Int) (A0_2 : Option Addr) (c0_2 : Nat) (l0_2 : List (S91)) (A0_3 : Option Addr) (c0_3 : Nat) (l0_3 : List (S93)) (r : Bool) (w : World) (hr0_2 : Kd.C k91 w A0_2 l0_2.length l0_2) (hc0_2 : l0_2.length ≤ c0_2) (hr0_3 : Kd.C k93 w A0_3 l0_3.length l0_3) (hc0_3 : l0_3.length ≤ c0_3) (h : impl_idle.f a0_0 a0_1 l0_2 l0_3 = some r) :
  Calls Tryz.prog 106 #[.agg #[.string a0_0, .int .i64 a0_1, .slice A0_2 l0_2.length c0_2, .slice A0_3 l0_3.length c0_3]] w fun e w' => e = .returned (.bool r) ∧ Below w.heap.size w w' := by
 clear hr0_2 hc0_2
 clear hr0_3 hc0_3
 have HB := Aside0.mk (Below.refl w.heap.size w)
 have H : (if a0_1 = (-1) then (if (l0_2.length : Int) = 0 then (some ((l0_3.length : Int) == 0)) else (some false)) else (some false)) = some r := h
 clear h
 by_cases c2 : a0_1 = (-1)
 ·rw [if_pos c2] at H
  have c2b0 : (a0_1 == (-1)) = true := beq_iff_eq.mpr c2
  clear c2
  by_cases c3 : (l0_2.length : Int) = 0
  ·rw [if_pos c3] at H
   have c3b0 : ((l0_2.length : Int) == 0) = true := beq_iff_eq.mpr c3
   clear c3
   obtain rfl := Option.some.inj H
   go_enter Tryz.func106, Tryz.ntmps106
   go_wp2_with (((with_reducible refine gate_dst (N := 1) rfl ?_); (try (refine gate_guard (by rfl) ?_; dsimp only)); refine box_event ?hg (N := 1) ?hd (cs := #[.string a0_0, .int .i64 a0_1, .slice A0_2 l0_2.length c0_2, .slice A0_3 l0_3.length c0_3]) (t := 87) ?hr ?_; (case hd => rfl); (case hg => rfl); (case hr => (go_simp; done)); intro gb298 hg w4 hbox hb; have n0_ := Aside0.mk (below_step (by repeat ((with_reducible exact HB.out))) hb); have n1_ := Aside0.mk (hbox); clear HB; have HB := n0_; have BK298 := n1_; clear n0_ n1_; clear hb hbox hg; have hcz5_1 : w4.cell? ⟨gb298, 1, none⟩ = some (.int .i64 a0_1) := (blk_cell BK298.out 1).trans rfl; have hcz5_2 : w4.cell? ⟨gb298, 2, none⟩ = some (.slice A0_2 l0_2.length c0_2) := (blk_cell BK298.out 2).trans rfl; have hcz5_3 : w4.cell? ⟨gb298, 3, none⟩ = some (.slice A0_3 l0_3.length c0_3) := (blk_cell BK298.out 3).trans rfl))
   go_ret
   exact ⟨by rfl, by repeat ((with_reducible exact HB.out))⟩
  ·rw [if_neg c3] at H
   have c3b0 : ((l0_2.length : Int) == 0) = false := beq_eq_false_iff_ne.mpr c3
   obtain rfl := Option.some.inj H
   go_enter Tryz.func106, Tryz.ntmps106
   go_wp2_with (((with_reducible refine gate_dst (N := 1) rfl ?_); (try (refine gate_guard (by rfl) ?_; dsimp only)); refine box_event ?hg (N := 1) ?hd (cs := #[.string a0_0, .int .i64 a0_1, .slice A0_2 l0_2.length c0_2, .slice A0_3 l0_3.length c0_3]) (t := 87) ?hr ?_; (case hd => rfl); (case hg => rfl); (case hr => (go_simp; done)); intro gb298 hg w6 hbox hb; have n0_ := Aside0.mk (below_step (by repeat ((with_reducible exact HB.out))) hb); have n1_ := Aside0.mk (hbox); clear HB; have HB := n0_; have BK298 := n1_; clear n0_ n1_; clear hb hbox hg; have hcz7_1 : w6.cell? ⟨gb298, 1, none⟩ = some (.int .i64 a0_1) := (blk_cell BK298.out 1).trans rfl; have hcz7_2 : w6.cell? ⟨gb298, 2, none⟩ = some (.slice A0_2 l0_2.length c0_2) := (blk_cell BK298.out 2).trans rfl))
   go_ret
   exact ⟨by rfl, by repeat ((with_reducible exact HB.out))⟩
 ·rw [if_neg c2] at H
  have c2b0 : (a0_1 == (-1)) = false := beq_eq_false_iff_ne.mpr c2
  obtain rfl := Option.some.inj H
  go_enter Tryz.func106, Tryz.ntmps106
  go_wp2_with (((with_reducible refine gate_dst (N := 1) rfl ?_); (try (refine gate_guard (by rfl) ?_; dsimp only)); refine box_event ?hg (N := 1) ?hd (cs := #[.string a0_0, .int .i64 a0_1, .slice A0_2 l0_2.length c0_2, .slice A0_3 l0_3.length c0_3]) (t := 87) ?hr ?_; (case hd => rfl); (case hg => rfl); (case hr => (go_simp; done)); intro gb298 hg w8 hbox hb; have n0_ := Aside0.mk (below_step (by repeat ((with_reducible exact HB.out))) hb); have n1_ := Aside0.mk (hbox); clear HB; have HB := n0_; have BK298 := n1_; clear n0_ n1_; clear hb hbox hg; have hcz9_1 : w8.cell? ⟨gb298, 1, none⟩ = some (.int .i64 a0_1) := (blk_cell BK298.out 1).trans rfl))
  go_ret
  exact ⟨by rfl, by repeat ((with_reducible exact HB.out))⟩
end Go.Proofs.YtikbfjnbhogihaaGreatDoor.M
/- newAccount, its order of sights, push and pop: walked. -/
namespace Go.Proofs.YtikbfjnbhogihaaGreatDoor.Bk
open Go.RowKit Go.Proofs.YtikbfjnbhogihaaGreatDoor.M Go.Proofs.YtikbfjnbhogihaaGreatDoor.Loops Go.Proofs.YtikbfjnbhogihaaGreatDoorW.PrintWords Go.Proofs.YtikbfjnbhogihaaGreatDoorW.PrintLast Go.Proofs.YtikbfjnbhogihaaGreatDoorW.PrintMore
set_option linter.unusedVariables false
set_option linter.unusedSimpArgs false
set_option maxHeartbeats 2000000 in
set_option maxRecDepth 100000 in
theorem less_c (x y : Sg) (w : World) : Calls Tryz.prog 114 #[.agg #[.string x.f0, .int .i64 x.f1], .agg #[.string y.f0, .int .i64 y.f1]] w fun e w' => e = .returned (.bool (decide (x.f1 < y.f1))) ∧ Below w.heap.size w w' := by
 go_enter Tryz.func114, Tryz.ntmps114
 go_wp2
 go_ret
 exact ⟨rfl, below_alloc (below_alloc (Below.refl _ _) _) _⟩
def A0 (n : Nat) : Ac := ⟨-1, n, n + 1, n + 2, .slice none 0 0, [], [], [], []⟩
theorem new_fp (n i : Nat) (h : fp (n + 3) (A0 n) i) : n ≤ i := by
 rcases h with rfl | rfl | rfl | rfl | h | ⟨x, hx, _⟩
 ·omega
 ·exact Nat.le_refl _
 ·exact Nat.le_succ _
 ·show n ≤ n + 2; omega
 ·simp [A0, Value.ownBlock] at h
 ·cases hx
theorem new_at (w : World) : At ((((w.alloc (.map #[] 0)).alloc (.map #[] 0)).alloc (.map #[] 0)).alloc (cA (-1) w.heap.size (w.heap.size + 1) (w.heap.size + 2) (.slice none 0 0))) w.heap.size (w.heap.size + 3) (A0 w.heap.size) where
 blk := by
  have h := blk_new (((w.alloc (.map #[] 0)).alloc (.map #[] 0)).alloc (.map #[] 0)) (cA (-1) w.heap.size (w.heap.size + 1) (w.heap.size + 2) (.slice none 0 0))
  rwa [show (((w.alloc (.map #[] 0)).alloc (.map #[] 0)).alloc (.map #[] 0)).heap.size = w.heap.size + 3 by simp] at h
 mm := (((Mp.made w Tryz.prog 9).alloc _).alloc _).alloc _
 ms := ((Mp.made' (w.alloc (.map #[] 0)) Tryz.prog 9 (by simp [A0])).alloc _).alloc _
 mc := (Mp.made' ((w.alloc (.map #[] 0)).alloc (.map #[] 0)) Tryz.prog 9 (by simp [A0])).alloc _
 n1 := by show w.heap.size ≠ w.heap.size + 1; omega
 n2 := by show w.heap.size ≠ w.heap.size + 2; omega
 n3 := by show w.heap.size + 1 ≠ w.heap.size + 2; omega
 sx := fun x hx => by cases hx
 nd := List.nodup_nil
 it := Kd.R_nil _ _ _ _ _
 lo := fun i hi => new_fp _ _ hi
set_option maxHeartbeats 2000000 in
set_option maxRecDepth 100000 in
theorem new_c (w : World) : Calls Tryz.prog 66 #[] w fun e w' => e = .returned (ptr (w.heap.size + 3)) ∧ At w' w.heap.size (w.heap.size + 3) (A0 w.heap.size) ∧ Below w.heap.size w w' := by
 have hmm := @run_makeMap Tryz.prog
 have HA := Aside0.mk (new_at w)
 go_enter Tryz.func66, Tryz.ntmps66
 go_wp2
 go_ret
 exact ⟨rfl, HA.out, below_alloc (below_alloc (below_alloc (below_alloc (Below.refl _ _) _) _) _) _⟩
theorem infoSg : (Tryz.prog.info? 169).map (fun i => (i.zero, i.size, i.bytes)) = some (some (.agg #[(.string ⟨#[]⟩), (.int .i64 0)]), 2, 24) := by kernel_rfl
structure Hq (w0 w : World) (a : Nat) (l : Int) (m s c : Nat) (v : Value) (its : List Sg) : Prop where
 blk : w.heap[a]? = some (cA l m s c v)
 row : Kd.R k93 169 w w0.heap.size (fun _ => True) v its
 low : w0.heap.size ≤ a
 bel : Below w0.heap.size w0 w
 ok : Hp.Ok (Hp.fn (·.f1) z93 its) its.length
abbrev cSg (x : Sg) : Obj := .cells #[.string x.f0, .int .i64 x.f1] 169
theorem row_cells {w : World} {L : List (Nat × Obj)} {w1 : World} {g : Nat} {o : Obj} (hg : w1.heap[g]? = some o) (hL : (g, o) ∈ L) (n : Kp.Cls w L) (j : Nat) : n.at_.cell? ⟨g, j, none⟩ = w1.cell? ⟨g, j, none⟩ := by
 have h := n.kp.has _ hL
 unfold World.cell?
 rw [h, hg]
structure Hk (w0 w wr : World) (a : Nat) (l : Int) (m s c : Nat) (v : Value) (n : Nat) (its : List Sg) (x : List Sg) (S : Nat → Prop) : Prop where
 blk : wr.heap[a]? = some (cA l m s c v)
 row : Kd.R k93 169 wr w0.heap.size (fun _ => True) v its
 bel : Below w0.heap.size w0 wr
 len : its.length = n
 perm : its.Perm x
 kep : Kept w wr S
 own : ∀ i, v.ownBlock = some i → S i ∨ w.heap.size ≤ i
theorem Hk.step {w0 w wr wr' : World} {a : Nat} {l : Int} {m s c : Nat} {v : Value} {n : Nat} {its x : List Sg} {S : Nat → Prop} (h : Hk w0 w wr a l m s c v n its x S) (hb : Below wr.heap.size wr wr') : Hk w0 w wr' a l m s c v n its x S :=
 ⟨blk_below h.blk hb, Kd.R_below h.row hb, below_then h.bel h.bel.size hb, h.len, h.perm, h.kep.below hb, h.own⟩
theorem Hk.fin {w0 w wr : World} {a : Nat} {l : Int} {m s c : Nat} {v u : Value} {n : Nat} {q x : List Sg} (h : Hk w0 w wr a l m s c v n q x (fun i => i = a ∨ u.ownBlock = some i)) (hlo : w0.heap.size ≤ a) (ho : Hp.Ok (Hp.fn (·.f1) z93 q) n) :
  ∃ v' its', Hq w0 wr a l m s c v' its' ∧ its'.Perm x ∧ Kept w wr (fun i => i = a ∨ u.ownBlock = some i) ∧ (∀ i, v'.ownBlock = some i → u.ownBlock = some i ∨ w.heap.size ≤ i) :=
 ⟨v, q, ⟨h.blk, h.row, hlo, h.bel, by rw [h.len]; exact ho⟩, h.perm, h.kep, fun i hi => by
  rcases h.own i hi with (rfl | h1) | h1
  ·obtain ⟨cells, hc⟩ := Kd.R_typed h.row i hi
   rw [h.blk] at hc
   cases hc
  ·exact .inl h1
  ·exact .inr h1⟩
theorem getp (l : List Sg) (i n : Nat) (hn : l.length = n) (hi : i < n) {g cp : Nat} {w : World} {b : Nat} (h : Kd.R k93 169 w b (fun _ => True) (.slice (some ⟨g, 0, none⟩) n cp) l) :
  w.cell? ⟨g, i * 2, none⟩ = some (.string (l.getD i z93).f0) ∧ w.cell? ⟨g, i * 2 + 1, none⟩ = some (.int .i64 (l.getD i z93).f1) ∧ w.frozen? ⟨g, i * 2, none⟩ = false ∧ w.frozen? ⟨g, i * 2 + 1, none⟩ = false := by
 obtain ⟨c, hc1, hM, hc, hf⟩ := Kd.R_elem h z93 (i : Int) (by omega) (by omega)
 rw [Int.toNat_natCast] at hc hf hM
 obtain rfl := k93_openM hM
 have h0 := hc 0 _ rfl
 have h1 := hc 1 _ rfl
 exact ⟨h0, h1, hf 0, hf 1⟩
theorem seg2 {w : World} {b g n cp : Nat} {q : List Sg} (h : Kd.R k93 169 w b (fun _ => True) (.slice (some ⟨g, 0, none⟩) n cp) q) (i : Nat) (hi : i < n) (y : Sg) :
  Kd.R k93 169 ((w.setCell ⟨g, i * 2, none⟩ (.string y.f0)).setCell ⟨g, i * 2 + 1, none⟩ (.int .i64 y.f1)) b (fun _ => True) (.slice (some ⟨g, 0, none⟩) n cp) (q.set i y) := by
 obtain ⟨c, e, hM, hc, hf⟩ := Kd.R_elem h z93 (i : Int) (by omega) (by omega)
 have r := (Kd.R_seg h (i : Int) (by omega) (by omega) (c := c) (seg := [.string y.f0, .int .i64 y.f1]) (j := 0) e hc (Nat.le_refl _) (x' := y) (okp := fun _ => False)
  (by rw [List.drop_eq_nil_of_le (by rw [e]; exact Nat.le_refl _)]; exact k93_mkM _ _ _ y) (fun _ hk => hk.elim)).1
 rw [Int.toNat_natCast] at r
 exact r
theorem Hk.swap {w0 w wr : World} {a : Nat} {l : Int} {m s c g cp n : Nat} {q x : List Sg} {S : Nat → Prop} (h : Hk w0 w wr a l m s c (.slice (some ⟨g, 0, none⟩) n cp) n q x S) (i p : Nat) (hi : i < n) (hp : p < n) (xi xp : Sg) (ei : q.getD i z93 = xi) (ep : q.getD p z93 = xp) :
  Hk w0 w ((((wr.setCell ⟨g, i * 2, none⟩ (.string xp.f0)).setCell ⟨g, i * 2 + 1, none⟩ (.int .i64 xp.f1)).setCell ⟨g, p * 2, none⟩ (.string xi.f0)).setCell ⟨g, p * 2 + 1, none⟩ (.int .i64 xi.f1)) a l m s c (.slice (some ⟨g, 0, none⟩) n cp) n (Hp.sw z93 q i p) x S := by
 have hg := h.own g rfl
 have hne : a ≠ g := fun e => by
  obtain ⟨cells, hc⟩ := Kd.R_typed h.row g rfl
  rw [← e, h.blk] at hc
  cases hc
 have hb : w0.heap.size ≤ g := by
  rcases Kd.R_base2 h.row with h1 | ⟨k, h1, h2⟩
  ·cases h1
  ·cases h1; exact h2
 refine ⟨blk_far (blk_far (blk_far (blk_far h.blk hne _) hne _) hne _) hne _, ?_, below_set (below_set (below_set (below_set h.bel hb) hb) hb) hb, (Hp.sw_len _ _ _ _).trans h.len, (Hp.sw_perm _ _ _ _ (by rw [h.len]; exact hi) (by rw [h.len]; exact hp)).trans h.perm, (((h.kep.setCell hg _).setCell hg _).setCell hg _).setCell hg _, h.own⟩
 have r := seg2 (seg2 h.row i hi xp) p hp xi
 unfold Hp.sw
 rw [ei, ep]
 exact r
set_option maxHeartbeats 4000000 in
set_option maxRecDepth 100000 in
theorem push_c (w0 w : World) (a : Nat) (l : Int) (m s c : Nat) (v : Value) (its : List Sg) (x : Sg) (h : Hq w0 w a l m s c v its) (hl : its.length ≤ 4194304) :
  Calls Tryz.prog 154 #[.pointer (some ⟨a, 4, none⟩), .agg #[.string x.f0, .int .i64 x.f1]] w fun e w' => e = .returned (.tuple #[]) ∧ ∃ v' its', Hq w0 w' a l m s c v' its' ∧ its'.Perm (its ++ [x]) ∧
   Kept w w' (fun i => i = a ∨ v.ownBlock = some i) ∧ (∀ i, v'.ownBlock = some i → v.ownBlock = some i ∨ w.heap.size ≤ i) := by
 have hu1 := Tryz.underlying169
 have hu2 := Tryz.underlying116
 have hu3 := Tryz.underlying114
 obtain ⟨A, cp, rfl⟩ := Kd.R_slice h.row
 have HB1 : Aside0 (Below w0.heap.size w0 (w.alloc (cSg x)).drew) := ⟨below_drew (below_alloc h.bel _)⟩
 have HR1 : Aside0 (Kd.R k93 169 (w.alloc (cSg x)).drew w0.heap.size (fun _ => True) (.slice A its.length cp) its) := ⟨Kd.R_drew (Kd.R_alloc h.row _)⟩
 have HK1 : Aside0 ((w.alloc (cSg x)).drew.heap[a]? = some (cA l m s c (.slice A its.length cp))) := ⟨blk_drew (blk_alloc h.blk _)⟩
 have HX1 : Aside0 ((w.alloc (cSg x)).drew.heap[w.heap.size]? = some (cSg x)) := ⟨blk_drew (blk_new w _)⟩
 have HKp : Aside0 (Kept w (w.alloc (cSg x)).drew (fun i => i = a ∨ (Value.slice A its.length cp).ownBlock = some i)) := ⟨((Kept.refl w _).alloc _).drew⟩
 have H1 : Aside0 ((w.alloc (cSg x)).drew.cell? ⟨a, 4, none⟩ = some (.slice A its.length cp) ∧ (w.alloc (cSg x)).drew.cell? ⟨w.heap.size, 0, none⟩ = some (.string x.f0) ∧ (w.alloc (cSg x)).drew.cell? ⟨w.heap.size, 1, none⟩ = some (.int .i64 x.f1)) := ⟨(c6 HK1.out).2.2.2.2.1, c2 HX1.out⟩
 have HO := Aside0.mk h.ok
 have HNe : Aside0 (∀ i, (Value.slice A its.length cp).ownBlock = some i → i < w.heap.size) := ⟨fun i hi => by obtain ⟨cells, hc⟩ := Kd.R_typed h.row i hi; exact blk_lt hc⟩
 have HLo := Aside0.mk h.low
 clear h
 go_enter Tryz.func154, Tryz.ntmps154
 go_wp2
 refine start_ (n := 11) (S := fun w' => w'.cell? ⟨a, 4, none⟩ = some (.slice A its.length cp) ∧ w'.cell? ⟨w.heap.size, 0, none⟩ = some (.string x.f0) ∧ w'.cell? ⟨w.heap.size, 1, none⟩ = some (.int .i64 x.f1)) (ds := [10]) #[false, false, false, false, false, false, false, false, false, false, false] (by kernel_rfl) rfl rfl H1.out (fun hHeld => ?_)
 generalize (w.alloc (cSg x)).drew = w1 at HB1 HR1 HK1 HX1 HKp hHeld ⊢
 refine pu_ 0 (some 6) (h := ?_)
 refine pu_ 1 (some 7) (h := ?_)
 refine pu_ 2 (some 8) (h := ?_)
 refine pu_ 3 (some 9) (h := ?_)
 refine tk_ 4 (some 10) (hy := by rintro w' ⟨s0, s1, s2⟩; go_simp; with_reducible rfl) (hS := hHeld) (h := ?_)
 refine tk_ 5 (some 11) (hy := by rintro w' ⟨s0, s1, s2⟩; go_simp; with_reducible rfl) (hS := hHeld) (h := ?_)
 refine on_ 6 (some 12) (h := fun K hK => ?_)
 refine va_ (h := ?_)
 refine hK.out _ _ ⟨Lib.cell?_alloc_some _ hHeld.1, Lib.cell?_alloc_some _ hHeld.2.1, Lib.cell?_alloc_some _ hHeld.2.2⟩ (fun hHeld => ?_)
 clear hK K
 refine nm_ (some 12) _ (h := ?_)
 refine on_ 7 (some 13) (h := fun K hK => ?_)
 refine Kd.R_append_step k93 w0.heap.size (by rfl) (.tmp 10) (.tmp 12) 111 169 (.agg #[(.string ⟨#[]⟩), (.int .i64 0)]) 24 rfl Tryz.underlying111 infoSg rfl (by decide) (by omega) (.slice A its.length cp) its x [.string x.f0, .int .i64 x.f1] (fun _ => True) (fun _ => False) rfl rfl ?aP (fun _ hk => hk.elim) (fun _ _ => trivial) HR1.out HB1.out ?aS ?aL ?_
 (case aP => exact k93_mkM _ _ _ x)
 (case aS => exact HB1.out.size)
 (case aL => omega)
 obtain ⟨its1, hi1⟩ : ∃ q, q = its ++ [x] := ⟨_, rfl⟩
 rw [← hi1]
 replace hi1 := Aside0.mk hi1
 intro v1 w2 ho hb hg hat
 obtain ⟨g, cp1, rfl, _, _, _⟩ := Kd.R_form ho (by rw [hi1.out]; simp)
 have HBK := Aside0.mk (blk_grown HK1.out hg (Kd.R_ne HR1.out HK1.out (by decide)))
 have hx1 := blk_grown HX1.out hg (fun e => Nat.lt_irrefl _ (HNe.out _ e.symm))
 have c4' := (c6 HBK.out).2.2.2.2.1
 have hf4 := blk_frozen HBK.out 4
 have HR2 := Aside0.mk ho
 have HB2 := Aside0.mk hb
 have HG2 := Aside0.mk hg
 have HA2 := Aside0.mk hat
 clear ho hb hg hat
 refine hK.out _ _ ⟨c4', (c2 hx1).1, (c2 hx1).2⟩ (fun hHeld => ?_)
 clear hK K
 refine nm_ (some 13) _ (h := ?_)
 refine pu_ 8 (some 14) (h := ?_)
 refine pu_ 9 (some 15) (h := ?_)
 refine la_ 10 none (h := fun K hK => ?_)
 refine sk_ (h := ?_)
 refine hK.out _ _ ?_
 clear hK K
 refine done_ (by kernel_rfl) ?_
 have hlen : its1.length = its.length + 1 := by rw [hi1.out]; simp
 obtain ⟨w3, hw3⟩ : ∃ W, w2.setCell ⟨a, 4, none⟩ (.slice (some ⟨g, 0, none⟩) its1.length cp1) = W := ⟨_, rfl⟩
 have HQ : Aside0 (Hk w0 w w3 a l m s c (.slice (some ⟨g, 0, none⟩) its1.length cp1) its1.length its1 (its ++ [x]) (fun i => i = a ∨ (Value.slice A its.length cp).ownBlock = some i)) := ⟨by
  rw [← hw3]
  refine ⟨blk_set HBK.out 4 _, Kd.R_set HR2.out HBK.out (by decide) 4 _, below_set HB2.out HLo.out, rfl, by rw [hi1.out], Kept.setCell (Kept.of_grown HG2.out HKp.out (fun k hk => .inl (.inr hk))) (.inl (.inl rfl)) _, fun i hi => ?_⟩
  rcases HA2.out with h1 | ⟨b, h1, h2⟩
  ·exact .inl (.inr (h1 ▸ hi))
  ·rw [h1] at hi
   obtain rfl := Option.some.inj hi
   exact .inr (Nat.le_trans HKp.out.1 h2)⟩
 have HU : Aside0 (Hp.Up (Hp.fn (·.f1) z93 its1) its1.length its.length) := ⟨by rw [hi1.out, List.length_append]; exact Hp.up_start _ _ its x HO.out⟩
 rw [hw3]
 clear hw3 HBK HR2 HB2 HG2 HA2 HR1 HB1 HK1 HX1 HKp H1 hHeld c4' hf4 hx1 HO
 have c4 := (c6 HQ.out.blk).2.2.2.2.1
 have hn1 : (1 : Int) ≤ (its1.length : Int) := by omega
 have hn2 : (its1.length : Int) ≤ 4194305 := by omega
 have hlen2 := Aside0.mk hlen
 clear hlen
 go_wp2
 clear c4
 go_loopw [4] (fun v4 wr => ∃ (i : Nat) (q : List Sg), v4 = .int .i64 i ∧ Aside0 (i < its1.length) ∧ Aside0 (Hk w0 w wr a l m s c (.slice (some ⟨g, 0, none⟩) its1.length cp1) its1.length q (its ++ [x]) (fun i => i = a ∨ (Value.slice A its.length cp).ownBlock = some i)) ∧ Aside0 (Hp.Up (Hp.fn (·.f1) z93 q) its1.length i)) (fun v4 wr => (intOf v4).toNat)
 case atStart =>
  have e := hlen2.out
  exact ⟨its.length, its1, by rw [show ((its1.length : Int) - 1) = (its.length : Int) by omega], ⟨by omega⟩, HQ, HU⟩
 case round =>
  rename World => wq
  clear HQ HU
  obtain ⟨i, q, rfl, Hi, HQ, HU⟩ := hrel
  have hil := Hi.out
  rcases Nat.eq_zero_or_pos i with rfl | h0
  ·go_wp2
   go_end0
   exact ⟨rfl, HQ.out.fin HLo.out (HU.out.stop (.inl rfl))⟩
  ·obtain ⟨p, hp⟩ : ∃ p, p = (i - 1) / 2 := ⟨_, rfl⟩
   have hpi : p < its1.length := by omega
   have hii : (i : Int) < (its1.length : Int) := by omega
   have hpp : (p : Int) < (its1.length : Int) := by omega
   have e1 : ((i : Int) - 1) / 2 = (p : Int) := by omega
   have hi0 : (0 : Int) < (i : Int) := by omega
   obtain ⟨xi, hxi⟩ : ∃ y, q.getD i z93 = y := ⟨_, rfl⟩
   obtain ⟨xp, hxp⟩ : ∃ y, q.getD p z93 = y := ⟨_, rfl⟩
   obtain ⟨ci0, ci1, fi0, fi1⟩ := getp q i _ HQ.out.len hil HQ.out.row
   obtain ⟨cp0, cp1', fp0, fp1⟩ := getp q p _ HQ.out.len hpi HQ.out.row
   rw [hxi] at ci0 ci1
   rw [hxp] at cp0 cp1'
   have HX := Aside0.mk (And.intro hxi hxp)
   have HP := Aside0.mk hp
   clear hxi hxp hp fi0 fi1 fp0 fp1
   obtain ⟨cells, hrow⟩ := Kd.R_typed HQ.out.row g rfl
   obtain ⟨L, hL⟩ : ∃ L, L = [(a, cA l m s c (.slice (some ⟨g, 0, none⟩) its1.length cp1)), (g, .cells cells 169 (0, 0))] := ⟨_, rfl⟩
   have K : Aside0 (Kp wq wq L) := ⟨Below.refl _ _, fun p hp => by
    rw [hL] at hp
    rcases List.mem_cons.1 hp with rfl | hp
    ·exact HQ.out.blk
    ·obtain rfl := List.mem_singleton.1 hp
     exact hrow⟩
   have hne : Nonempty (Kp.Cls wq L) := ⟨⟨_, K.out⟩⟩
   have y4 : ∀ n : Kp.Cls wq L, n.at_.cell? ⟨a, 4, none⟩ = some (.slice (some ⟨g, 0, none⟩) its1.length cp1) := fun n => (c6 (n.kp.has (a, _) (by rw [hL]; exact List.mem_cons_self))).2.2.2.2.1
   have y5 : ∀ n : Kp.Cls wq L, n.at_.cell? ⟨a, 5, none⟩ = some lessV := fun n => (c6 (n.kp.has (a, _) (by rw [hL]; exact List.mem_cons_self))).2.2.2.2.2
   have hmem : (g, Obj.cells cells 169 (0, 0)) ∈ L := by rw [hL]; exact List.mem_cons_of_mem _ List.mem_cons_self
   have y0 : ∀ n : Kp.Cls wq L, n.at_.cell? ⟨g, i * 2, none⟩ = some (.string xi.f0) := fun n => (row_cells hrow hmem n _).trans ci0
   have y1 : ∀ n : Kp.Cls wq L, n.at_.cell? ⟨g, i * 2 + 1, none⟩ = some (.int .i64 xi.f1) := fun n => (row_cells hrow hmem n _).trans ci1
   have y2 : ∀ n : Kp.Cls wq L, n.at_.cell? ⟨g, p * 2, none⟩ = some (.string xp.f0) := fun n => (row_cells hrow hmem n _).trans cp0
   have y3 : ∀ n : Kp.Cls wq L, n.at_.cell? ⟨g, p * 2 + 1, none⟩ = some (.int .i64 xp.f1) := fun n => (row_cells hrow hmem n _).trans cp1'
   clear hrow hmem ci0 ci1 cp0 cp1' hL
   obtain ⟨b1, hb1⟩ : ∃ b, decide (xi.f1 < xp.f1) = b := ⟨_, rfl⟩
   have hM : ∀ W, Calls Tryz.prog 114 #[.agg #[.string xi.f0, .int .i64 xi.f1], .agg #[.string xp.f0, .int .i64 xp.f1]] W fun e w' => e = .returned (.bool b1) ∧ Below W.heap.size W w' := fun W => hb1 ▸ less_c xi xp W
   replace hb1 := Aside0.mk hb1
   go_wp2
   refine Kp.region (by as_aux_lemma => kernel_rfl) (by as_aux_lemma => kernel_rfl) K.out ?_
   repeat (go_big_quiet_step (first | (go_at_call 114; exact Kp.call _ (hM _))))
   refine wpQuiet_nil ?_
   rintro _ ⟨n, rfl⟩
   have HQ2 := Aside0.mk (HQ.out.step n.kp.bel)
   clear HQ hM
   have HQ := HQ2
   clear HQ2
   cases b1 with
   | false =>
    go_wp2
    refine bodyPost_ret (results_none rfl _ _ _) rfl ?_
    refine ⟨rfl, HQ.out.fin HLo.out (HU.out.stop (.inr ?_))⟩
    have h1 := of_decide_eq_false hb1.out
    rw [← HX.out.1, ← HX.out.2, HP.out] at h1
    exact Int.not_lt.1 h1
   | true =>
   go_wp2
   obtain ⟨ci0, ci1, fi0, fi1⟩ := getp q i _ HQ.out.len hil HQ.out.row
   obtain ⟨cp0, cp1', fp0, fp1⟩ := getp q p _ HQ.out.len hpi HQ.out.row
   have H6 : Aside0 (n.at_.drew.cell? ⟨a, 4, none⟩ = some (.slice (some ⟨g, 0, none⟩) its1.length cp1) ∧ n.at_.drew.cell? ⟨g, i * 2, none⟩ = some (.string xi.f0) ∧ n.at_.drew.cell? ⟨g, i * 2 + 1, none⟩ = some (.int .i64 xi.f1) ∧ n.at_.drew.cell? ⟨g, p * 2, none⟩ = some (.string xp.f0) ∧ n.at_.drew.cell? ⟨g, p * 2 + 1, none⟩ = some (.int .i64 xp.f1)) := ⟨y4 n, y0 n, y1 n, y2 n, y3 n⟩
   replace fi0 : n.at_.drew.frozen? ⟨g, i * 2, none⟩ = false := fi0
   replace fi1 : n.at_.drew.frozen? ⟨g, i * 2 + 1, none⟩ = false := fi1
   replace fp0 : n.at_.drew.frozen? ⟨g, p * 2, none⟩ = false := fp0
   replace fp1 : n.at_.drew.frozen? ⟨g, p * 2 + 1, none⟩ = false := fp1
   have HQ2 : Aside0 (Hk w0 w n.at_.drew a l m s c (.slice (some ⟨g, 0, none⟩) its1.length cp1) its1.length q (its ++ [x]) (fun i => i = a ∨ (Value.slice A its.length cp).ownBlock = some i)) := ⟨HQ.out.step (below_drew (Below.refl _ _))⟩
   clear HQ y0 y1 y2 y3 y4 y5 ci0 ci1 cp0 cp1' hne
   have HQ := HQ2
   clear HQ2
   refine start_ (n := 28) (S := fun w' => w'.cell? ⟨a, 4, none⟩ = some (.slice (some ⟨g, 0, none⟩) its1.length cp1) ∧ w'.cell? ⟨g, i * 2, none⟩ = some (.string xi.f0) ∧ w'.cell? ⟨g, i * 2 + 1, none⟩ = some (.int .i64 xi.f1) ∧ w'.cell? ⟨g, p * 2, none⟩ = some (.string xp.f0) ∧ w'.cell? ⟨g, p * 2 + 1, none⟩ = some (.int .i64 xp.f1)) (ds := [25, 27]) #[false, false, false, false, false, false, false, false, false, false, false, false, false, false, false, false, false, false, false, false, false, false, false, false, false, false, false, false] (by kernel_rfl) rfl rfl H6.out (fun hHeld => ?_)
   generalize n.at_.drew = w6 at HQ fi0 fi1 fp0 fp1 hHeld ⊢
   refine pu_ 0 (some 47) (h := ?_)
   refine pu_ 1 (some 48) (h := ?_)
   refine pu_ 2 (some 49) (h := ?_)
   refine tk_ 3 (some 50) (hy := by rintro w' ⟨s0, s1, s2, s3, s4⟩; go_simp; with_reducible rfl) (hS := hHeld) (h := ?_)
   refine pu_ 4 (some 51) (h := ?_)
   refine pu_ 5 (some 52) (h := ?_)
   refine pu_ 6 (some 53) (h := ?_)
   refine pu_ 7 (some 54) (h := ?_)
   refine tk_ 8 (some 55) (hy := by rintro w' ⟨s0, s1, s2, s3, s4⟩; go_simp; with_reducible rfl) (hS := hHeld) (h := ?_)
   refine pu_ 9 (some 56) (h := ?_)
   refine pu_ 10 (some 57) (h := ?_)
   refine pu_ 11 (some 58) (h := ?_)
   refine pu_ 12 (some 59) (h := ?_)
   refine tk_ 13 (some 60) (hy := by rintro w' ⟨s0, s1, s2, s3, s4⟩; go_simp; with_reducible rfl) (hS := hHeld) (h := ?_)
   refine pu_ 14 (some 61) (h := ?_)
   refine pu_ 15 (some 62) (h := ?_)
   refine tk_ 16 (some 63) (hy := by rintro w' ⟨s0, s1, s2, s3, s4⟩; go_simp; with_reducible rfl) (hS := hHeld) (h := ?_)
   refine pu_ 17 (some 64) (h := ?_)
   refine pu_ 18 (some 65) (h := ?_)
   refine pu_ 19 (some 66) (h := ?_)
   refine tk_ 20 (some 67) (hy := by rintro w' ⟨s0, s1, s2, s3, s4⟩; go_simp; with_reducible rfl) (hS := hHeld) (h := ?_)
   refine pu_ 21 (some 68) (h := ?_)
   refine pu_ 22 (some 69) (h := ?_)
   refine tk_ 23 (some 70) (hy := by rintro w' ⟨s0, s1, s2, s3, s4⟩; go_simp; with_reducible rfl) (hS := hHeld) (h := ?_)
   refine pu_ 24 (some 71) (h := ?_)
   refine la_ 25 none (h := fun K hK => ?_)
   refine sk_ (h := ?_)
   refine hK.out _ _ ?_
   clear hK K
   refine pu_ 26 (some 72) (h := ?_)
   refine la_ 27 none (h := fun K hK => ?_)
   refine sk_ (h := ?_)
   refine hK.out _ _ ?_
   clear hK K
   refine done_ (by kernel_rfl) ?_
   go_wp2
   go_roundw
   case rel =>
    refine ⟨p, Hp.sw z93 q i p, by rw [e1], ⟨hpi⟩, ⟨HQ.out.swap i p hil hpi xi xp HX.out.1 HX.out.2⟩, ⟨?_⟩⟩
    have h1 := of_decide_eq_true hb1.out
    rw [← HX.out.1, ← HX.out.2, HP.out] at h1
    rw [HP.out]
    exact Hp.up_step _ _ q _ i HQ.out.len HU.out (by omega) hil h1
   case measure => simp only [intOf]; omega
end Go.Proofs.YtikbfjnbhogihaaGreatDoor.Bk
