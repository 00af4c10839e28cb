import Derived.Test.YtikbfjnbhogihaaGreatDoorM0
import Derived.Test.YtikbfjnbhogihaaGreatDoorSShelf
import Derived.Test.YtikbfjnbhogihaaGreatDoorF93
import Derived.Test.YtikbfjnbhogihaaGreatDoorF157
import Derived.Test.YtikbfjnbhogihaaGreatDoorXSpCanon
import Derived.Test.YtikbfjnbhogihaaGreatDoorCanImp
import Derived.Test.YtikbfjnbhogihaaGreatDoorCan
import Derived.Test.YtikbfjnbhogihaaGreatDoorMkSS
import Derived.Test.YtikbfjnbhogihaaGreatDoorMkT
import Derived.Test.YtikbfjnbhogihaaGreatDoorXSrcNum
import Derived.Test.YtikbfjnbhogihaaGreatDoorMp
namespace Go.Proofs.YtikbfjnbhogihaaGreatDoor.M
open Go.RowKit Go.Proofs.YtikbfjnbhogihaaGreatDoorW.PrintWords Go.Proofs.YtikbfjnbhogihaaGreatDoorW.PrintLast Go.Proofs.YtikbfjnbhogihaaGreatDoorW.PrintMore
attribute [local go_sem] max2_int min2_int max_two min_two max_three min_three max_four min_four
set_option linter.unusedVariables false
set_option linter.unusedSimpArgs false
noncomputable section
/-! ### spec_EncodeKey: function 38 -/
mutual
def spec_EncodeKey.j0 : Nat → List (S141) → Bool → Option (ByteArray)
 | 0, _, _ => none
 | k + 1, x0, x22 => if x22 = true then (some (⟨#[]⟩ : ByteArray)) else ((spec_l2Num.f k 1 (x0.length : Int)).bind fun t145 => (spec_EncodeKey.l0 k t145 x0 (x0.length : Int) 0))
def spec_EncodeKey.l0 : Nat → ByteArray → List (S141) → Int → Int → Option (ByteArray)
 | 0, _, _, _, _ => none
 | k + 1, x6, x26, x27, x28 => if x28 < x27 then (if 0 ≤ x28 then (if x28 < (x26.length : Int) then ((spec_l2S8.f k ((rd_T141 x26 x28).f0)).bind fun t148 => ((spec_l2S16.f k ((rd_T141 x26 x28).f1)).bind fun t149 => (if t148.size + t149.size ≤ 9223372036854775807 then (if x6.size + (t148 ++ t149).size ≤ 9223372036854775807 then (spec_EncodeKey.l0 k (x6 ++ (t148 ++ t149)) x26 x27 (wrap64 (x28 + 1))) else (none)) else (none)))) else (none)) else (none)) else (some x6)
end
def spec_EncodeKey.f (k : Nat) (l0 : List (S141)) : Option (ByteArray) := (spec_Canon.f l0).bind fun bt139 => (if bt139.2.1 = 0 then ((spec_l3Same.f k bt139.1 l0).bind fun t144 => (spec_EncodeKey.j0 k l0 (!t144))) else (spec_EncodeKey.j0 k l0 true))
def spec_EncodeKey.T8 : Bool × List (List Nat × List Nat) := (true, [([], []), ([], []), ([1], [1]), ([2], [2]), ([], []), ([4], [4]), ([5, 3], [5]), ([3, 6], [3, 6]), ([0, 7], [0, 7]), ([8, 6, 0, 1, 2, 3, 4, 5, 6, 7, 8], [0, 8])])
def spec_EncodeKey.B8 : List Nat := [0, 0, 2, 6, 0, 16, 62, 126, 255, 511]
theorem spec_EncodeKey.tab8 : rtab .any (opsOf Tryz.f38 8) = spec_EncodeKey.T8 := by kernel_rfl
theorem spec_EncodeKey.bits8 : waitsOk spec_EncodeKey.T8.2 spec_EncodeKey.B8 = true := by kernel_rfl
set_option maxHeartbeats 8000000 in
set_option maxRecDepth 100000 in
theorem spec_EncodeKey.calls (k : Nat) (A0 : Option Addr) (c0 : Nat) (l0 : List (S141)) (r : ByteArray) (w : World) (hr0 : Kd.C k141 w A0 l0.length l0) (hc0 : l0.length ≤ c0) (h : spec_EncodeKey.f k l0 = some r) :
  Calls Tryz.prog 38 #[.slice A0 l0.length c0] w fun e w' => e = .returned (.string r) ∧ Below w.heap.size w w' := by
 have HR0 := Aside0.mk hr0
 have HC0 := Aside0.mk hc0
 clear hr0 hc0
 have HB := Aside0.mk (Below.refl w.heap.size w)
 have H : ((spec_Canon.f l0).bind fun bt139 => (if bt139.2.1 = 0 then ((spec_l3Same.f k bt139.1 l0).bind fun t144 => (spec_EncodeKey.j0 k l0 (!t144))) else (spec_EncodeKey.j0 k l0 true))) = some r := h
 clear h
 replace H := Option.bind_eq_some_iff.mp H
 obtain ⟨⟨t139, t140, t141⟩, A20, H⟩ := H
 replace H : (if t140 = 0 then ((spec_l3Same.f k t139 l0).bind fun t144 => (spec_EncodeKey.j0 k l0 (!t144))) else (spec_EncodeKey.j0 k l0 true)) = some r := H
 have A2 := Aside0.mk A20
 clear A20
 have HC3 := Aside0.mk H
 clear H
 go_enter Tryz.func38, Tryz.ntmps38
 go_upto_region 2 with (((with_reducible refine gate_callee (f := 37) rfl ?_); refine goesL_ (some 11) rfl rfl Tryz.func37 (by kernel_rfl) rfl #[.slice A0 l0.length c0] rfl (by (try simp only [List.map_toArray, List.map_cons, List.map_nil]); first | done | rfl) ?_; (with_reducible refine (spec_Canon.calls _ _ l0 t139 t140 t141 _ ?side1 ?side2 A2.out).mono ?_); (case side1 => repeat (exact HR0.out)); (case side2 => exact HC0.out); rintro e w4 ⟨v142, rfl, ho0, hb⟩; refine ⟨_, rfl, ?_⟩; have n0_ := Aside0.mk (Kd.R_lower ho0 (below_size (by repeat ((with_reducible exact HB.out))))); have n1_ := Aside0.mk (below_step (by repeat ((with_reducible exact HB.out))) hb); clear HB; have HO143 := n0_; have HB := n1_; clear n0_ n1_; (try clear hb); (try clear ho0)))
 go_cut [22] (fun v22 wc => ∃ (kq : Nat) (x22_2 : Bool), v22 = .bool x22_2 ∧ Aside0 (spec_EncodeKey.j0 kq l0 x22_2 = some r) ∧ Aside0 (kq ≤ k) ∧ Aside0 (Below w.heap.size w wc))
 case first =>
  have H := HC3.out
  clear HC3
  by_cases c5 : t140 = 0
  ·rw [if_pos c5] at H
   have c5b0 : (t140 == 0) = true := beq_iff_eq.mpr c5
   have c5b1 : (t140 != 0) = false := bne_eq_false_iff_eq.mpr c5
   clear c5
   (first | rw [c5b0] | (simp only [i64_w, i32_w]; rw [c5b0]) | skip)
   replace H := Option.bind_eq_some_iff.mp H
   obtain ⟨t144, A60, H⟩ := H
   replace H : (spec_EncodeKey.j0 k l0 (!t144)) = some r := H
   have A6 := Aside0.mk A60
   clear A60
   have H' := Aside0.mk H
   clear H
   obtain ⟨Ao7, co7, eo7⟩ := Kd.R_slice HO143.out
   subst eo7
   go_wp2_with ((go_at_call 93; (with_reducible refine (spec_l3Same.calls k _ _ t139 _ _ l0 t144 _ ?side1 ?side2 ?side3 ?side4 A6.out).mono ?_); (case side1 => repeat (exact (Kd.R_reads' HO143.out).2.2)); (case side2 => exact (Kd.R_reads' HO143.out).2.1); (case side3 => repeat (exact (Kd.C_below HR0.out HB.out))); (case side4 => exact HC0.out); rintro e w' ⟨rfl, ⟨nd, rfl⟩⟩))
   go_meet
   case rel => exact ⟨_, (!t144), (by rfl), H', ⟨by omega⟩, ⟨by repeat ((with_reducible first | exact HB.out | apply pw_below_drewN))⟩⟩
  ·rw [if_neg c5] at H
   have c5b0 : (t140 == 0) = false := beq_eq_false_iff_ne.mpr c5
   have c5b1 : (t140 != 0) = true := bne_iff_ne.mpr c5
   (first | rw [c5b0] | (simp only [i64_w, i32_w]; rw [c5b0]) | skip)
   have H' := Aside0.mk H
   clear H
   go_wp2
   go_meet
   case rel => exact ⟨_, (true), (by rfl), H', ⟨by omega⟩, ⟨by repeat ((with_reducible exact HB.out))⟩⟩
 case rest =>
  clear HC3
  obtain ⟨kq, x22_2, rfl, HA, HJ2, HB⟩ := hcut
  cases kq with
  | zero => exact absurd HA.out (by simp [spec_EncodeKey.j0])
  | succ kj2 =>
   have H := HA.out
   clear HA
   simp only [spec_EncodeKey.j0] at H
   by_cases c8 : x22_2 = true
   ·subst c8
    have H1 : (some (⟨#[]⟩ : ByteArray)) = some r := by rw [if_pos rfl] at H; exact H
    clear H
    have H := H1
    clear H1
    obtain rfl := Option.some.inj H
    go_wp2
    go_ret
    exact ⟨by rfl, by repeat ((with_reducible exact HB.out))⟩
   ·replace c8 := Bool.eq_false_iff.mpr c8
    subst c8
    have H1 : ((spec_l2Num.f kj2 1 (l0.length : Int)).bind fun t145 => (spec_EncodeKey.l0 kj2 t145 l0 (l0.length : Int) 0)) = some r := by rw [if_neg (show ¬ (false = true) by decide)] at H; exact H
    clear H
    have H := H1
    clear H1
    replace H := Option.bind_eq_some_iff.mp H
    obtain ⟨t145, A90, H⟩ := H
    replace H : (spec_EncodeKey.l0 kj2 t145 l0 (l0.length : Int) 0) = some r := H
    have A9 := Aside0.mk A90
    clear A90
    have H' := Aside0.mk H
    clear H
    go_wp2_with (((with_reducible refine gate_callee (f := 94) rfl ?_); refine goesL_ (some 25) rfl rfl Tryz.func94 (by kernel_rfl) rfl #[.int .i64 1, .int .i64 (l0.length : Int)] rfl (by (try simp only [List.map_toArray, List.map_cons, List.map_nil]); first | done | rfl) ?_; (with_reducible refine (spec_l2Num.calls kj2 1 (l0.length : Int) t145 _ A9.out).mono ?_); rintro e w10 ⟨rfl, hb⟩; refine ⟨_, rfl, ?_⟩; have n0_ := Aside0.mk (below_step (by repeat ((with_reducible exact HB.out))) hb); clear HB; have HB := n0_; clear n0_; (try clear hb)))
    go_loopg [6, 28] kj2 (fun kq v6 v28 w' => ∃ (x6_2 : ByteArray) (x28_2 : Int), v6 = .string x6_2 ∧ v28 = .int .i64 x28_2 ∧ Aside0 (spec_EncodeKey.l0 kq x6_2 l0 (l0.length : Int) x28_2 = some r) ∧ Aside0 (kq ≤ kj2) ∧ Aside0 (Below w.heap.size w w'))
    case atStart => exact ⟨(t145), (0), (by rfl), (by rfl), H', ⟨Nat.le_refl _⟩, ⟨by repeat ((with_reducible exact HB.out))⟩⟩
    case round =>
     clear H'
     obtain ⟨x6_2, x28_2, rfl, rfl, HA, HK2, HB⟩ := hrel
     cases gk with
     | zero => exact absurd HA.out (by simp [spec_EncodeKey.l0])
     | succ k2 =>
      have H := HA.out
      clear HA
      simp only [spec_EncodeKey.l0] at H
      by_cases c11 : x28_2 < (l0.length : Int)
      ·rw [if_pos c11] at H
       clear c11
       by_cases c12 : 0 ≤ x28_2
       ·rw [if_pos c12] at H
        have c12b0 : decide (0 ≤ x28_2) = true := decide_eq_true c12
        clear c12
        by_cases c13 : x28_2 < (l0.length : Int)
        ·rw [if_pos c13] at H
         have c13b0 : decide (x28_2 < (l0.length : Int)) = true := decide_eq_true c13
         clear c13
         replace H := Option.bind_eq_some_iff.mp H
         obtain ⟨t148, A140, H⟩ := H
         replace H : ((spec_l2S16.f k2 ((rd_T141 l0 x28_2).f1)).bind fun t149 => (if t148.size + t149.size ≤ 9223372036854775807 then (if x6_2.size + (t148 ++ t149).size ≤ 9223372036854775807 then (spec_EncodeKey.l0 k2 (x6_2 ++ (t148 ++ t149)) l0 (l0.length : Int) (wrap64 (x28_2 + 1))) else (none)) else (none))) = some r := H
         have A14 := Aside0.mk A140
         clear A140
         replace H := Option.bind_eq_some_iff.mp H
         obtain ⟨t149, A150, H⟩ := H
         replace H : (if t148.size + t149.size ≤ 9223372036854775807 then (if x6_2.size + (t148 ++ t149).size ≤ 9223372036854775807 then (spec_EncodeKey.l0 k2 (x6_2 ++ (t148 ++ t149)) l0 (l0.length : Int) (wrap64 (x28_2 + 1))) else (none)) else (none)) = some r := H
         have A15 := Aside0.mk A150
         clear A150
         by_cases c16 : t148.size + t149.size ≤ 9223372036854775807
         ·rw [if_pos c16] at H
          try have c16b2 : (9223372036854775807 < t148.size + t149.size) = False := eq_false (Nat.not_lt.2 c16)
          by_cases c17 : x6_2.size + (t148 ++ t149).size ≤ 9223372036854775807
          ·rw [if_pos c17] at H
           try have c17b3 : (9223372036854775807 < x6_2.size + (t148.size + t149.size)) = False := eq_false (by have h_ := c17; rw [ByteArray.size_append] at h_; exact Nat.not_lt.2 h_)
           have H' := Aside0.mk H
           clear H
           have p146 : 0 ≤ (x28_2 : Int) := of_decide_eq_true (by (with_reducible assumption))
           have q146 : x28_2 < (l0.length : Int) := of_decide_eq_true (by (with_reducible assumption))
           obtain ⟨ad146, e146, hx146_0, hx146_1⟩ := at_T141 HR0.out x28_2 p146 q146
           cases e146
           replace hx146_0 := (HB.out.cell (World.block_lt_of_cell? w _ hx146_0)).trans hx146_0
           replace hx146_1 := (HB.out.cell (World.block_lt_of_cell? w _ hx146_1)).trans hx146_1
           replace p146 := eq_true p146
           replace q146 := eq_true q146
           try go_wp2_with (((with_reducible refine gate_dst (N := 8) rfl ?_); refine box_event ?hg (N := 8) ?hd (cs := #[.string (⟨#[]⟩ : ByteArray), .string (⟨#[]⟩ : ByteArray)]) (t := 141) ?hr ?_; (case hd => rfl); (case hg => rfl); (case hr => (go_simp; done)); intro gb147 hg w18 hbox hb; have n0_ := Aside0.mk (below_step (by repeat ((with_reducible exact HB.out))) hb); have n1_ := Aside0.mk (hbox); have n3_ := Aside0.mk ((by rw [hg]; exact (below_size (by repeat ((with_reducible exact HB.out)))) : w.heap.size ≤ gb147)); clear HB; have HB := n0_; have BK147 := n1_; have GE147 := n3_; clear n0_ n1_ n3_; clear hb hbox hg; have hcz19_0 : w18.cell? ⟨gb147, 0, none⟩ = some (.string (⟨#[]⟩ : ByteArray)) := (blk_cell BK147.out 0).trans rfl; have hcz19_1 : w18.cell? ⟨gb147, 1, none⟩ = some (.string (⟨#[]⟩ : ByteArray)) := (blk_cell BK147.out 1).trans rfl; have hfz19_0 := blk_frozen BK147.out 0; have hfz19_1 := blk_frozen BK147.out 1))
           have n0_ : Aside0 (((w18.setCell ⟨gb147, 0, none⟩ (.string ((rd_T141 l0 x28_2).f0))).setCell ⟨gb147, 1, none⟩ (.string ((rd_T141 l0 x28_2).f1))).heap[gb147]? = some (.cells #[.string ((rd_T141 l0 x28_2).f0), .string ((rd_T141 l0 x28_2).f1)] 141 (0, 0))) := ⟨by (with_reducible repeat (first | refine blk_drewN ?_ _ | refine blk_drew ?_ | refine blk_alloc ?_ _)); refine blk_put (cs := #[.string ((rd_T141 l0 x28_2).f0), .string (⟨#[]⟩ : ByteArray)]) ?_ 1 _ rfl; (with_reducible repeat (first | refine blk_drewN ?_ _ | refine blk_drew ?_ | refine blk_alloc ?_ _)); refine blk_put (cs := #[.string (⟨#[]⟩ : ByteArray), .string (⟨#[]⟩ : ByteArray)]) ?_ 0 _ rfl; (with_reducible repeat (first | refine blk_drewN ?_ _ | refine blk_drew ?_ | refine blk_alloc ?_ _)); exact BK147.out⟩
           have n1_ : Aside0 (Below w.heap.size w ((w18.setCell ⟨gb147, 0, none⟩ (.string ((rd_T141 l0 x28_2).f0))).setCell ⟨gb147, 1, none⟩ (.string ((rd_T141 l0 x28_2).f1)))) := ⟨by repeat ((with_reducible first | exact HB.out | refine below_set ?_ GE147.out))⟩
           (try clear BK147)
           (try clear HB)
           generalize ((w18.setCell ⟨gb147, 0, none⟩ (.string ((rd_T141 l0 x28_2).f0))).setCell ⟨gb147, 1, none⟩ (.string ((rd_T141 l0 x28_2).f1))) = w20 at n0_ n1_ ⊢
           have BK147 := n0_
           have HB := n1_
           clear n0_ n1_
           have n0_ := Aside0.mk (blk_drew BK147.out)
           have n1_ := Aside0.mk (below_drew1 HB.out)
           clear BK147
           clear HB
           have BK147 := n0_
           have HB := n1_
           clear n0_ n1_
           refine start_ (n := 10) (S := fun w' => w'.cell? ⟨gb147, 0, none⟩ = some (.string ((rd_T141 l0 x28_2).f0)) ∧ w'.cell? ⟨gb147, 1, none⟩ = some (.string ((rd_T141 l0 x28_2).f1))) (ds := []) #[false, false, false, false, false, false, false, false, false, false] (by kernel_rfl) rfl rfl ⟨(blk_cell BK147.out 0).trans rfl, (blk_cell BK147.out 1).trans rfl⟩ (fun hHeld => ?_); refine with_tabW spec_EncodeKey.tab8 spec_EncodeKey.bits8 (fun HT_ HW_ => ?_)
           generalize w20.drew = w21 at BK147 HB hHeld ⊢
           refine Bk.pu_ 0 (some 32) (h := ?_)
           refine Bk.pu_ 1 (some 33) (h := ?_)
           refine Bk.pu_ 4 (some 36) (h := ?_)
           refine Bk.tk_ 2 (some 34) (hy := by rintro w' ⟨s0, s1⟩; go_simp; with_reducible rfl) (hS := hHeld) (h := ?_)
           refine Bk.tk_ 5 (some 37) (hy := by rintro w' ⟨s0, s1⟩; go_simp; with_reducible rfl) (hS := hHeld) (h := ?_)
           refine one_ (i := 3) (N := some 35) #[true, true, true, true, true, true, false, false, false, false] rfl rfl (one_of HT_.out (by kernel_rfl)) (by decide) (fun K hK => ?_)
           refine goes_ Tryz.func95 (by kernel_rfl) rfl #[.string ((rd_T141 l0 x28_2).f0)] (by rfl) rfl rfl (by (try simp only [List.map_toArray, List.map_cons, List.map_nil]); first | done | rfl) ?_
           with_reducible refine (spec_l2S8.calls k2 ((rd_T141 l0 x28_2).f0) t148 _ A14.out).mono ?_
           rintro e w22 ⟨rfl, hb⟩
           refine ⟨_, rfl, ?_⟩
           have n0_ := Aside0.mk (blk_below (g := gb147) (o := .cells #[.string ((rd_T141 l0 x28_2).f0), .string ((rd_T141 l0 x28_2).f1)] 141 (0, 0)) (by (with_reducible repeat (first | refine blk_drewN ?_ _ | refine blk_drew ?_ | refine blk_alloc ?_ _)); exact BK147.out) hb)
           have n1_ := Aside0.mk (below_step (by repeat ((with_reducible exact HB.out))) hb)
           clear BK147
           clear HB
           have BK147 := n0_
           have HB := n1_
           clear n0_ n1_
           (try clear hb)
           refine hK.out _ _ ⟨(blk_cell BK147.out 0).trans rfl, (blk_cell BK147.out 1).trans rfl⟩ (fun hHeld => ?_)
           clear hK K
           refine Bk.nm_ (some 35) _ (h := ?_)
           refine one_ (i := 6) (N := some 38) #[true, true, true, true, true, true, true, false, false, false] rfl rfl (one_of HT_.out (by kernel_rfl)) (by decide) (fun K hK => ?_)
           refine goes_ Tryz.func96 (by kernel_rfl) rfl #[.string ((rd_T141 l0 x28_2).f1)] (by rfl) rfl rfl (by (try simp only [List.map_toArray, List.map_cons, List.map_nil]); first | done | rfl) ?_
           with_reducible refine (spec_l2S16.calls k2 ((rd_T141 l0 x28_2).f1) t149 _ A15.out).mono ?_
           rintro e w23 ⟨rfl, hb⟩
           refine ⟨_, rfl, ?_⟩
           have n0_ := Aside0.mk (blk_below (g := gb147) (o := .cells #[.string ((rd_T141 l0 x28_2).f0), .string ((rd_T141 l0 x28_2).f1)] 141 (0, 0)) (by (with_reducible repeat (first | refine blk_drewN ?_ _ | refine blk_drew ?_ | refine blk_alloc ?_ _)); exact BK147.out) hb)
           have n1_ := Aside0.mk (below_step (by repeat ((with_reducible exact HB.out))) hb)
           clear BK147
           clear HB
           have BK147 := n0_
           have HB := n1_
           clear n0_ n1_
           (try clear hb)
           refine hK.out _ _ ⟨(blk_cell BK147.out 0).trans rfl, (blk_cell BK147.out 1).trans rfl⟩ (fun hHeld => ?_)
           clear hK K
           refine Bk.nm_ (some 38) _ (h := ?_)
           refine Bk.pu_ 7 (some 39) (h := ?_)
           refine Bk.pu_ 8 (some 40) (h := ?_)
           refine Bk.pu_ 9 (some 6) (h := ?_)
           refine done_ (done_of HT_.out (by kernel_rfl)) ?_
           try go_wp2
           go_roundg k2
           case measure => have := HJ2.out; have := HK2.out; omega
           case rel => exact ⟨(x6_2 ++ (t148 ++ t149)), (wrap64 (x28_2 + 1)), (by rfl), (by rfl), H', ⟨by have := HJ2.out; have := HK2.out; omega⟩, ⟨by repeat ((with_reducible exact HB.out))⟩⟩
          ·rw [if_neg c17] at H
           exact absurd H (by simp)
         ·rw [if_neg c16] at H
          exact absurd H (by simp)
        ·rw [if_neg c13] at H
         exact absurd H (by simp)
       ·rw [if_neg c12] at H
        exact absurd H (by simp)
      ·rw [if_neg c11] at H
       have c11b0 : decide (x28_2 < (l0.length : Int)) = false := decide_eq_false c11
       clear c11
       obtain rfl := Option.some.inj H
       go_wp2
       go_ret
       exact ⟨by rfl, by repeat ((with_reducible exact HB.out))⟩
end
end Go.Proofs.YtikbfjnbhogihaaGreatDoor.M
/- Keys written: both write the same bytes. Plain. -/
namespace Go.Proofs.YtikbfjnbhogihaaGreatDoor.Key
open Go.Proofs.YtikbfjnbhogihaaGreatDoor.M Go.Proofs.YtikbfjnbhogihaaGreatDoor.Loops Go.Proofs.YtikbfjnbhogihaaGreatDoor.NumPlain Go.Proofs.YtikbfjnbhogihaaGreatDoor.LabLaws Go.Proofs.YtikbfjnbhogihaaGreatDoorW.PrintWords Go.Proofs.YtikbfjnbhogihaaGreatDoorW.PrintLast Go.RowKit
set_option linter.unusedVariables false
abbrev Lb := S141
/-! ### two lists of labels, compared -/
def sm : List Lb → List Lb → Bool
 | a :: x, b :: y => if (!((a.f0.toList) == (b.f0.toList)) || (!((a.f1.toList) == (b.f1.toList)))) = true then false else sm x y
 | _, _ => true
theorem sm_loop (L : Nat → List Lb → List Lb → Int → Int → Option Bool)
  (hL : ∀ k x0 x1 x12 x13, L (k + 1) x0 x1 x12 x13 = if x13 < x12 then (if 0 ≤ x13 then (if x13 < (x0.length : Int) then (if x13 < (x1.length : Int) then (if (!((((rd_T141 x0 x13).f0).toList) == (((rd_T141 x1 x13).f0).toList)) || (!((((rd_T141 x0 x13).f1).toList) == (((rd_T141 x1 x13).f1).toList)))) = true then (some false) else (L k x0 x1 x12 (wrap64 (x13 + 1)))) else (none)) else (none)) else (none)) else (some true))
  (x y : List Lb) (hxy : x.length = y.length) (hn : x.length < 9223372036854775807) : ∀ m j, j + m = x.length → Ev (fun k => L k x y (x.length : Int) (j : Int)) (sm (x.drop j) (y.drop j)) := by
 intro m
 induction m with
 | zero =>
  intro j hj
  refine Ev.step (f := fun _ => some true) (fun k => by rw [hL, if_neg (by omega)]) (Ev.eq (Ev.now _) ?_)
  rw [List.drop_eq_nil_of_le (by omega)]; rfl
 | succ m ih =>
  intro j hj
  have h1 : j < x.length := by omega
  have h2 : j < y.length := by omega
  rw [List.drop_eq_getElem_cons h1, List.drop_eq_getElem_cons h2]
  have hst : ∀ k, L (k + 1) x y (x.length : Int) (j : Int) = if (!((x[j].f0.toList) == (y[j].f0.toList)) || (!((x[j].f1.toList) == (y[j].f1.toList)))) = true then some false else L k x y (x.length : Int) ((j + 1 : Nat) : Int) := by
   intro k
   rw [hL, if_pos (by omega), if_pos (by omega), if_pos (by omega), if_pos (by omega), Can.rd_get x j h1, Can.rd_get y j h2, w_succ j (by omega)]
  refine Ev.step hst ?_
  unfold sm
  by_cases hc : (!((x[j].f0.toList) == (y[j].f0.toList)) || (!((x[j].f1.toList) == (y[j].f1.toList)))) = true
  ·rw [if_pos hc]; exact Ev.ite_pos hc (Ev.now _)
  ·rw [if_neg hc]; exact Ev.ite_neg hc (ih (j + 1) (by omega))
def same (x y : List Lb) : Bool := if (x.length : Int) = (y.length : Int) then sm x y else false
theorem spec_same (x y : List Lb) (hn : x.length < 9223372036854775807) : Ev (fun k => spec_l3Same.f k x y) (same x y) := by
 unfold spec_l3Same.f same
 by_cases h : (x.length : Int) = (y.length : Int)
 ·rw [if_pos h]
  exact Ev.ite_pos h (sm_loop spec_l3Same.l0 (fun k a b c d => by simp only [spec_l3Same.l0]) x y (by omega) hn x.length 0 (by omega))
 ·rw [if_neg h]; exact Ev.ite_neg h (Ev.now _)
theorem impl_same (x y : List Lb) (hn : x.length < 9223372036854775807) : Ev (fun k => impl_Label_159.f k x y) (same x y) := by
 unfold impl_Label_159.f same
 by_cases h : (x.length : Int) = (y.length : Int)
 ·rw [if_pos h]
  exact Ev.ite_pos h (sm_loop impl_Label_159.l0 (fun k a b c d => by simp only [impl_Label_159.l0]) x y (by omega) hn x.length 0 (by omega))
 ·rw [if_neg h]; exact Ev.ite_neg h (Ev.now _)
/-! ### what is written -/
def s8 (s : ByteArray) : ByteArray := Num.bytes 1 s.size ++ s
def s16 (s : ByteArray) : ByteArray := Num.bytes 2 s.size ++ s
theorem impl_s8 (s : ByteArray) (h : s.size ≤ 9223372036854775000) : impl_s8.f s = some (s8 s) := by
 unfold impl_s8.f impl_num.f
 simp only [if_true, Option.bind_some]
 rw [if_pos (by rw [bytes_size]; omega)]; rfl
theorem impl_s16 (s : ByteArray) (h : s.size ≤ 9223372036854775000) : impl_s16.f s = some (s16 s) := by
 unfold impl_s16.f impl_num.f
 simp only [show ¬ ((2 : Int) = 1) by decide, if_false, if_true, Option.bind_some]
 rw [if_pos (by rw [bytes_size]; omega)]; rfl
theorem spec_s8 (s : ByteArray) (h : s.size ≤ 9223372036854775000) : Ev (fun k => spec_l2S8.f k s) (s8 s) := by
 unfold spec_l2S8.f
 refine Ev.bind (spec_num (s.size : Int) 1 (by decide)) (Ev.ite_pos (by rw [bytes_size]; omega) (Ev.now _))
theorem spec_s16 (s : ByteArray) (h : s.size ≤ 9223372036854775000) : Ev (fun k => spec_l2S16.f k s) (s16 s) := by
 unfold spec_l2S16.f
 refine Ev.bind (spec_num (s.size : Int) 2 (by decide)) (Ev.ite_pos (by rw [bytes_size]; omega) (Ev.now _))
theorem s8_size (s : ByteArray) : (s8 s).size = 1 + s.size := by unfold s8; rw [ByteArray.size_append, bytes_size]
theorem s16_size (s : ByteArray) : (s16 s).size = 2 + s.size := by unfold s16; rw [ByteArray.size_append, bytes_size]
def wr (b : ByteArray) : List Lb → ByteArray
 | [] => b
 | x :: l => wr (b ++ (s8 x.f0 ++ s16 x.f1)) l
def wt (x : Lb) : Nat := 3 + x.f0.size + x.f1.size
theorem wr_cat : ∀ (l : List Lb) (b : ByteArray), (wr b l).data.toList = b.data.toList ++ Jn.cat (l.flatMap fun x => [s8 x.f0, s16 x.f1])
 | [], b => by simp [wr, Jn.cat]
 | x :: l, b => by
  unfold wr
  rw [wr_cat l]
  simp [Jn.cat, List.append_assoc]
theorem spec_write (l : List Lb) (hl : l.length ≤ 1048576) (hs : ∀ x ∈ l, x.f0.size ≤ 1073741824 ∧ x.f1.size ≤ 1073741824) : ∀ m j (b : ByteArray), j + m = l.length → b.size ≤ 1 + j * 2147483651 →
  Ev (fun k => spec_EncodeKey.l0 k b l (l.length : Int) (j : Int)) (wr b (l.drop j)) := by
 intro m
 induction m with
 | zero =>
  intro j b hj hb
  refine Ev.step (f := fun _ => some b) (fun k => by simp only [spec_EncodeKey.l0]; rw [if_neg (by omega)]) (Ev.eq (Ev.now _) ?_)
  rw [List.drop_eq_nil_of_le (by omega)]; rfl
 | succ m ih =>
  intro j b hj hb
  have h1 : j < l.length := by omega
  rw [List.drop_eq_getElem_cons h1]
  obtain ⟨z0, z1⟩ := hs l[j] (List.getElem_mem h1)
  have a0 := s8_size l[j].f0
  have a1 := s16_size l[j].f1
  refine Ev.step (f := fun k => (spec_l2S8.f k l[j].f0).bind fun t220 => ((spec_l2S16.f k l[j].f1).bind fun t221 => (if t220.size + t221.size ≤ 9223372036854775807 then (if b.size + (t220 ++ t221).size ≤ 9223372036854775807 then (spec_EncodeKey.l0 k (b ++ (t220 ++ t221)) l (l.length : Int) ((j + 1 : Nat) : Int)) else (none)) else (none)))) (fun k => by
   conv => lhs; unfold spec_EncodeKey.l0
   rw [if_pos (by omega), if_pos (by omega), if_pos (by omega), Can.rd_get l j h1, w_succ j (by omega)]) ?_
  refine Ev.bind (spec_s8 _ (by omega)) (Ev.bind (spec_s16 _ (by omega)) (Ev.ite_pos (by omega) (Ev.ite_pos (by rw [ByteArray.size_append]; omega) ?_)))
  exact ih (j + 1) _ (by omega) (by rw [ByteArray.size_append, ByteArray.size_append]; omega)
theorem impl_write (l : List Lb) (hl : l.length ≤ 1048576) (hs : ∀ x ∈ l, x.f0.size ≤ 1073741824 ∧ x.f1.size ≤ 1073741824) (b : ByteArray) (hc : (wr b l).size ≤ 140737488355328) : ∀ m j (y : List ByteArray), j + m = l.length → y = b :: (l.take j).flatMap (fun x => [s8 x.f0, s16 x.f1]) →
  Ev (fun k => impl_EncodeKey.l0 k y l (l.length : Int) (j : Int)) (wr b l) := by
 intro m
 induction m with
 | zero =>
  intro j y hj hy
  obtain rfl : j = l.length := by omega
  rw [List.take_of_length_le (Nat.le_refl _)] at hy
  have hcat : Jn.cat y = (wr b l).data.toList := by rw [wr_cat, hy]; simp [Jn.cat]
  have hlen : y.length = 1 + 2 * l.length := by
   rw [hy]
   have : ∀ q : List Lb, (q.flatMap (fun x => [s8 x.f0, s16 x.f1])).length = 2 * q.length := by
    intro q
    induction q with
    | nil => rfl
    | cons a q ih => rw [List.flatMap_cons, List.length_append, ih]; simp; omega
   rw [List.length_cons, this]; omega
  refine Ev.step (f := fun _ => some (wr b l)) (fun k => ?_) (Ev.now _)
  simp only [impl_EncodeKey.l0]
  rw [if_neg (by omega)]
  unfold impl_join.f
  rw [hcat, if_pos ⟨hc, by omega⟩]
  simp only [Option.bind_some]
 | succ m ih =>
  intro j y hj hy
  have h1 : j < l.length := by omega
  obtain ⟨z0, z1⟩ := hs l[j] (List.getElem_mem h1)
  have hlen : y.length ≤ 1 + 2 * l.length := by
   rw [hy]
   have : ∀ q : List Lb, (q.flatMap (fun x => [s8 x.f0, s16 x.f1])).length = 2 * q.length := by
    intro q
    induction q with
    | nil => rfl
    | cons a q ih => rw [List.flatMap_cons, List.length_append, ih]; simp; omega
   rw [List.length_cons, this, List.length_take]; omega
  refine Ev.step (fun k => ?_) (ih (j + 1) (y ++ [s8 l[j].f0, s16 l[j].f1]) (by omega) ?_)
  ·conv => lhs; unfold impl_EncodeKey.l0
   rw [if_pos (by omega), if_pos (by omega), if_pos (by omega), Can.rd_get l j h1, impl_s8 _ (by omega), impl_s16 _ (by omega), w_succ j (by omega)]
   simp only [Option.bind_some]
   rw [if_pos (by simp only [List.length_cons, List.length_nil]; omega)]
  ·rw [hy, List.take_add_one, List.getElem?_eq_getElem h1]
   simp only [Option.toList_some, List.flatMap_append, List.flatMap_cons, List.flatMap_nil, List.append_nil, List.cons_append]
noncomputable def key (l : List Lb) : ByteArray := if (Can.can l).2.1 = 0 then (if same (Can.can l).1 l = true then wr (Num.bytes 1 (l.length : Int)) l else ⟨#[]⟩) else ⟨#[]⟩
theorem spec_key (l : List Lb) (hl : l.length ≤ 1048576) (hF : Can.Fit l) : Ev (fun k => spec_EncodeKey.f k l) (key l) := by
 have hsp : spec_Canon.f l = some (Can.can l) := by unfold spec_Canon.f; exact if_pos hF
 have hlen := can_len l
 have stop : Ev (fun k => spec_EncodeKey.j0 k l true) (⟨#[]⟩ : ByteArray) := Ev.step (f := fun _ => some (⟨#[]⟩ : ByteArray)) (fun k => by simp only [spec_EncodeKey.j0, if_true]) (Ev.now _)
 unfold spec_EncodeKey.f key
 simp only [hsp, Option.bind_some]
 by_cases h0 : (Can.can l).2.1 = 0
 ·rw [if_pos h0]
  refine Ev.ite_pos h0 (Ev.bind (spec_same _ l (by omega)) ?_)
  cases hsm : same (Can.can l).1 l with
  | false => exact stop
  | true =>
   refine Ev.step (f := fun k => (spec_l2Num.f k 1 (l.length : Int)).bind fun t217 => (spec_EncodeKey.l0 k t217 l (l.length : Int) 0)) (fun k => by simp only [spec_EncodeKey.j0, Bool.not_true, Bool.false_eq_true, if_false]) ?_
   exact Ev.bind (spec_num (l.length : Int) 1 (by decide)) (spec_write l hl hF l.length 0 _ (by omega) (by rw [bytes_size]; omega))
 ·rw [if_neg h0]
  exact Ev.ite_neg h0 stop
theorem wr_size : ∀ (l : List Lb) (b : ByteArray), (∀ x ∈ l, x.f0.size ≤ 1073741824 ∧ x.f1.size ≤ 1073741824) → (wr b l).size ≤ b.size + l.length * 2147483651
 | [], b, _ => by simp [wr]
 | x :: l, b, h => by
  have ih := wr_size l (b ++ (s8 x.f0 ++ s16 x.f1)) (fun y hy => h y (List.mem_cons_of_mem _ hy))
  obtain ⟨z0, z1⟩ := h x List.mem_cons_self
  unfold wr
  rw [ByteArray.size_append, ByteArray.size_append, s8_size, s16_size] at ih
  rw [List.length_cons]
  omega
theorem same_len {x y : List Lb} (h : same x y = true) : x.length = y.length := by
 unfold same at h
 by_cases e : (x.length : Int) = (y.length : Int)
 ·omega
 ·rw [if_neg e] at h; cases h
theorem impl_key (l : List Lb) (hl : l.length ≤ 1048576) (hF : Can.Fit l) : Ev (fun k => impl_EncodeKey.f k l) (key l) := by
 have hlen := can_len l
 have stop : Ev (fun k => impl_EncodeKey.j0 k l true) (⟨#[]⟩ : ByteArray) := Ev.step (f := fun _ => some (⟨#[]⟩ : ByteArray)) (fun k => by simp only [impl_EncodeKey.j0, if_true]) (Ev.now _)
 unfold impl_EncodeKey.f key
 refine Ev.bind (Can.impl_can l hF) ?_
 by_cases h0 : (Can.can l).2.1 = 0
 ·rw [if_pos h0]
  refine Ev.ite_pos h0 (Ev.bind (impl_same _ l (by omega)) ?_)
  cases hsm : same (Can.can l).1 l with
  | false => exact stop
  | true =>
   have hle := same_len hsm
   have hz := wr_size l (Num.bytes 1 (l.length : Int)) hF
   rw [bytes_size] at hz
   refine Ev.step (f := fun k => impl_EncodeKey.l0 k [Num.bytes 1 (l.length : Int)] l (l.length : Int) 0) (fun k => by
    simp only [impl_EncodeKey.j0, Bool.not_true, Bool.false_eq_true, if_false, impl_num.f, if_true, Option.bind_some]) ?_
   exact impl_write l hl hF _ (by omega) l.length 0 _ (by omega) (by simp)
 ·rw [if_neg h0]
  exact Ev.ite_neg h0 stop
end Go.Proofs.YtikbfjnbhogihaaGreatDoor.Key
namespace Go.Proofs.YtikbfjnbhogihaaGreatDoor.M
open Go.RowKit Go.Proofs.YtikbfjnbhogihaaGreatDoorW.PrintWords Go.Proofs.YtikbfjnbhogihaaGreatDoorW.PrintLast Go.Proofs.YtikbfjnbhogihaaGreatDoorW.PrintMore
attribute [local go_sem] max2_int min2_int max_two min_two max_three min_three max_four min_four
set_option linter.unusedVariables false
set_option linter.unusedSimpArgs false
noncomputable section
/-! ### impl_DecodeKey: function 88 -/
def impl_DecodeKey.l0 : Nat → ByteArray → List (S141) → Int → Int → ByteArray → Option ((List (S141)) × Bool)
 | 0, _, _, _, _, _ => none
 | k + 1, x0, x5, x9, x10, x288000 => if x10 < x9 then ((impl_source_s8.f x288000).bind fun bt290 => ((impl_source_s16.f bt290.2).bind fun bt292 => (if x5.length < 4398046511104 then (impl_DecodeKey.l0 k x0 (x5 ++ [(⟨bt290.1, bt292.1⟩ : S141)]) x9 (wrap64 (x10 + 1)) bt292.2) else (none)))) else (if x0.toList = ([] : List UInt8) then (some (([] : List (S141)), false)) else ((impl_EncodeKey.f k x5).bind fun t297 => (if t297.toList = x0.toList then (some (x5, true)) else (some (([] : List (S141)), false)))))
def impl_DecodeKey.f (k : Nat) (a0 : ByteArray) : Option ((List (S141)) × Bool) := (impl_source_num.f a0 1).bind fun bt288 => (impl_DecodeKey.l0 k a0 ([] : List (S141)) bt288.1 0 bt288.2)
set_option maxHeartbeats 8000000 in
set_option maxRecDepth 100000 in
theorem impl_DecodeKey.calls (k : Nat) (a0 : ByteArray) (r1 : List (S141)) (r2 : Bool) (w : World) (h : impl_DecodeKey.f k a0 = some (r1, r2)) (hT_ : Tabs w) :
  Calls Tryz.prog 88 #[.string a0] w fun e w' => ∃ v0_ : Value, e = .returned (.tuple #[v0_, .bool r2]) ∧ Kd.R k141 141 w' w.heap.size (fun _ => True) v0_ r1 ∧ Below w.heap.size w w' := by
 have HT := Aside0.mk hT_
 clear hT_
 have HB := Aside0.mk (Below.refl w.heap.size w)
 have H : ((impl_source_num.f a0 1).bind fun bt288 => (impl_DecodeKey.l0 k a0 ([] : List (S141)) bt288.1 0 bt288.2)) = some (r1, r2) := h
 clear h
 replace H := Option.bind_eq_some_iff.mp H
 obtain ⟨⟨t288, t289⟩, A20, H⟩ := H
 replace H : (impl_DecodeKey.l0 k a0 ([] : List (S141)) t288 0 t289) = some (r1, r2) := H
 have A2 := Aside0.mk A20
 clear A20
 have H' := Aside0.mk H
 clear H
 go_enter Tryz.func88, Tryz.ntmps88
 go_wp2_with (first | ((with_reducible refine gate_dst (N := 4) rfl ?_); refine box_event ?hg (N := 4) ?hd (cs := #[.string (⟨#[]⟩ : ByteArray)]) (t := 189) ?hr ?_; (case hd => rfl); (case hg => rfl); (case hr => (go_simp; done)); intro gb287 hg w3 hbox hb; have n0_ := Aside0.mk (below_step (by repeat ((with_reducible exact HB.out))) hb); have n1_ := Aside0.mk (show IsS189 w w3 gb287 (⟨#[]⟩ : ByteArray) from ⟨hbox, (by rw [hg]; exact (below_size (by repeat ((with_reducible exact HB.out)))) : w.heap.size ≤ gb287)⟩); clear HB; have HB := n0_; have HI287 := n1_; clear n0_ n1_; clear hb hbox hg; obtain ⟨HGz4, hgz4⟩ := HI287.out; have hcz4_0 := cellS189_0 HGz4; have hfz4_0 := blk_frozen HGz4 0; clear HGz4 hgz4) | ((with_reducible refine gate_callee (f := 133) rfl ?_); refine goesL_ (some 9) rfl rfl Tryz.func133 (by kernel_rfl) rfl #[.pointer (some ⟨gb287, 0, none⟩), .int .i64 1] rfl (by (try simp only [List.map_toArray, List.map_cons, List.map_nil]); first | done | rfl) ?_; (with_reducible refine (impl_source_num.calls gb287 a0 1 t288 t289 w _ ?side1 ?side2 A2.out).mono ?_); (case side1 => repeat ((with_reducible first | exact HI287.out | apply IsS189.set_0))); (case side2 => repeat ((with_reducible first | exact HB.out | refine below_set ?_ (IsS189.ge HI287.out)))); rintro e w5 ⟨rfl, hi, hb, hk⟩; refine ⟨_, rfl, ?_⟩; have n0_ := Aside0.mk (hb); have n1_ := Aside0.mk (hi); clear HB; clear HI287; have HB := n0_; have HI287 := n1_; clear n0_ n1_; (try clear hb); (try clear hk); (try clear hi)))
 go_loopg [5, 10] k (fun kq v5 v10 w' => ∃ (x5_1 : List (S141)) (x10_1 : Int) (x288000_1 : ByteArray), v10 = .int .i64 x10_1 ∧ Aside0 (impl_DecodeKey.l0 kq a0 x5_1 t288 x10_1 x288000_1 = some (r1, r2)) ∧ Aside0 (kq ≤ k) ∧ Aside0 (Kd.R k141 141 w' w.heap.size (fun _ => True) v5 x5_1) ∧ Aside0 (IsS189 w w' gb287 x288000_1) ∧ Aside0 (Below w.heap.size w w'))
 case atStart => exact ⟨(([] : List (S141))), (0), (t289), (by rfl), H', ⟨Nat.le_refl _⟩, ⟨by exact Kd.R_nil _ _ _ _ _⟩, ⟨by repeat ((with_reducible exact HI287.out))⟩, ⟨by repeat ((with_reducible exact HB.out))⟩⟩
 case round =>
  clear H'
  try clear hcz4_0
  try clear hfz4_0
  obtain ⟨x5_1, x10_1, x288000_1, rfl, HA, HK1, HO_5, HI287, HB⟩ := hrel
  cases gk with
  | zero => exact absurd HA.out (by simp [impl_DecodeKey.l0])
  | succ k1 =>
   have H := HA.out
   clear HA
   simp only [impl_DecodeKey.l0] at H
   by_cases c6 : x10_1 < t288
   ·rw [if_pos c6] at H
    have c6b0 : decide (x10_1 < t288) = true := decide_eq_true c6
    clear c6
    replace H := Option.bind_eq_some_iff.mp H
    obtain ⟨⟨t290, t291⟩, A70, H⟩ := H
    replace H : ((impl_source_s16.f t291).bind fun bt292 => (if x5_1.length < 4398046511104 then (impl_DecodeKey.l0 k1 a0 (x5_1 ++ [(⟨t290, bt292.1⟩ : S141)]) t288 (wrap64 (x10_1 + 1)) bt292.2) else (none))) = some (r1, r2) := H
    have A7 := Aside0.mk A70
    clear A70
    replace H := Option.bind_eq_some_iff.mp H
    obtain ⟨⟨t292, t293⟩, A80, H⟩ := H
    replace H : (if x5_1.length < 4398046511104 then (impl_DecodeKey.l0 k1 a0 (x5_1 ++ [(⟨t290, t292⟩ : S141)]) t288 (wrap64 (x10_1 + 1)) t293) else (none)) = some (r1, r2) := H
    have A8 := Aside0.mk A80
    clear A80
    by_cases c9 : x5_1.length < 4398046511104
    ·rw [if_pos c9] at H
     have LMc9 := Aside0.mk c9
     clear c9
     obtain ⟨y294, hy294⟩ : ∃ y_ : List (S141), y_ = (x5_1 ++ [(⟨t290, t292⟩ : S141)]) := ⟨_, rfl⟩
     replace H : (impl_DecodeKey.l0 k1 a0 y294 t288 (wrap64 (x10_1 + 1)) t293) = some (r1, r2) := by (rw [hy294]; with_reducible exact H)
     have Ny294 := Aside0.mk hy294
     clear hy294
     have H' := Aside0.mk H
     clear H
     go_wp2_with (first | ((with_reducible refine gate_callee (f := 134) rfl ?_); refine goesL_ (some 12) rfl rfl Tryz.func134 (by kernel_rfl) rfl #[.pointer (some ⟨gb287, 0, none⟩)] rfl (by (try simp only [List.map_toArray, List.map_cons, List.map_nil]); first | done | rfl) ?_; (with_reducible refine (impl_source_s8.calls gb287 x288000_1 t290 t291 w _ ?side1 ?side2 A7.out).mono ?_); (case side1 => repeat ((with_reducible exact HI287.out))); (case side2 => repeat ((with_reducible exact HB.out))); rintro e w10 ⟨rfl, hi, hb, hk⟩; refine ⟨_, rfl, ?_⟩; have n0_ := Aside0.mk (Kd.R_mono (Kd.R_keep (IsS189.apart (show IsS189 w _ gb287 x288000_1 from by repeat ((with_reducible exact HI287.out))) (by (with_reducible repeat (first | apply Kd.R_alloc | apply Kd.R_drewN | apply Kd.R_drew)); exact HO_5.out) (by decide)) hk (fun _ h => h.2)) (fun _ h => h.1)); have n1_ := Aside0.mk (hb); have n2_ := Aside0.mk (hi); clear HO_5; clear HB; clear HI287; have HO_5 := n0_; have HB := n1_; have HI287 := n2_; clear n0_ n1_ n2_; (try clear hb); (try clear hk); (try clear hi)) | ((with_reducible refine gate_callee (f := 135) rfl ?_); refine goesL_ (some 15) rfl rfl Tryz.func135 (by kernel_rfl) rfl #[.pointer (some ⟨gb287, 0, none⟩)] rfl (by (try simp only [List.map_toArray, List.map_cons, List.map_nil]); first | done | rfl) ?_; (with_reducible refine (impl_source_s16.calls gb287 t291 t292 t293 w _ ?side1 ?side2 A8.out).mono ?_); (case side1 => repeat ((with_reducible exact HI287.out))); (case side2 => repeat ((with_reducible exact HB.out))); rintro e w11 ⟨rfl, hi, hb, hk⟩; refine ⟨_, rfl, ?_⟩; have n0_ := Aside0.mk (Kd.R_mono (Kd.R_keep (IsS189.apart (show IsS189 w _ gb287 t291 from by repeat ((with_reducible exact HI287.out))) (by (with_reducible repeat (first | apply Kd.R_alloc | apply Kd.R_drewN | apply Kd.R_drew)); exact HO_5.out) (by decide)) hk (fun _ h => h.2)) (fun _ h => h.1)); have n1_ := Aside0.mk (hb); have n2_ := Aside0.mk (hi); clear HO_5; clear HB; clear HI287; have HO_5 := n0_; have HB := n1_; have HI287 := n2_; clear n0_ n1_ n2_; (try clear hb); (try clear hk); (try clear hi)) | ((with_reducible refine gate_builtin (b := .append) (xs := #[.tmp 13, .tmp 17]) rfl ?_); at_builtin; refine Kd.R_append k141 (w0 := w) w.heap.size rfl (.tmp 13) (.tmp 17) 65 141 (.agg #[(.string ⟨#[]⟩), (.string ⟨#[]⟩)]) 32 rfl Tryz.underlying65 info141 rfl (by decide) (by omega) u5 x5_1 (⟨t290, t292⟩ : S141) [.string t290, .string t292] (fun _ => True) (fun _ => False) rfl rfl ?aP (fun _ hk => hk.elim) ?aF ?aO ?aB ?aS ?aL ?_; (case aP => exact k141_mkM _ _ _ (⟨t290, t292⟩ : S141)); (case aB => exact (by repeat ((with_reducible exact HB.out)))); (case aF => exact (fun _ _ => trivial)); (case aO => exact (by (with_reducible repeat (first | apply Kd.R_alloc | apply Kd.R_drewN | apply Kd.R_drew)); exact HO_5.out)); (case aS => exact (below_size (by repeat ((with_reducible exact HB.out))))); (case aL => have := LMc9.out; omega); intro v295 w12 ho hb hg hat; rw [← Ny294.out] at ho; have n0_ := Aside0.mk (IsS189.grown (by repeat ((with_reducible exact HI287.out))) hg (IsS189.own_ne HI287.out HO_5.out (by decide))); have n1_ := Aside0.mk (hb); have n2_ := Aside0.mk (ho); clear HI287; clear HB; clear HO_5; have HI287 := n0_; have HB := n1_; have HO296 := n2_; clear n0_ n1_ n2_; clear ho hb hg hat))
     go_roundg k1
     case measure => have := HK1.out; omega
     case rel => exact ⟨(y294), (wrap64 (x10_1 + 1)), (t293), (by rfl), H', ⟨by have := HK1.out; omega⟩, ⟨by (with_reducible repeat (first | apply Kd.R_alloc | apply Kd.R_drewN | apply Kd.R_drew)); exact HO296.out⟩, ⟨by repeat ((with_reducible exact HI287.out))⟩, ⟨by repeat ((with_reducible exact HB.out))⟩⟩
    ·rw [if_neg c9] at H
     exact absurd H (by simp)
   ·rw [if_neg c6] at H
    have c6b0 : decide (x10_1 < t288) = false := decide_eq_false c6
    clear c6
    by_cases c13 : a0.toList = ([] : List UInt8)
    ·rw [if_pos c13] at H
     have c13b0 : (a0.toList == ([] : List UInt8)) = true := beq_iff_eq.mpr c13
     clear c13
     simp only [Option.some.injEq, Prod.mk.injEq] at H
     obtain ⟨rfl, rfl⟩ := H
     go_wp2
     go_ret2
     exact ⟨_, by rfl, by exact Kd.R_nil _ _ _ _ _, by repeat ((with_reducible exact HB.out))⟩
    ·rw [if_neg c13] at H
     have c13b0 : (a0.toList == ([] : List UInt8)) = false := beq_eq_false_iff_ne.mpr c13
     replace H := Option.bind_eq_some_iff.mp H
     obtain ⟨t297, A140, H⟩ := H
     replace H : (if t297.toList = a0.toList then (some (x5_1, true)) else (some (([] : List (S141)), false))) = some (r1, r2) := H
     have A14 := Aside0.mk A140
     clear A140
     by_cases c15 : t297.toList = a0.toList
     ·rw [if_pos c15] at H
      have c15b0 : (t297.toList == a0.toList) = true := beq_iff_eq.mpr c15
      clear c15
      simp only [Option.some.injEq, Prod.mk.injEq] at H
      obtain ⟨rfl, rfl⟩ := H
      obtain ⟨Ao16, co16, eo16⟩ := Kd.R_slice HO_5.out
      subst eo16
      go_wp2_with ((go_at_call 136; (with_reducible refine (impl_EncodeKey.calls k1 _ _ x5_1 t297 _ ?side1 ?side2 A14.out (Tabs.below HT.out (by repeat ((with_reducible exact HB.out))))).mono ?_); (case side1 => repeat (exact (Kd.R_reads' HO_5.out).2.2)); (case side2 => exact (Kd.R_reads' HO_5.out).2.1); rintro e w17 ⟨rfl, hb⟩; have n0_ := Aside0.mk (Kd.R_below (by (with_reducible repeat (first | apply Kd.R_alloc | apply Kd.R_drewN | apply Kd.R_drew)); exact HO_5.out) hb); have n2_ := Aside0.mk (below_step (by repeat ((with_reducible exact HB.out))) hb); clear HO_5; clear HI287; clear HB; have HO_5 := n0_; have HB := n2_; clear n0_ n2_; (try clear hb)))
      go_ret2
      exact ⟨_, by rfl, by (with_reducible repeat (first | apply Kd.R_alloc | apply Kd.R_drewN | apply Kd.R_drew)); exact HO_5.out, by repeat ((with_reducible exact HB.out))⟩
     ·rw [if_neg c15] at H
      have c15b0 : (t297.toList == a0.toList) = false := beq_eq_false_iff_ne.mpr c15
      simp only [Option.some.injEq, Prod.mk.injEq] at H
      obtain ⟨rfl, rfl⟩ := H
      obtain ⟨Ao18, co18, eo18⟩ := Kd.R_slice HO_5.out
      subst eo18
      go_wp2_with ((go_at_call 136; (with_reducible refine (impl_EncodeKey.calls k1 _ _ x5_1 t297 _ ?side1 ?side2 A14.out (Tabs.below HT.out (by repeat ((with_reducible exact HB.out))))).mono ?_); (case side1 => repeat (exact (Kd.R_reads' HO_5.out).2.2)); (case side2 => exact (Kd.R_reads' HO_5.out).2.1); rintro e w19 ⟨rfl, hb⟩; have n2_ := Aside0.mk (below_step (by repeat ((with_reducible exact HB.out))) hb); clear HO_5; clear HI287; clear HB; have HB := n2_; clear n2_; (try clear hb)))
      go_ret2
      exact ⟨_, by rfl, by exact Kd.R_nil _ _ _ _ _, by repeat ((with_reducible exact HB.out))⟩
end
end Go.Proofs.YtikbfjnbhogihaaGreatDoor.M
