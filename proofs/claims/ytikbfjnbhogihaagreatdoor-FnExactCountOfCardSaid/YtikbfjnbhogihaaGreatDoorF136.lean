import Derived.Test.YtikbfjnbhogihaaGreatDoorM0
import Derived.Test.YtikbfjnbhogihaaGreatDoorF158
import Derived.Test.YtikbfjnbhogihaaGreatDoorF159
import Derived.Test.YtikbfjnbhogihaaGreatDoorF168
import Derived.Test.YtikbfjnbhogihaaGreatDoorXJoin
import Derived.Test.YtikbfjnbhogihaaGreatDoorF134
namespace Go.Proofs.YtikbfjnbhogihaaGreatDoor.M
open Go.RowKit Go.Proofs.YtikbfjnbhogihaaGreatDoorW.PrintWords Go.Proofs.YtikbfjnbhogihaaGreatDoorW.PrintLast Go.Proofs.YtikbfjnbhogihaaGreatDoorW.PrintMore
attribute [local go_sem] max2_int min2_int max_two min_two max_three min_three max_four min_four
set_option linter.unusedVariables false
set_option linter.unusedSimpArgs false
noncomputable section
/-! ### impl_EncodeKey: function 136 -/
mutual
def impl_EncodeKey.j0 : Nat → List (S141) → Bool → Option (ByteArray)
 | 0, _, _ => none
 | k + 1, x0, x22 => if x22 = true then (some (⟨#[]⟩ : ByteArray)) else ((impl_num.f 1 (x0.length : Int)).bind fun t271 => (impl_EncodeKey.l0 k (([t271] : List ByteArray)) x0 (x0.length : Int) 0))
def impl_EncodeKey.l0 : Nat → List ByteArray → List (S141) → Int → Int → Option (ByteArray)
 | 0, _, _, _, _ => none
 | k + 1, x6, x27, x28, x29 => if x29 < x28 then (if 0 ≤ x29 then (if x29 < (x27.length : Int) then ((impl_s8.f ((rd_T141 x27 x29).f0)).bind fun t277 => ((impl_s16.f ((rd_T141 x27 x29).f1)).bind fun t278 => ((some (([t277, t278] : List ByteArray) : List ByteArray)).bind fun y279 => (if x6.length + y279.length < 8796093022208 then (impl_EncodeKey.l0 k (x6 ++ y279) x27 x28 (wrap64 (x29 + 1))) else (none))))) else (none)) else (none)) else ((impl_join.f x6).bind fun bt285 => (some bt285.1))
end
def impl_EncodeKey.f (k : Nat) (l0 : List (S141)) : Option (ByteArray) := (impl_Canon.f k l0).bind fun bt265 => (if bt265.2.1 = 0 then ((impl_Label_159.f k bt265.1 l0).bind fun t270 => (impl_EncodeKey.j0 k l0 (!t270))) else (impl_EncodeKey.j0 k l0 true))
theorem impl_EncodeKey.mono_l : ∀ k, (∀ y0 y1, LeO (impl_EncodeKey.j0 k y0 y1) (impl_EncodeKey.j0 (k + 1) y0 y1)) ∧ (∀ y0 y1 y2 y3, LeO (impl_EncodeKey.l0 k y0 y1 y2 y3) (impl_EncodeKey.l0 (k + 1) y0 y1 y2 y3))
 | 0 => ⟨fun _ _ r h => by simp [impl_EncodeKey.j0] at h, fun _ _ _ _ r h => by simp [impl_EncodeKey.l0] at h⟩
 | k + 1 => by
  obtain ⟨ih0, ih1⟩ := impl_EncodeKey.mono_l k
  refine ⟨?_, ?_⟩
  ·intro y0 y1
   unfold impl_EncodeKey.j0
   repeat' first
   | (with_reducible exact ih1 _ _ _ _)
   | (with_reducible exact LeO.refl _)
   | (with_reducible refine LeO.ite ?_ ?_)
   | (with_reducible refine LeO.bind ?_ (fun _ => ?_))
  ·intro y0 y1 y2 y3
   unfold impl_EncodeKey.l0
   repeat' first
   | (with_reducible exact ih1 _ _ _ _)
   | (with_reducible exact LeO.refl _)
   | (with_reducible refine LeO.ite ?_ ?_)
   | (with_reducible refine LeO.bind ?_ (fun _ => ?_))
theorem impl_EncodeKey.mono : ∀ a0 k, LeO (impl_EncodeKey.f k a0) (impl_EncodeKey.f (k + 1) a0) := by
 intro a0 k
 obtain ⟨ih0, ih1⟩ := impl_EncodeKey.mono_l k
 unfold impl_EncodeKey.f
 repeat' first
   | (with_reducible exact ih0 _ _)
   | (with_reducible exact impl_Canon.mono _ _)
   | (with_reducible exact impl_Label_159.mono _ _ _)
   | (with_reducible refine LeO.ite ?_ ?_)
   | (with_reducible refine LeO.bind ?_ (fun _ => ?_))
def impl_EncodeKey.T8 : Bool × List (List Nat × List Nat) := (true, [([], []), ([], []), ([1], [1]), ([2], [2]), ([], []), ([4], [4]), ([5, 3], [5]), ([3, 6], [3, 6]), ([0, 7, 6], [0, 7]), ([8, 8, 0, 1, 2, 3, 4, 5, 6, 7, 8], [0, 8])])
def impl_EncodeKey.B8 : List Nat := [0, 0, 2, 6, 0, 16, 62, 126, 255, 511]
theorem impl_EncodeKey.tab8 : rtab .any (opsOf Tryz.f136 8) = impl_EncodeKey.T8 := by kernel_rfl
theorem impl_EncodeKey.bits8 : waitsOk impl_EncodeKey.T8.2 impl_EncodeKey.B8 = true := by kernel_rfl
set_option maxHeartbeats 8000000 in
set_option maxRecDepth 100000 in
theorem impl_EncodeKey.calls (k : Nat) (A0 : Option Addr) (c0 : Nat) (l0 : List (S141)) (r : ByteArray) (w : World) (hr0 : Kd.C k141 w A0 l0.length l0) (hc0 : l0.length ≤ c0) (h : impl_EncodeKey.f k l0 = some r) (hT_ : Tabs w) :
  Calls Tryz.prog 136 #[.slice A0 l0.length c0] w fun e w' => e = .returned (.string r) ∧ Below w.heap.size w w' := by
 have HT := Aside0.mk hT_
 clear hT_
 have HR0 := Aside0.mk hr0
 have HC0 := Aside0.mk hc0
 clear hr0 hc0
 have HB := Aside0.mk (Below.refl w.heap.size w)
 have H : ((impl_Canon.f k l0).bind fun bt265 => (if bt265.2.1 = 0 then ((impl_Label_159.f k bt265.1 l0).bind fun t270 => (impl_EncodeKey.j0 k l0 (!t270))) else (impl_EncodeKey.j0 k l0 true))) = some r := h
 clear h
 replace H := Option.bind_eq_some_iff.mp H
 obtain ⟨⟨t265, t266, t267⟩, A20, H⟩ := H
 replace H : (if t266 = 0 then ((impl_Label_159.f k t265 l0).bind fun t270 => (impl_EncodeKey.j0 k l0 (!t270))) else (impl_EncodeKey.j0 k l0 true)) = some r := H
 have A2 := Aside0.mk A20
 clear A20
 have HC3 := Aside0.mk H
 clear H
 go_enter Tryz.func136, Tryz.ntmps136
 go_upto_region 2 with (((with_reducible refine gate_callee (f := 158) rfl ?_); refine goesL_ (some 11) rfl rfl Tryz.func158 (by kernel_rfl) rfl #[.slice A0 l0.length c0] rfl (by (try simp only [List.map_toArray, List.map_cons, List.map_nil]); first | done | rfl) ?_; (with_reducible refine (impl_Canon.calls k _ _ l0 t265 t266 t267 _ ?side1 ?side2 A2.out (Tabs.below HT.out (by repeat ((with_reducible exact HB.out))))).mono ?_); (case side1 => repeat (exact HR0.out)); (case side2 => exact HC0.out); rintro e w4 ⟨v268, rfl, ho0, hb⟩; refine ⟨_, rfl, ?_⟩; have n0_ := Aside0.mk (Kd.R_lower ho0 (below_size (by repeat ((with_reducible exact HB.out))))); have n1_ := Aside0.mk (below_step (by repeat ((with_reducible exact HB.out))) hb); clear HB; have HO269 := n0_; have HB := n1_; clear n0_ n1_; (try clear hb); (try clear ho0)))
 go_cut [22] (fun v22 wc => ∃ (kq : Nat) (x22_2 : Bool), v22 = .bool x22_2 ∧ Aside0 (impl_EncodeKey.j0 kq l0 x22_2 = some r) ∧ Aside0 (kq ≤ k) ∧ Aside0 (Below w.heap.size w wc))
 case first =>
  have H := HC3.out
  clear HC3
  by_cases c5 : t266 = 0
  ·rw [if_pos c5] at H
   have c5b0 : (t266 == 0) = true := beq_iff_eq.mpr c5
   have c5b1 : (t266 != 0) = false := bne_eq_false_iff_eq.mpr c5
   clear c5
   (first | rw [c5b0] | (simp only [i64_w, i32_w]; rw [c5b0]) | skip)
   replace H := Option.bind_eq_some_iff.mp H
   obtain ⟨t270, A60, H⟩ := H
   replace H : (impl_EncodeKey.j0 k l0 (!t270)) = some r := H
   have A6 := Aside0.mk A60
   clear A60
   have H' := Aside0.mk H
   clear H
   obtain ⟨Ao7, co7, eo7⟩ := Kd.R_slice HO269.out
   subst eo7
   go_wp2_with ((go_at_call 159; (with_reducible refine (impl_Label_159.calls k _ _ t265 _ _ l0 t270 _ ?side1 ?side2 ?side3 ?side4 A6.out).mono ?_); (case side1 => repeat (exact (Kd.R_reads' HO269.out).2.2)); (case side2 => exact (Kd.R_reads' HO269.out).2.1); (case side3 => repeat (exact (Kd.C_below HR0.out HB.out))); (case side4 => exact HC0.out); rintro e w' ⟨rfl, ⟨nd, rfl⟩⟩))
   go_meet
   case rel => exact ⟨_, (!t270), (by rfl), H', ⟨by omega⟩, ⟨by repeat ((with_reducible first | exact HB.out | apply pw_below_drewN))⟩⟩
  ·rw [if_neg c5] at H
   have c5b0 : (t266 == 0) = false := beq_eq_false_iff_ne.mpr c5
   have c5b1 : (t266 != 0) = true := bne_iff_ne.mpr c5
   (first | rw [c5b0] | (simp only [i64_w, i32_w]; rw [c5b0]) | skip)
   have H' := Aside0.mk H
   clear H
   go_wp2
   go_meet
   case rel => exact ⟨_, (true), (by rfl), H', ⟨by omega⟩, ⟨by repeat ((with_reducible exact HB.out))⟩⟩
 case rest =>
  clear HC3
  obtain ⟨kq, x22_2, rfl, HA, HJ2, HB⟩ := hcut
  cases kq with
  | zero => exact absurd HA.out (by simp [impl_EncodeKey.j0])
  | succ kj2 =>
   have H := HA.out
   clear HA
   simp only [impl_EncodeKey.j0] at H
   by_cases c8 : x22_2 = true
   ·subst c8
    have H1 : (some (⟨#[]⟩ : ByteArray)) = some r := by rw [if_pos rfl] at H; exact H
    clear H
    have H := H1
    clear H1
    obtain rfl := Option.some.inj H
    go_wp2
    go_ret
    exact ⟨by rfl, by repeat ((with_reducible exact HB.out))⟩
   ·replace c8 := Bool.eq_false_iff.mpr c8
    subst c8
    have H1 : ((impl_num.f 1 (l0.length : Int)).bind fun t271 => (impl_EncodeKey.l0 kj2 (([t271] : List ByteArray)) l0 (l0.length : Int) 0)) = some r := by rw [if_neg (show ¬ (false = true) by decide)] at H; exact H
    clear H
    have H := H1
    clear H1
    replace H := Option.bind_eq_some_iff.mp H
    obtain ⟨t271, A90, H⟩ := H
    replace H : (impl_EncodeKey.l0 kj2 (([t271] : List ByteArray)) l0 (l0.length : Int) 0) = some r := H
    have A9 := Aside0.mk A90
    clear A90
    obtain ⟨y272, hy272⟩ : ∃ y_ : List ByteArray, y_ = (([t271] : List ByteArray)) := ⟨_, rfl⟩
    replace H : (impl_EncodeKey.l0 kj2 y272 l0 (l0.length : Int) 0) = some r := by (rw [hy272]; with_reducible exact H)
    have Ny272 := Aside0.mk hy272
    clear hy272
    have H' := Aside0.mk H
    clear H
    go_wp2_with (first | ((with_reducible refine gate_callee (f := 160) rfl ?_); refine goesL_ (some 25) rfl rfl Tryz.func160 (by kernel_rfl) rfl #[.int .i64 1, .int .i64 (l0.length : Int)] rfl (by (try simp only [List.map_toArray, List.map_cons, List.map_nil]); first | done | rfl) ?_; (with_reducible refine (impl_num.calls 1 (l0.length : Int) t271 _ A9.out).mono ?_); rintro e w10 ⟨rfl, hb⟩; refine ⟨_, rfl, ?_⟩; have n0_ := Aside0.mk (below_step (by repeat ((with_reducible exact HB.out))) hb); clear HB; have HB := n0_; clear n0_; (try clear hb)) | ((with_reducible refine gate_dst (N := 26) rfl ?_); refine Kd.R_lit Kd.string _ 9 ?hg (N := 26) ?hd (xs := ([t271] : List ByteArray)) (inner := [.string t271]) (ok := fun _ => True) (okp := fun _ => True) ?hr ?hp (fun _ hk => hk) trivial (Below.refl _ _) (Nat.le_refl _) (by simp) ?_; (case hd => rfl); (case hg => rfl); (case hr => (go_simp; done)); (case hp => exact (Reps.one (show Kd.M Kd.string _ _ _ t271 [.string t271] from rfl) (Reps.none _ _))); intro v273 w11 ho12 hb hg_ hnew_; clear hg_ hnew_; (rw [← Ny272.out] at ho12); have n0_ := Aside0.mk (Kd.R_lower ho12 (below_size (by repeat ((with_reducible exact HB.out))))); have n1_ := Aside0.mk (below_step (by repeat ((with_reducible exact HB.out))) hb); clear HB; have HO274 := n0_; have HB := n1_; clear n0_ n1_; clear hb ho12))
    go_loopg [6, 29] kj2 (fun kq v6 v29 w' => ∃ (x6_2 : List ByteArray) (x29_2 : Int), v29 = .int .i64 x29_2 ∧ Aside0 (impl_EncodeKey.l0 kq x6_2 l0 (l0.length : Int) x29_2 = some r) ∧ Aside0 (kq ≤ kj2) ∧ Aside0 (Kd.R Kd.string 9 w' w.heap.size (fun _ => True) v6 x6_2) ∧ Aside0 (Below w.heap.size w w'))
    case atStart => exact ⟨(y272), (0), (by rfl), H', ⟨Nat.le_refl _⟩, ⟨by (with_reducible repeat (first | apply Kd.R_alloc | apply Kd.R_drewN | apply Kd.R_drew)); exact HO274.out⟩, ⟨by repeat ((with_reducible exact HB.out))⟩⟩
    case round =>
     clear H'
     obtain ⟨x6_2, x29_2, rfl, HA, HK2, HO_6, HB⟩ := hrel
     cases gk with
     | zero => exact absurd HA.out (by simp [impl_EncodeKey.l0])
     | succ k2 =>
      have H := HA.out
      clear HA
      simp only [impl_EncodeKey.l0] at H
      by_cases c13 : x29_2 < (l0.length : Int)
      ·rw [if_pos c13] at H
       clear c13
       by_cases c14 : 0 ≤ x29_2
       ·rw [if_pos c14] at H
        have c14b0 : decide (0 ≤ x29_2) = true := decide_eq_true c14
        clear c14
        by_cases c15 : x29_2 < (l0.length : Int)
        ·rw [if_pos c15] at H
         have c15b0 : decide (x29_2 < (l0.length : Int)) = true := decide_eq_true c15
         clear c15
         replace H := Option.bind_eq_some_iff.mp H
         obtain ⟨t277, A160, H⟩ := H
         replace H : ((impl_s16.f ((rd_T141 l0 x29_2).f1)).bind fun t278 => ((some (([t277, t278] : List ByteArray) : List ByteArray)).bind fun y279 => (if x6_2.length + y279.length < 8796093022208 then (impl_EncodeKey.l0 k2 (x6_2 ++ y279) l0 (l0.length : Int) (wrap64 (x29_2 + 1))) else (none)))) = some r := H
         have A16 := Aside0.mk A160
         clear A160
         replace H := Option.bind_eq_some_iff.mp H
         obtain ⟨t278, A170, H⟩ := H
         replace H : ((some (([t277, t278] : List ByteArray) : List ByteArray)).bind fun y279 => (if x6_2.length + y279.length < 8796093022208 then (impl_EncodeKey.l0 k2 (x6_2 ++ y279) l0 (l0.length : Int) (wrap64 (x29_2 + 1))) else (none))) = some r := H
         have A17 := Aside0.mk A170
         clear A170
         obtain ⟨y279, hy279⟩ : ∃ y_ : List ByteArray, y_ = (([t277, t278] : List ByteArray)) := ⟨_, rfl⟩
         replace H : (if x6_2.length + y279.length < 8796093022208 then (impl_EncodeKey.l0 k2 (x6_2 ++ y279) l0 (l0.length : Int) (wrap64 (x29_2 + 1))) else (none)) = some r := by (have H2_ := (Option.bind_some _ _).symm.trans H; rw [hy279]; with_reducible exact H2_)
         have Ny279 := Aside0.mk hy279
         clear hy279
         by_cases c18 : x6_2.length + y279.length < 8796093022208
         ·rw [if_pos c18] at H
          have LMc18 := Aside0.mk c18
          clear c18
          obtain ⟨y282, hy282⟩ : ∃ y_ : List ByteArray, y_ = (x6_2 ++ y279) := ⟨_, rfl⟩
          replace H : (impl_EncodeKey.l0 k2 y282 l0 (l0.length : Int) (wrap64 (x29_2 + 1))) = some r := by (rw [hy282]; with_reducible exact H)
          have Ny282 := Aside0.mk hy282
          clear hy282
          have H' := Aside0.mk H
          clear H
          have p275 : 0 ≤ (x29_2 : Int) := of_decide_eq_true (by (with_reducible assumption))
          have q275 : x29_2 < (l0.length : Int) := of_decide_eq_true (by (with_reducible assumption))
          obtain ⟨ad275, e275, hx275_0, hx275_1⟩ := at_T141 HR0.out x29_2 p275 q275
          cases e275
          replace hx275_0 := (HB.out.cell (World.block_lt_of_cell? w _ hx275_0)).trans hx275_0
          replace hx275_1 := (HB.out.cell (World.block_lt_of_cell? w _ hx275_1)).trans hx275_1
          replace p275 := eq_true p275
          replace q275 := eq_true q275
          try go_wp2_with (((with_reducible refine gate_dst (N := 8) rfl ?_); refine box_event ?hg (N := 8) ?hd (cs := #[.string (⟨#[]⟩ : ByteArray), .string (⟨#[]⟩ : ByteArray)]) (t := 141) ?hr ?_; (case hd => rfl); (case hg => rfl); (case hr => (go_simp; done)); intro gb276 hg w19 hbox hb; have n0_ := Aside0.mk (Kd.R_below (by (with_reducible repeat (first | apply Kd.R_alloc | apply Kd.R_drewN | apply Kd.R_drew)); exact HO_6.out) hb); have n1_ := Aside0.mk (below_step (by repeat ((with_reducible exact HB.out))) hb); have n2_ := Aside0.mk (hbox); have n4_ := Aside0.mk ((by rw [hg]; exact (below_size (by repeat ((with_reducible exact HB.out)))) : w.heap.size ≤ gb276)); clear HO_6; clear HB; have HO_6 := n0_; have HB := n1_; have BK276 := n2_; have GE276 := n4_; clear n0_ n1_ n2_ n4_; clear hb hbox hg; have hcz20_0 : w19.cell? ⟨gb276, 0, none⟩ = some (.string (⟨#[]⟩ : ByteArray)) := (blk_cell BK276.out 0).trans rfl; have hcz20_1 : w19.cell? ⟨gb276, 1, none⟩ = some (.string (⟨#[]⟩ : ByteArray)) := (blk_cell BK276.out 1).trans rfl; have hfz20_0 := blk_frozen BK276.out 0; have hfz20_1 := blk_frozen BK276.out 1))
          have n0_ : Aside0 (Kd.R Kd.string 9 ((w19.setCell ⟨gb276, 0, none⟩ (.string ((rd_T141 l0 x29_2).f0))).setCell ⟨gb276, 1, none⟩ (.string ((rd_T141 l0 x29_2).f1))) w.heap.size (fun _ => True) u6 x6_2) := ⟨by (with_reducible repeat (first | apply Kd.R_alloc | apply Kd.R_drewN | apply Kd.R_drew)); exact Kd.R_mono (Kd.R_far (p := ⟨gb276, 1, none⟩) (Kd.R_far (p := ⟨gb276, 0, none⟩) (Kd.R_types HO_6.out BK276.out (by decide)) (fun _ hk => hk.2) (.string ((rd_T141 l0 x29_2).f0))) (fun _ hk => hk.2) (.string ((rd_T141 l0 x29_2).f1))) (fun _ hk => trivial)⟩
          have n1_ : Aside0 (((w19.setCell ⟨gb276, 0, none⟩ (.string ((rd_T141 l0 x29_2).f0))).setCell ⟨gb276, 1, none⟩ (.string ((rd_T141 l0 x29_2).f1))).heap[gb276]? = some (.cells #[.string ((rd_T141 l0 x29_2).f0), .string ((rd_T141 l0 x29_2).f1)] 141 (0, 0))) := ⟨by (with_reducible repeat (first | refine blk_drewN ?_ _ | refine blk_drew ?_ | refine blk_alloc ?_ _)); refine blk_put (cs := #[.string ((rd_T141 l0 x29_2).f0), .string (⟨#[]⟩ : ByteArray)]) ?_ 1 _ rfl; (with_reducible repeat (first | refine blk_drewN ?_ _ | refine blk_drew ?_ | refine blk_alloc ?_ _)); refine blk_put (cs := #[.string (⟨#[]⟩ : ByteArray), .string (⟨#[]⟩ : ByteArray)]) ?_ 0 _ rfl; (with_reducible repeat (first | refine blk_drewN ?_ _ | refine blk_drew ?_ | refine blk_alloc ?_ _)); exact BK276.out⟩
          have n2_ : Aside0 (Below w.heap.size w ((w19.setCell ⟨gb276, 0, none⟩ (.string ((rd_T141 l0 x29_2).f0))).setCell ⟨gb276, 1, none⟩ (.string ((rd_T141 l0 x29_2).f1)))) := ⟨by repeat ((with_reducible first | exact HB.out | refine below_set ?_ GE276.out))⟩
          (try clear HO_6)
          (try clear BK276)
          (try clear HB)
          generalize ((w19.setCell ⟨gb276, 0, none⟩ (.string ((rd_T141 l0 x29_2).f0))).setCell ⟨gb276, 1, none⟩ (.string ((rd_T141 l0 x29_2).f1))) = w21 at n0_ n1_ n2_ ⊢
          have HO_6 := n0_
          have BK276 := n1_
          have HB := n2_
          clear n0_ n1_ n2_
          have n0_ := Aside0.mk (Kd.R_drew HO_6.out)
          have n1_ := Aside0.mk (blk_drew BK276.out)
          have n2_ := Aside0.mk (below_drew1 HB.out)
          clear HO_6
          clear BK276
          clear HB
          have HO_6 := n0_
          have BK276 := n1_
          have HB := n2_
          clear n0_ n1_ n2_
          refine start_ (n := 10) (S := fun w' => w'.cell? ⟨gb276, 0, none⟩ = some (.string ((rd_T141 l0 x29_2).f0)) ∧ w'.cell? ⟨gb276, 1, none⟩ = some (.string ((rd_T141 l0 x29_2).f1))) (ds := []) #[false, false, false, false, false, false, false, false, false, false] (by kernel_rfl) rfl rfl ⟨(blk_cell BK276.out 0).trans rfl, (blk_cell BK276.out 1).trans rfl⟩ (fun hHeld => ?_); refine with_tabW impl_EncodeKey.tab8 impl_EncodeKey.bits8 (fun HT_ HW_ => ?_)
          generalize w21.drew = w22 at HO_6 BK276 HB hHeld ⊢
          refine Bk.pu_ 0 (some 33) (h := ?_)
          refine Bk.pu_ 1 (some 34) (h := ?_)
          refine Bk.pu_ 4 (some 37) (h := ?_)
          refine Bk.tk_ 2 (some 35) (hy := by rintro w' ⟨s0, s1⟩; go_simp; with_reducible rfl) (hS := hHeld) (h := ?_)
          refine Bk.tk_ 5 (some 38) (hy := by rintro w' ⟨s0, s1⟩; go_simp; with_reducible rfl) (hS := hHeld) (h := ?_)
          refine one_ (i := 3) (N := some 36) #[true, true, true, true, true, true, false, false, false, false] rfl rfl (one_of HT_.out (by kernel_rfl)) (by decide) (fun K hK => ?_)
          refine goes_ Tryz.func161 (by kernel_rfl) rfl #[.string ((rd_T141 l0 x29_2).f0)] (by rfl) rfl rfl (by (try simp only [List.map_toArray, List.map_cons, List.map_nil]); first | done | rfl) ?_
          with_reducible refine (impl_s8.calls ((rd_T141 l0 x29_2).f0) t277 _ A16.out).mono ?_
          rintro e w23 ⟨rfl, hb⟩
          refine ⟨_, rfl, ?_⟩
          have n0_ := Aside0.mk (Kd.R_below (by (with_reducible repeat (first | apply Kd.R_alloc | apply Kd.R_drewN | apply Kd.R_drew)); exact HO_6.out) hb)
          have n1_ := Aside0.mk (blk_below (g := gb276) (o := .cells #[.string ((rd_T141 l0 x29_2).f0), .string ((rd_T141 l0 x29_2).f1)] 141 (0, 0)) (by (with_reducible repeat (first | refine blk_drewN ?_ _ | refine blk_drew ?_ | refine blk_alloc ?_ _)); exact BK276.out) hb)
          have n2_ := Aside0.mk (below_step (by repeat ((with_reducible exact HB.out))) hb)
          clear HO_6
          clear BK276
          clear HB
          have HO_6 := n0_
          have BK276 := n1_
          have HB := n2_
          clear n0_ n1_ n2_
          (try clear hb)
          refine hK.out _ _ ⟨(blk_cell BK276.out 0).trans rfl, (blk_cell BK276.out 1).trans rfl⟩ (fun hHeld => ?_)
          clear hK K
          refine Bk.nm_ (some 36) _ (h := ?_)
          refine one_ (i := 6) (N := some 39) #[true, true, true, true, true, true, true, false, false, false] rfl rfl (one_of HT_.out (by kernel_rfl)) (by decide) (fun K hK => ?_)
          refine goes_ Tryz.func162 (by kernel_rfl) rfl #[.string ((rd_T141 l0 x29_2).f1)] (by rfl) rfl rfl (by (try simp only [List.map_toArray, List.map_cons, List.map_nil]); first | done | rfl) ?_
          with_reducible refine (impl_s16.calls ((rd_T141 l0 x29_2).f1) t278 _ A17.out).mono ?_
          rintro e w24 ⟨rfl, hb⟩
          refine ⟨_, rfl, ?_⟩
          have n0_ := Aside0.mk (Kd.R_below (by (with_reducible repeat (first | apply Kd.R_alloc | apply Kd.R_drewN | apply Kd.R_drew)); exact HO_6.out) hb)
          have n1_ := Aside0.mk (blk_below (g := gb276) (o := .cells #[.string ((rd_T141 l0 x29_2).f0), .string ((rd_T141 l0 x29_2).f1)] 141 (0, 0)) (by (with_reducible repeat (first | refine blk_drewN ?_ _ | refine blk_drew ?_ | refine blk_alloc ?_ _)); exact BK276.out) hb)
          have n2_ := Aside0.mk (below_step (by repeat ((with_reducible exact HB.out))) hb)
          clear HO_6
          clear BK276
          clear HB
          have HO_6 := n0_
          have BK276 := n1_
          have HB := n2_
          clear n0_ n1_ n2_
          (try clear hb)
          refine hK.out _ _ ⟨(blk_cell BK276.out 0).trans rfl, (blk_cell BK276.out 1).trans rfl⟩ (fun hHeld => ?_)
          clear hK K
          refine Bk.nm_ (some 39) _ (h := ?_)
          refine one_ (i := 7) (N := some 40) #[true, true, true, true, true, true, true, true, false, false] rfl rfl (one_of HT_.out (by kernel_rfl)) (by decide) (fun K hK => ?_)
          refine Kd.R_lit_step Kd.string _ 9 ?hg (N := 40) ?hd (xs := ([t277, t278] : List ByteArray)) (inner := [.string t277, .string t278]) (ok := fun _ => True) (okp := fun _ => True) ?hr ?hp (fun _ hk => hk) trivial (Below.refl _ _) (Nat.le_refl _) (by simp) ?_; (case hd => rfl); (case hg => rfl); (case hr => (go_simp; done)); (case hp => exact (Reps.one (show Kd.M Kd.string _ _ _ t277 [.string t277] from rfl) (Reps.one (show Kd.M Kd.string _ _ _ t278 [.string t278] from rfl) (Reps.none _ _))))
          intro v280 w25 ho26 hb hg_ hnew_
          clear hg_ hnew_
          (rw [← Ny279.out] at ho26)
          have n0_ := Aside0.mk (Kd.R_elder' (by (with_reducible repeat (first | apply Kd.R_alloc | apply Kd.R_drewN | apply Kd.R_drew)); exact HO_6.out) (Kd.R_base ho26) hb)
          have n1_ := Aside0.mk (Kd.R_lower (Kd.R_new' ho26 (Kd.R_lt (by (with_reducible repeat (first | apply Kd.R_alloc | apply Kd.R_drewN | apply Kd.R_drew)); exact HO_6.out))) (below_size (by repeat ((with_reducible exact HB.out)))))
          have n2_ := Aside0.mk (blk_below (g := gb276) (o := .cells #[.string ((rd_T141 l0 x29_2).f0), .string ((rd_T141 l0 x29_2).f1)] 141 (0, 0)) (by (with_reducible repeat (first | refine blk_drewN ?_ _ | refine blk_drew ?_ | refine blk_alloc ?_ _)); exact BK276.out) hb)
          have n3_ := Aside0.mk (below_step (by repeat ((with_reducible exact HB.out))) hb)
          clear HO_6
          clear BK276
          clear HB
          have HO_6 := n0_
          have HO281 := n1_
          have BK276 := n2_
          have HB := n3_
          clear n0_ n1_ n2_ n3_
          clear hb ho26
          obtain ⟨Ao28, co28, eo28⟩ := Kd.R_slice HO281.out
          (subst eo28)
          refine hK.out _ _ ⟨(blk_cell BK276.out 0).trans rfl, (blk_cell BK276.out 1).trans rfl⟩ (fun hHeld => ?_)
          clear hK K
          refine Bk.nm_ (some 40) _ (h := ?_)
          refine one_ (i := 8) (N := some 41) #[true, true, true, true, true, true, true, true, true, false] rfl rfl (one_of HT_.out (by kernel_rfl)) (by decide) (fun K hK => ?_)
          refine Kd.R_append_rows_step Kd.string (w0 := w) w.heap.size (by rfl) (.tmp 33) (.tmp 40) 117 9 (.string ⟨#[]⟩) 16 rfl Tryz.underlying117 info9 rfl (by decide) (by omega) u6 x6_2 y279 _ _ _ (fun k_ => some k_ ≠ (.slice Ao28 y279.length co28 : Value).ownBlock) (fun _ => False) rfl rfl ?aO ?aR (fun _ _ h => h) (fun _ h => h.elim) ?aF ?aB ?aS ?aL ?_
          (case aR => repeat (exact (Kd.R_reads' HO281.out).2.2))
          (case aB => exact (by repeat ((with_reducible exact HB.out))))
          (case aF => exact (fun k_ hk => Kd.fresh' (Kd.R_lt (by (with_reducible repeat (first | apply Kd.R_alloc | apply Kd.R_drewN | apply Kd.R_drew)); exact HO281.out)) k_ hk))
          (case aO => exact (by (with_reducible repeat (first | apply Kd.R_alloc | apply Kd.R_drewN | apply Kd.R_drew)); exact Kd.R_mono HO_6.out (fun _ hk => hk.2)))
          (case aS => exact (below_size (by repeat ((with_reducible exact HB.out)))))
          (case aL => have := LMc18.out; omega)
          intro v283 w27 ho hb hg hat
          rw [← Ny282.out] at ho
          have n0_ := Aside0.mk (blk_grown (g := gb276) (o := .cells #[.string ((rd_T141 l0 x29_2).f0), .string ((rd_T141 l0 x29_2).f1)] 141 (0, 0)) (by (with_reducible repeat (first | refine blk_drewN ?_ _ | refine blk_drew ?_ | refine blk_alloc ?_ _)); exact BK276.out) hg (Kd.R_ne HO_6.out BK276.out (by decide)))
          have n2_ := Aside0.mk (hb)
          have n3_ := Aside0.mk (ho)
          clear BK276
          clear HO281
          clear HB
          clear HO_6
          have BK276 := n0_
          have HB := n2_
          have HO284 := n3_
          clear n0_ n2_ n3_
          clear ho hb hg hat
          refine hK.out _ _ ⟨(blk_cell BK276.out 0).trans rfl, (blk_cell BK276.out 1).trans rfl⟩ (fun hHeld => ?_)
          clear hK K
          refine Bk.nm_ (some 41) _ (h := ?_)
          refine Bk.pu_ 9 (some 6) (h := ?_)
          refine done_ (done_of HT_.out (by kernel_rfl)) ?_
          try go_wp2
          go_roundg k2
          case measure => have := HJ2.out; have := HK2.out; omega
          case rel => exact ⟨(y282), (wrap64 (x29_2 + 1)), (by rfl), H', ⟨by have := HJ2.out; have := HK2.out; omega⟩, ⟨by (with_reducible repeat (first | apply Kd.R_alloc | apply Kd.R_drewN | apply Kd.R_drew)); exact Kd.R_mono HO284.out (fun _ hk => trivial)⟩, ⟨by repeat ((with_reducible exact HB.out))⟩⟩
         ·rw [if_neg c18] at H
          exact absurd H (by simp)
        ·rw [if_neg c15] at H
         exact absurd H (by simp)
       ·rw [if_neg c14] at H
        exact absurd H (by simp)
      ·rw [if_neg c13] at H
       have c13b0 : decide (x29_2 < (l0.length : Int)) = false := decide_eq_false c13
       clear c13
       replace H := Option.bind_eq_some_iff.mp H
       obtain ⟨⟨t285, t286⟩, A290, H⟩ := H
       replace H : (some t285) = some r := H
       have A29 := Aside0.mk A290
       clear A290
       obtain rfl := Option.some.inj H
       obtain ⟨Ao30, co30, eo30⟩ := Kd.R_slice HO_6.out
       subst eo30
       go_wp2_with (((with_reducible refine gate_callee (f := 163) rfl ?_); refine goesL_ (some 44) rfl rfl Tryz.func163 (by kernel_rfl) rfl #[.slice Ao30 x6_2.length co30] rfl (by (try simp only [List.map_toArray, List.map_cons, List.map_nil]); first | done | rfl) ?_; (with_reducible refine (impl_join.calls (fun k_ => some k_ = (.slice Ao30 x6_2.length co30 : Value).ownBlock) (.slice Ao30 x6_2.length co30) x6_2 t285 t286 w _ ?side1 ?side2 A29.out).mono ?_); (case side1 => repeat ((with_reducible exact HB.out))); (case side2 => exact Kd.R_tight rfl HO_6.out); rintro e w31 ⟨rfl, hy0, hb, hkp⟩; refine ⟨_, rfl, ?_⟩; have n1_ := Aside0.mk (hb); clear HO_6; clear HB; have HB := n1_; clear n1_; (try clear hb); (try clear hkp); (try clear hy0)))
       go_ret
       exact ⟨by rfl, by repeat ((with_reducible exact HB.out))⟩
end
noncomputable section
/-! ### impl_DecodeKey: function 88 -/
def impl_DecodeKey.l0 : Nat → ByteArray → List (S141) → Int → Int → ByteArray → Option ((List (S141)) × Bool)
 | 0, _, _, _, _, _ => none
 | k + 1, x0, x5, x9, x10, x288000 => if x10 < x9 then ((impl_source_s8.f x288000).bind fun bt290 => ((impl_source_s16.f bt290.2).bind fun bt292 => (if x5.length < 4398046511104 then (impl_DecodeKey.l0 k x0 (x5 ++ [(⟨bt290.1, bt292.1⟩ : S141)]) x9 (wrap64 (x10 + 1)) bt292.2) else (none)))) else (if x0.toList = ([] : List UInt8) then (some (([] : List (S141)), false)) else ((impl_EncodeKey.f k x5).bind fun t297 => (if t297.toList = x0.toList then (some (x5, true)) else (some (([] : List (S141)), false)))))
def impl_DecodeKey.f (k : Nat) (a0 : ByteArray) : Option ((List (S141)) × Bool) := (impl_source_num.f a0 1).bind fun bt288 => (impl_DecodeKey.l0 k a0 ([] : List (S141)) bt288.1 0 bt288.2)
theorem impl_DecodeKey.mono_l : ∀ k, (∀ y0 y1 y2 y3 y4, LeO (impl_DecodeKey.l0 k y0 y1 y2 y3 y4) (impl_DecodeKey.l0 (k + 1) y0 y1 y2 y3 y4))
 | 0 => fun _ _ _ _ _ r h => by simp [impl_DecodeKey.l0] at h
 | k + 1 => by
  have ih0 := impl_DecodeKey.mono_l k
  ·intro y0 y1 y2 y3 y4
   unfold impl_DecodeKey.l0
   repeat' first
   | (with_reducible exact ih0 _ _ _ _ _)
   | (with_reducible exact impl_EncodeKey.mono _ _)
   | (with_reducible exact LeO.refl _)
   | (with_reducible refine LeO.ite ?_ ?_)
   | (with_reducible refine LeO.bind ?_ (fun _ => ?_))
theorem impl_DecodeKey.mono : ∀ a0 k, LeO (impl_DecodeKey.f k a0) (impl_DecodeKey.f (k + 1) a0) := by
 intro a0 k
 have ih0 := impl_DecodeKey.mono_l k
 unfold impl_DecodeKey.f
 repeat' first
   | (with_reducible exact ih0 _ _ _ _ _)
   | (with_reducible exact LeO.refl _)
   | (with_reducible refine LeO.bind ?_ (fun _ => ?_))
set_option maxHeartbeats 8000000 in
set_option maxRecDepth 100000 in
theorem impl_DecodeKey.calls (k : Nat) (a0 : ByteArray) (r1 : List (S141)) (r2 : Bool) (w : World) (h : impl_DecodeKey.f k a0 = some (r1, r2)) (hT_ : Tabs w) :
  Calls Tryz.prog 88 #[.string a0] w fun e w' => ∃ v0_ : Value, e = .returned (.tuple #[v0_, .bool r2]) ∧ Kd.R k141 141 w' w.heap.size (fun _ => True) v0_ r1 ∧ Below w.heap.size w w' := by
 have HT := Aside0.mk hT_
 clear hT_
 have HB := Aside0.mk (Below.refl w.heap.size w)
 have H : ((impl_source_num.f a0 1).bind fun bt288 => (impl_DecodeKey.l0 k a0 ([] : List (S141)) bt288.1 0 bt288.2)) = some (r1, r2) := h
 clear h
 replace H := Option.bind_eq_some_iff.mp H
 obtain ⟨⟨t288, t289⟩, A20, H⟩ := H
 replace H : (impl_DecodeKey.l0 k a0 ([] : List (S141)) t288 0 t289) = some (r1, r2) := H
 have A2 := Aside0.mk A20
 clear A20
 have H' := Aside0.mk H
 clear H
 go_enter Tryz.func88, Tryz.ntmps88
 go_wp2_with (first | ((with_reducible refine gate_dst (N := 4) rfl ?_); refine box_event ?hg (N := 4) ?hd (cs := #[.string (⟨#[]⟩ : ByteArray)]) (t := 189) ?hr ?_; (case hd => rfl); (case hg => rfl); (case hr => (go_simp; done)); intro gb287 hg w3 hbox hb; have n0_ := Aside0.mk (below_step (by repeat ((with_reducible exact HB.out))) hb); have n1_ := Aside0.mk (show IsS189 w w3 gb287 (⟨#[]⟩ : ByteArray) from ⟨hbox, (by rw [hg]; exact (below_size (by repeat ((with_reducible exact HB.out)))) : w.heap.size ≤ gb287)⟩); clear HB; have HB := n0_; have HI287 := n1_; clear n0_ n1_; clear hb hbox hg; obtain ⟨HGz4, hgz4⟩ := HI287.out; have hcz4_0 := cellS189_0 HGz4; have hfz4_0 := blk_frozen HGz4 0; clear HGz4 hgz4) | ((with_reducible refine gate_callee (f := 133) rfl ?_); refine goesL_ (some 9) rfl rfl Tryz.func133 (by kernel_rfl) rfl #[.pointer (some ⟨gb287, 0, none⟩), .int .i64 1] rfl (by (try simp only [List.map_toArray, List.map_cons, List.map_nil]); first | done | rfl) ?_; (with_reducible refine (impl_source_num.calls gb287 a0 1 t288 t289 w _ ?side1 ?side2 A2.out).mono ?_); (case side1 => repeat ((with_reducible first | exact HI287.out | apply IsS189.set_0))); (case side2 => repeat ((with_reducible first | exact HB.out | refine below_set ?_ (IsS189.ge HI287.out)))); rintro e w5 ⟨rfl, hi, hb, hk⟩; refine ⟨_, rfl, ?_⟩; have n0_ := Aside0.mk (hb); have n1_ := Aside0.mk (hi); clear HB; clear HI287; have HB := n0_; have HI287 := n1_; clear n0_ n1_; (try clear hb); (try clear hk); (try clear hi)))
 go_loopg [5, 10] k (fun kq v5 v10 w' => ∃ (x5_1 : List (S141)) (x10_1 : Int) (x288000_1 : ByteArray), v10 = .int .i64 x10_1 ∧ Aside0 (impl_DecodeKey.l0 kq a0 x5_1 t288 x10_1 x288000_1 = some (r1, r2)) ∧ Aside0 (kq ≤ k) ∧ Aside0 (Kd.R k141 141 w' w.heap.size (fun _ => True) v5 x5_1) ∧ Aside0 (IsS189 w w' gb287 x288000_1) ∧ Aside0 (Below w.heap.size w w'))
 case atStart => exact ⟨(([] : List (S141))), (0), (t289), (by rfl), H', ⟨Nat.le_refl _⟩, ⟨by exact Kd.R_nil _ _ _ _ _⟩, ⟨by repeat ((with_reducible exact HI287.out))⟩, ⟨by repeat ((with_reducible exact HB.out))⟩⟩
 case round =>
  clear H'
  try clear hcz4_0
  try clear hfz4_0
  obtain ⟨x5_1, x10_1, x288000_1, rfl, HA, HK1, HO_5, HI287, HB⟩ := hrel
  cases gk with
  | zero => exact absurd HA.out (by simp [impl_DecodeKey.l0])
  | succ k1 =>
   have H := HA.out
   clear HA
   simp only [impl_DecodeKey.l0] at H
   by_cases c6 : x10_1 < t288
   ·rw [if_pos c6] at H
    have c6b0 : decide (x10_1 < t288) = true := decide_eq_true c6
    clear c6
    replace H := Option.bind_eq_some_iff.mp H
    obtain ⟨⟨t290, t291⟩, A70, H⟩ := H
    replace H : ((impl_source_s16.f t291).bind fun bt292 => (if x5_1.length < 4398046511104 then (impl_DecodeKey.l0 k1 a0 (x5_1 ++ [(⟨t290, bt292.1⟩ : S141)]) t288 (wrap64 (x10_1 + 1)) bt292.2) else (none))) = some (r1, r2) := H
    have A7 := Aside0.mk A70
    clear A70
    replace H := Option.bind_eq_some_iff.mp H
    obtain ⟨⟨t292, t293⟩, A80, H⟩ := H
    replace H : (if x5_1.length < 4398046511104 then (impl_DecodeKey.l0 k1 a0 (x5_1 ++ [(⟨t290, t292⟩ : S141)]) t288 (wrap64 (x10_1 + 1)) t293) else (none)) = some (r1, r2) := H
    have A8 := Aside0.mk A80
    clear A80
    by_cases c9 : x5_1.length < 4398046511104
    ·rw [if_pos c9] at H
     have LMc9 := Aside0.mk c9
     clear c9
     obtain ⟨y294, hy294⟩ : ∃ y_ : List (S141), y_ = (x5_1 ++ [(⟨t290, t292⟩ : S141)]) := ⟨_, rfl⟩
     replace H : (impl_DecodeKey.l0 k1 a0 y294 t288 (wrap64 (x10_1 + 1)) t293) = some (r1, r2) := by (rw [hy294]; with_reducible exact H)
     have Ny294 := Aside0.mk hy294
     clear hy294
     have H' := Aside0.mk H
     clear H
     go_wp2_with (first | ((with_reducible refine gate_callee (f := 134) rfl ?_); refine goesL_ (some 12) rfl rfl Tryz.func134 (by kernel_rfl) rfl #[.pointer (some ⟨gb287, 0, none⟩)] rfl (by (try simp only [List.map_toArray, List.map_cons, List.map_nil]); first | done | rfl) ?_; (with_reducible refine (impl_source_s8.calls gb287 x288000_1 t290 t291 w _ ?side1 ?side2 A7.out).mono ?_); (case side1 => repeat ((with_reducible exact HI287.out))); (case side2 => repeat ((with_reducible exact HB.out))); rintro e w10 ⟨rfl, hi, hb, hk⟩; refine ⟨_, rfl, ?_⟩; have n0_ := Aside0.mk (Kd.R_mono (Kd.R_keep (IsS189.apart (show IsS189 w _ gb287 x288000_1 from by repeat ((with_reducible exact HI287.out))) (by (with_reducible repeat (first | apply Kd.R_alloc | apply Kd.R_drewN | apply Kd.R_drew)); exact HO_5.out) (by decide)) hk (fun _ h => h.2)) (fun _ h => h.1)); have n1_ := Aside0.mk (hb); have n2_ := Aside0.mk (hi); clear HO_5; clear HB; clear HI287; have HO_5 := n0_; have HB := n1_; have HI287 := n2_; clear n0_ n1_ n2_; (try clear hb); (try clear hk); (try clear hi)) | ((with_reducible refine gate_callee (f := 135) rfl ?_); refine goesL_ (some 15) rfl rfl Tryz.func135 (by kernel_rfl) rfl #[.pointer (some ⟨gb287, 0, none⟩)] rfl (by (try simp only [List.map_toArray, List.map_cons, List.map_nil]); first | done | rfl) ?_; (with_reducible refine (impl_source_s16.calls gb287 t291 t292 t293 w _ ?side1 ?side2 A8.out).mono ?_); (case side1 => repeat ((with_reducible exact HI287.out))); (case side2 => repeat ((with_reducible exact HB.out))); rintro e w11 ⟨rfl, hi, hb, hk⟩; refine ⟨_, rfl, ?_⟩; have n0_ := Aside0.mk (Kd.R_mono (Kd.R_keep (IsS189.apart (show IsS189 w _ gb287 t291 from by repeat ((with_reducible exact HI287.out))) (by (with_reducible repeat (first | apply Kd.R_alloc | apply Kd.R_drewN | apply Kd.R_drew)); exact HO_5.out) (by decide)) hk (fun _ h => h.2)) (fun _ h => h.1)); have n1_ := Aside0.mk (hb); have n2_ := Aside0.mk (hi); clear HO_5; clear HB; clear HI287; have HO_5 := n0_; have HB := n1_; have HI287 := n2_; clear n0_ n1_ n2_; (try clear hb); (try clear hk); (try clear hi)) | ((with_reducible refine gate_builtin (b := .append) (xs := #[.tmp 13, .tmp 17]) rfl ?_); at_builtin; refine Kd.R_append k141 (w0 := w) w.heap.size rfl (.tmp 13) (.tmp 17) 65 141 (.agg #[(.string ⟨#[]⟩), (.string ⟨#[]⟩)]) 32 rfl Tryz.underlying65 info141 rfl (by decide) (by omega) u5 x5_1 (⟨t290, t292⟩ : S141) [.string t290, .string t292] (fun _ => True) (fun _ => False) rfl rfl ?aP (fun _ hk => hk.elim) ?aF ?aO ?aB ?aS ?aL ?_; (case aP => exact k141_mkM _ _ _ (⟨t290, t292⟩ : S141)); (case aB => exact (by repeat ((with_reducible exact HB.out)))); (case aF => exact (fun _ _ => trivial)); (case aO => exact (by (with_reducible repeat (first | apply Kd.R_alloc | apply Kd.R_drewN | apply Kd.R_drew)); exact HO_5.out)); (case aS => exact (below_size (by repeat ((with_reducible exact HB.out))))); (case aL => have := LMc9.out; omega); intro v295 w12 ho hb hg hat; rw [← Ny294.out] at ho; have n0_ := Aside0.mk (IsS189.grown (by repeat ((with_reducible exact HI287.out))) hg (IsS189.own_ne HI287.out HO_5.out (by decide))); have n1_ := Aside0.mk (hb); have n2_ := Aside0.mk (ho); clear HI287; clear HB; clear HO_5; have HI287 := n0_; have HB := n1_; have HO296 := n2_; clear n0_ n1_ n2_; clear ho hb hg hat))
     go_roundg k1
     case measure => have := HK1.out; omega
     case rel => exact ⟨(y294), (wrap64 (x10_1 + 1)), (t293), (by rfl), H', ⟨by have := HK1.out; omega⟩, ⟨by (with_reducible repeat (first | apply Kd.R_alloc | apply Kd.R_drewN | apply Kd.R_drew)); exact HO296.out⟩, ⟨by repeat ((with_reducible exact HI287.out))⟩, ⟨by repeat ((with_reducible exact HB.out))⟩⟩
    ·rw [if_neg c9] at H
     exact absurd H (by simp)
   ·rw [if_neg c6] at H
    have c6b0 : decide (x10_1 < t288) = false := decide_eq_false c6
    clear c6
    by_cases c13 : a0.toList = ([] : List UInt8)
    ·rw [if_pos c13] at H
     have c13b0 : (a0.toList == ([] : List UInt8)) = true := beq_iff_eq.mpr c13
     clear c13
     simp only [Option.some.injEq, Prod.mk.injEq] at H
     obtain ⟨rfl, rfl⟩ := H
     go_wp2
     go_ret2
     exact ⟨_, by rfl, by exact Kd.R_nil _ _ _ _ _, by repeat ((with_reducible exact HB.out))⟩
    ·rw [if_neg c13] at H
     have c13b0 : (a0.toList == ([] : List UInt8)) = false := beq_eq_false_iff_ne.mpr c13
     replace H := Option.bind_eq_some_iff.mp H
     obtain ⟨t297, A140, H⟩ := H
     replace H : (if t297.toList = a0.toList then (some (x5_1, true)) else (some (([] : List (S141)), false))) = some (r1, r2) := H
     have A14 := Aside0.mk A140
     clear A140
     by_cases c15 : t297.toList = a0.toList
     ·rw [if_pos c15] at H
      have c15b0 : (t297.toList == a0.toList) = true := beq_iff_eq.mpr c15
      clear c15
      simp only [Option.some.injEq, Prod.mk.injEq] at H
      obtain ⟨rfl, rfl⟩ := H
      obtain ⟨Ao16, co16, eo16⟩ := Kd.R_slice HO_5.out
      subst eo16
      go_wp2_with ((go_at_call 136; (with_reducible refine (impl_EncodeKey.calls k1 _ _ x5_1 t297 _ ?side1 ?side2 A14.out (Tabs.below HT.out (by repeat ((with_reducible exact HB.out))))).mono ?_); (case side1 => repeat (exact (Kd.R_reads' HO_5.out).2.2)); (case side2 => exact (Kd.R_reads' HO_5.out).2.1); rintro e w17 ⟨rfl, hb⟩; have n0_ := Aside0.mk (Kd.R_below (by (with_reducible repeat (first | apply Kd.R_alloc | apply Kd.R_drewN | apply Kd.R_drew)); exact HO_5.out) hb); have n2_ := Aside0.mk (below_step (by repeat ((with_reducible exact HB.out))) hb); clear HO_5; clear HI287; clear HB; have HO_5 := n0_; have HB := n2_; clear n0_ n2_; (try clear hb)))
      go_ret2
      exact ⟨_, by rfl, by (with_reducible repeat (first | apply Kd.R_alloc | apply Kd.R_drewN | apply Kd.R_drew)); exact HO_5.out, by repeat ((with_reducible exact HB.out))⟩
     ·rw [if_neg c15] at H
      have c15b0 : (t297.toList == a0.toList) = false := beq_eq_false_iff_ne.mpr c15
      simp only [Option.some.injEq, Prod.mk.injEq] at H
      obtain ⟨rfl, rfl⟩ := H
      obtain ⟨Ao18, co18, eo18⟩ := Kd.R_slice HO_5.out
      subst eo18
      go_wp2_with ((go_at_call 136; (with_reducible refine (impl_EncodeKey.calls k1 _ _ x5_1 t297 _ ?side1 ?side2 A14.out (Tabs.below HT.out (by repeat ((with_reducible exact HB.out))))).mono ?_); (case side1 => repeat (exact (Kd.R_reads' HO_5.out).2.2)); (case side2 => exact (Kd.R_reads' HO_5.out).2.1); rintro e w19 ⟨rfl, hb⟩; have n2_ := Aside0.mk (below_step (by repeat ((with_reducible exact HB.out))) hb); clear HO_5; clear HI287; clear HB; have HB := n2_; clear n2_; (try clear hb)))
      go_ret2
      exact ⟨_, by rfl, by exact Kd.R_nil _ _ _ _ _, by repeat ((with_reducible exact HB.out))⟩
end
/-! ### laws_eqMetricLimit: function 171 -/
def laws_eqMetricLimit.f (a0_0 : ByteArray) (a0_1 : Int) (a1_0 : ByteArray) (a1_1 : Int) : Option (Bool) := if a0_0.toList = a1_0.toList then (if a0_1 = a1_1 then (some true) else (some false)) else (some false)
set_option maxHeartbeats 8000000 in
set_option maxRecDepth 100000 in
theorem laws_eqMetricLimit.calls (a0_0 : ByteArray) (a0_1 : Int) (a1_0 : ByteArray) (a1_1 : Int) (r : Bool) (w : World) (h : laws_eqMetricLimit.f a0_0 a0_1 a1_0 a1_1 = some r) :
  Calls Tryz.prog 171 #[.agg #[.string a0_0, .int .i64 a0_1], .agg #[.string a1_0, .int .i64 a1_1]] w fun e w' => e = .returned (.bool r) ∧ Below w.heap.size w w' := by
 have hu91 := Tryz.underlying91
 have HB := Aside0.mk (Below.refl w.heap.size w)
 have H : (if a0_0.toList = a1_0.toList then (if a0_1 = a1_1 then (some true) else (some false)) else (some false)) = some r := h
 clear h
 by_cases c3 : a0_0.toList = a1_0.toList
 ·rw [if_pos c3] at H
  have c3b0 : (a0_0.toList == a1_0.toList) = true := beq_iff_eq.mpr c3
  have c3b1 : (a0_0.toList != a1_0.toList) = false := bne_eq_false_iff_eq.mpr c3
  clear c3
  by_cases c4 : a0_1 = a1_1
  ·rw [if_pos c4] at H
   have c4b0 : (a0_1 == a1_1) = true := beq_iff_eq.mpr c4
   have c4b1 : (a0_1 != a1_1) = false := bne_eq_false_iff_eq.mpr c4
   clear c4
   obtain rfl := Option.some.inj H
   go_enter Tryz.func171, Tryz.ntmps171
   go_wp2_with (first | ((with_reducible refine gate_dst (N := 2) rfl ?_); refine box_event ?hg (N := 2) ?hd (cs := #[.string a0_0, .int .i64 a0_1]) (t := 91) ?hr ?_; (case hd => rfl); (case hg => rfl); (case hr => first | (go_simp; done) | (go_simp; rfl)); intro gb317 hg w5 hbox hb; have n0_ := Aside0.mk (below_step (by repeat (first | (with_reducible first | exact HB.out | apply below_alloc | apply pw_below_drewN | apply below_drew1) | exact HB.out)) hb); have n1_ := Aside0.mk (hbox); have n2_ := Aside0.mk ((by rw [hg]; exact (below_size (by repeat (first | (with_reducible first | exact HB.out | apply below_alloc | apply pw_below_drewN | apply below_drew1) | exact HB.out))) : w.heap.size ≤ gb317)); have n3_ := Aside0.mk ((by rw [hg]; exact (below_size (by repeat (first | (with_reducible first | exact HB.out | apply below_alloc | apply pw_below_drewN | apply below_drew1) | exact HB.out))) : w.heap.size ≤ gb317)); clear HB; have HB := n0_; have BK317 := n1_; have GW317 := n2_; have GE317 := n3_; clear n0_ n1_ n2_ n3_; clear hb hbox hg) | ((with_reducible refine gate_dst (N := 3) rfl ?_); refine box_event ?hg (N := 3) ?hd (cs := #[.string a1_0, .int .i64 a1_1]) (t := 91) ?hr ?_; (case hd => rfl); (case hg => rfl); (case hr => first | (go_simp; done) | (go_simp; rfl)); intro gb318 hg w6 hbox hb; have n0_ := Aside0.mk (blk_below (g := gb317) (o := .cells #[.string a0_0, .int .i64 a0_1] 91 (0, 0)) (by (with_reducible repeat (first | refine blk_drewN ?_ _ | refine blk_drew ?_ | refine blk_alloc ?_ _)); exact BK317.out) hb); have n1_ := Aside0.mk (below_step (by repeat (first | (with_reducible first | exact HB.out | apply below_alloc | apply pw_below_drewN | apply below_drew1 | refine below_set ?_ GE317.out) | exact HB.out)) hb); have n2_ := Aside0.mk (hbox); have n3_ := Aside0.mk ((by rw [hg]; exact (below_size (by repeat (first | (with_reducible first | exact HB.out | apply below_alloc | apply pw_below_drewN | apply below_drew1 | refine below_set ?_ GE317.out) | exact HB.out))) : w.heap.size ≤ gb318)); have n4_ := Aside0.mk ((by rw [hg]; exact (below_size (by repeat (first | (with_reducible first | exact HB.out | apply below_alloc | apply pw_below_drewN | apply below_drew1 | refine below_set ?_ GE317.out) | exact HB.out))) : w.heap.size ≤ gb318)); have n5_ := Aside0.mk ((by rw [hg]; exact Nat.ne_of_lt (blk_lt (g := gb317) (o := .cells #[.string a0_0, .int .i64 a0_1] 91 (0, 0)) (by (with_reducible repeat (first | refine blk_drewN ?_ _ | refine blk_drew ?_ | refine blk_alloc ?_ _)); exact BK317.out)) : gb317 ≠ gb318)); have n6_ := Aside0.mk ((by rw [hg]; exact Nat.ne_of_gt (blk_lt (g := gb317) (o := .cells #[.string a0_0, .int .i64 a0_1] 91 (0, 0)) (by (with_reducible repeat (first | refine blk_drewN ?_ _ | refine blk_drew ?_ | refine blk_alloc ?_ _)); exact BK317.out)) : gb318 ≠ gb317)); clear BK317; clear HB; have BK317 := n0_; have HB := n1_; have BK318 := n2_; have GW318 := n3_; have GE318 := n4_; have NB317_318 := n5_; have NB318_317 := n6_; clear n0_ n1_ n2_ n3_ n4_ n5_ n6_; clear hb hbox hg; have hnb7 := NB317_318.out; have hnc7 := NB318_317.out; have hcz8_0 : w6.cell? ⟨gb317, 0, none⟩ = some (.string a0_0) := (blk_cell BK317.out 0).trans rfl; have hcz8_1 : w6.cell? ⟨gb317, 1, none⟩ = some (.int .i64 a0_1) := (blk_cell BK317.out 1).trans rfl; have hfz8_0 := blk_frozen BK317.out 0; have hfz8_1 := blk_frozen BK317.out 1; have hcz9_0 : w6.cell? ⟨gb318, 0, none⟩ = some (.string a1_0) := (blk_cell BK318.out 0).trans rfl; have hcz9_1 : w6.cell? ⟨gb318, 1, none⟩ = some (.int .i64 a1_1) := (blk_cell BK318.out 1).trans rfl; have hfz9_0 := blk_frozen BK318.out 0; have hfz9_1 := blk_frozen BK318.out 1))
   go_ret
   exact ⟨by first | rfl | (simp [errW_none, errW_some] <;> rfl) | (simp [*, errW_none, errW_some] <;> rfl), by repeat (first | (with_reducible first | exact HB.out | apply below_alloc | apply pw_below_drewN | apply below_drew1 | refine below_set ?_ GE317.out | refine below_set ?_ GE318.out) | exact HB.out)⟩
  ·rw [if_neg c4] at H
   have c4b0 : (a0_1 == a1_1) = false := beq_eq_false_iff_ne.mpr c4
   have c4b1 : (a0_1 != a1_1) = true := bne_iff_ne.mpr c4
   obtain rfl := Option.some.inj H
   go_enter Tryz.func171, Tryz.ntmps171
   go_wp2_with (first | ((with_reducible refine gate_dst (N := 2) rfl ?_); refine box_event ?hg (N := 2) ?hd (cs := #[.string a0_0, .int .i64 a0_1]) (t := 91) ?hr ?_; (case hd => rfl); (case hg => rfl); (case hr => first | (go_simp; done) | (go_simp; rfl)); intro gb317 hg w10 hbox hb; have n0_ := Aside0.mk (below_step (by repeat (first | (with_reducible first | exact HB.out | apply below_alloc | apply pw_below_drewN | apply below_drew1) | exact HB.out)) hb); have n1_ := Aside0.mk (hbox); have n2_ := Aside0.mk ((by rw [hg]; exact (below_size (by repeat (first | (with_reducible first | exact HB.out | apply below_alloc | apply pw_below_drewN | apply below_drew1) | exact HB.out))) : w.heap.size ≤ gb317)); have n3_ := Aside0.mk ((by rw [hg]; exact (below_size (by repeat (first | (with_reducible first | exact HB.out | apply below_alloc | apply pw_below_drewN | apply below_drew1) | exact HB.out))) : w.heap.size ≤ gb317)); clear HB; have HB := n0_; have BK317 := n1_; have GW317 := n2_; have GE317 := n3_; clear n0_ n1_ n2_ n3_; clear hb hbox hg) | ((with_reducible refine gate_dst (N := 3) rfl ?_); refine box_event ?hg (N := 3) ?hd (cs := #[.string a1_0, .int .i64 a1_1]) (t := 91) ?hr ?_; (case hd => rfl); (case hg => rfl); (case hr => first | (go_simp; done) | (go_simp; rfl)); intro gb318 hg w11 hbox hb; have n0_ := Aside0.mk (blk_below (g := gb317) (o := .cells #[.string a0_0, .int .i64 a0_1] 91 (0, 0)) (by (with_reducible repeat (first | refine blk_drewN ?_ _ | refine blk_drew ?_ | refine blk_alloc ?_ _)); exact BK317.out) hb); have n1_ := Aside0.mk (below_step (by repeat (first | (with_reducible first | exact HB.out | apply below_alloc | apply pw_below_drewN | apply below_drew1 | refine below_set ?_ GE317.out) | exact HB.out)) hb); have n2_ := Aside0.mk (hbox); have n3_ := Aside0.mk ((by rw [hg]; exact (below_size (by repeat (first | (with_reducible first | exact HB.out | apply below_alloc | apply pw_below_drewN | apply below_drew1 | refine below_set ?_ GE317.out) | exact HB.out))) : w.heap.size ≤ gb318)); have n4_ := Aside0.mk ((by rw [hg]; exact (below_size (by repeat (first | (with_reducible first | exact HB.out | apply below_alloc | apply pw_below_drewN | apply below_drew1 | refine below_set ?_ GE317.out) | exact HB.out))) : w.heap.size ≤ gb318)); have n5_ := Aside0.mk ((by rw [hg]; exact Nat.ne_of_lt (blk_lt (g := gb317) (o := .cells #[.string a0_0, .int .i64 a0_1] 91 (0, 0)) (by (with_reducible repeat (first | refine blk_drewN ?_ _ | refine blk_drew ?_ | refine blk_alloc ?_ _)); exact BK317.out)) : gb317 ≠ gb318)); have n6_ := Aside0.mk ((by rw [hg]; exact Nat.ne_of_gt (blk_lt (g := gb317) (o := .cells #[.string a0_0, .int .i64 a0_1] 91 (0, 0)) (by (with_reducible repeat (first | refine blk_drewN ?_ _ | refine blk_drew ?_ | refine blk_alloc ?_ _)); exact BK317.out)) : gb318 ≠ gb317)); clear BK317; clear HB; have BK317 := n0_; have HB := n1_; have BK318 := n2_; have GW318 := n3_; have GE318 := n4_; have NB317_318 := n5_; have NB318_317 := n6_; clear n0_ n1_ n2_ n3_ n4_ n5_ n6_; clear hb hbox hg; have hnb12 := NB317_318.out; have hnc12 := NB318_317.out; have hcz13_0 : w11.cell? ⟨gb317, 0, none⟩ = some (.string a0_0) := (blk_cell BK317.out 0).trans rfl; have hcz13_1 : w11.cell? ⟨gb317, 1, none⟩ = some (.int .i64 a0_1) := (blk_cell BK317.out 1).trans rfl; have hfz13_0 := blk_frozen BK317.out 0; have hfz13_1 := blk_frozen BK317.out 1; have hcz14_0 : w11.cell? ⟨gb318, 0, none⟩ = some (.string a1_0) := (blk_cell BK318.out 0).trans rfl; have hcz14_1 : w11.cell? ⟨gb318, 1, none⟩ = some (.int .i64 a1_1) := (blk_cell BK318.out 1).trans rfl; have hfz14_0 := blk_frozen BK318.out 0; have hfz14_1 := blk_frozen BK318.out 1))
   go_ret
   exact ⟨by first | rfl | (simp [errW_none, errW_some] <;> rfl) | (simp [*, errW_none, errW_some] <;> rfl), by repeat (first | (with_reducible first | exact HB.out | apply below_alloc | apply pw_below_drewN | apply below_drew1 | refine below_set ?_ GE317.out | refine below_set ?_ GE318.out) | exact HB.out)⟩
 ·rw [if_neg c3] at H
  have c3b0 : (a0_0.toList == a1_0.toList) = false := beq_eq_false_iff_ne.mpr c3
  have c3b1 : (a0_0.toList != a1_0.toList) = true := bne_iff_ne.mpr c3
  obtain rfl := Option.some.inj H
  go_enter Tryz.func171, Tryz.ntmps171
  go_wp2_with (first | ((with_reducible refine gate_dst (N := 2) rfl ?_); refine box_event ?hg (N := 2) ?hd (cs := #[.string a0_0, .int .i64 a0_1]) (t := 91) ?hr ?_; (case hd => rfl); (case hg => rfl); (case hr => first | (go_simp; done) | (go_simp; rfl)); intro gb317 hg w15 hbox hb; have n0_ := Aside0.mk (below_step (by repeat (first | (with_reducible first | exact HB.out | apply below_alloc | apply pw_below_drewN | apply below_drew1) | exact HB.out)) hb); have n1_ := Aside0.mk (hbox); have n2_ := Aside0.mk ((by rw [hg]; exact (below_size (by repeat (first | (with_reducible first | exact HB.out | apply below_alloc | apply pw_below_drewN | apply below_drew1) | exact HB.out))) : w.heap.size ≤ gb317)); have n3_ := Aside0.mk ((by rw [hg]; exact (below_size (by repeat (first | (with_reducible first | exact HB.out | apply below_alloc | apply pw_below_drewN | apply below_drew1) | exact HB.out))) : w.heap.size ≤ gb317)); clear HB; have HB := n0_; have BK317 := n1_; have GW317 := n2_; have GE317 := n3_; clear n0_ n1_ n2_ n3_; clear hb hbox hg) | ((with_reducible refine gate_dst (N := 3) rfl ?_); refine box_event ?hg (N := 3) ?hd (cs := #[.string a1_0, .int .i64 a1_1]) (t := 91) ?hr ?_; (case hd => rfl); (case hg => rfl); (case hr => first | (go_simp; done) | (go_simp; rfl)); intro gb318 hg w16 hbox hb; have n0_ := Aside0.mk (blk_below (g := gb317) (o := .cells #[.string a0_0, .int .i64 a0_1] 91 (0, 0)) (by (with_reducible repeat (first | refine blk_drewN ?_ _ | refine blk_drew ?_ | refine blk_alloc ?_ _)); exact BK317.out) hb); have n1_ := Aside0.mk (below_step (by repeat (first | (with_reducible first | exact HB.out | apply below_alloc | apply pw_below_drewN | apply below_drew1 | refine below_set ?_ GE317.out) | exact HB.out)) hb); have n2_ := Aside0.mk (hbox); have n3_ := Aside0.mk ((by rw [hg]; exact (below_size (by repeat (first | (with_reducible first | exact HB.out | apply below_alloc | apply pw_below_drewN | apply below_drew1 | refine below_set ?_ GE317.out) | exact HB.out))) : w.heap.size ≤ gb318)); have n4_ := Aside0.mk ((by rw [hg]; exact (below_size (by repeat (first | (with_reducible first | exact HB.out | apply below_alloc | apply pw_below_drewN | apply below_drew1 | refine below_set ?_ GE317.out) | exact HB.out))) : w.heap.size ≤ gb318)); have n5_ := Aside0.mk ((by rw [hg]; exact Nat.ne_of_lt (blk_lt (g := gb317) (o := .cells #[.string a0_0, .int .i64 a0_1] 91 (0, 0)) (by (with_reducible repeat (first | refine blk_drewN ?_ _ | refine blk_drew ?_ | refine blk_alloc ?_ _)); exact BK317.out)) : gb317 ≠ gb318)); have n6_ := Aside0.mk ((by rw [hg]; exact Nat.ne_of_gt (blk_lt (g := gb317) (o := .cells #[.string a0_0, .int .i64 a0_1] 91 (0, 0)) (by (with_reducible repeat (first | refine blk_drewN ?_ _ | refine blk_drew ?_ | refine blk_alloc ?_ _)); exact BK317.out)) : gb318 ≠ gb317)); clear BK317; clear HB; have BK317 := n0_; have HB := n1_; have BK318 := n2_; have GW318 := n3_; have GE318 := n4_; have NB317_318 := n5_; have NB318_317 := n6_; clear n0_ n1_ n2_ n3_ n4_ n5_ n6_; clear hb hbox hg; have hnb17 := NB317_318.out; have hnc17 := NB318_317.out; have hcz18_0 : w16.cell? ⟨gb317, 0, none⟩ = some (.string a0_0) := (blk_cell BK317.out 0).trans rfl; have hcz18_1 : w16.cell? ⟨gb317, 1, none⟩ = some (.int .i64 a0_1) := (blk_cell BK317.out 1).trans rfl; have hfz18_0 := blk_frozen BK317.out 0; have hfz18_1 := blk_frozen BK317.out 1; have hcz19_0 : w16.cell? ⟨gb318, 0, none⟩ = some (.string a1_0) := (blk_cell BK318.out 0).trans rfl; have hcz19_1 : w16.cell? ⟨gb318, 1, none⟩ = some (.int .i64 a1_1) := (blk_cell BK318.out 1).trans rfl; have hfz19_0 := blk_frozen BK318.out 0; have hfz19_1 := blk_frozen BK318.out 1))
  go_ret
  exact ⟨by first | rfl | (simp [errW_none, errW_some] <;> rfl) | (simp [*, errW_none, errW_some] <;> rfl), by repeat (first | (with_reducible first | exact HB.out | apply below_alloc | apply pw_below_drewN | apply below_drew1 | refine below_set ?_ GE317.out | refine below_set ?_ GE318.out) | exact HB.out)⟩
end Go.Proofs.YtikbfjnbhogihaaGreatDoor.M
