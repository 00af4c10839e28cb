import Derived.Test.YtikbfjnbhogihaaGreatDoorM0
import Derived.Test.YtikbfjnbhogihaaGreatDoorF176
import Derived.Test.YtikbfjnbhogihaaGreatDoorSShelf
import Derived.Test.YtikbfjnbhogihaaGreatDoorMp
namespace Go.Proofs.YtikbfjnbhogihaaGreatDoor.M
open Go.RowKit Go.Proofs.YtikbfjnbhogihaaGreatDoorW.PrintWords Go.Proofs.YtikbfjnbhogihaaGreatDoorW.PrintLast Go.Proofs.YtikbfjnbhogihaaGreatDoorW.PrintMore
attribute [local go_sem] max2_int min2_int max_two min_two max_three min_three max_four min_four
set_option linter.unusedVariables false
set_option linter.unusedSimpArgs false
noncomputable section
/-! ### impl_Canon: function 158 -/
mutual
def impl_Canon.l0 : Nat → List (S141) → List (S141) → Int → Int → Option ((List (S141)) × Int × Int)
 | 0, _, _, _, _ => none
 | k + 1, x0, x17, x18, x19 => if x19 < x18 then (if 0 ≤ x19 then (if x19 < (x17.length : Int) then ((impl_isName.f k ((rd_T141 x17 x19).f0)).bind fun t243 => (if t243 = true then ((impl_valueFault.f ((rd_T141 x17 x19).f1)).bind fun t244 => (if t244 = 0 then (impl_Canon.l0 k x0 x17 x18 (wrap64 (x19 + 1))) else (some (([] : List (S141)), t244, x19)))) else (some (([] : List (S141)), 41, x19)))) else (none)) else (none)) else (impl_Canon.l1 k x0 (([] : List (S141))) false x0 (x0.length : Int) 0)
def impl_Canon.l1 : Nat → List (S141) → List (S141) → Bool → List (S141) → Int → Int → Option ((List (S141)) × Int × Int)
 | 0, _, _, _, _, _, _ => none
 | k + 1, x0, x8, x9, x38, x39, x40 => if x40 < x39 then (if 0 ≤ x40 then (if x40 < (x38.length : Int) then (if x40 ≤ (x0.length : Int) then ((some (x0.take (x40 : Int).toNat : List (S141))).bind fun y251 => (impl_Canon.l2 k x0 x8 x9 x40 x38 x39 x40 y251 (y251.length : Int) 0 ((rd_T141 x38 x40).f0) ((rd_T141 x38 x40).f1))) else (none)) else (none)) else (none)) else (if x9 = true then ((impl_Label_177.f x8).bind fun t248 => (some (t248, 0, 0))) else (some (([] : List (S141)), 46, 0)))
def impl_Canon.l2 : Nat → List (S141) → List (S141) → Bool → Int → List (S141) → Int → Int → List (S141) → Int → Int → ByteArray → ByteArray → Option ((List (S141)) × Int × Int)
 | 0, _, _, _, _, _, _, _, _, _, _, _, _ => none
 | k + 1, x0, x8, x9, x10, x38, x39, x40, x47, x48, x49, x251000, x251001 => if x49 < x48 then (if 0 ≤ x49 then (if x49 < (x47.length : Int) then (if ((rd_T141 x47 x49).f0).toList = x251000.toList then (some (([] : List (S141)), 45, x10)) else (impl_Canon.l2 k x0 x8 x9 x10 x38 x39 x40 x47 x48 (wrap64 (x49 + 1)) x251000 x251001)) else (none)) else (none)) else (if x251001.toList = ([] : List UInt8) then (impl_Canon.l1 k x0 x8 x9 x38 x39 (wrap64 (x40 + 1))) else (if x8.length < 4398046511104 then ((some (x8 ++ [(⟨x251000, x251001⟩ : S141)] : List (S141))).bind fun y257 => (if x9 = true then (impl_Canon.l1 k x0 y257 true x38 x39 (wrap64 (x40 + 1))) else (impl_Canon.l1 k x0 y257 (x251000.toList == ([95, 95, 110, 97, 109, 101, 95, 95] : List UInt8)) x38 x39 (wrap64 (x40 + 1))))) else (none)))
end
def impl_Canon.f (k : Nat) (l0 : List (S141)) : Option ((List (S141)) × Int × Int) := if (l0.length : Int) > 16 then (some (([] : List (S141)), 40, 0)) else (impl_Canon.l0 k l0 l0 (l0.length : Int) 0)
set_option maxHeartbeats 8000000 in
set_option maxRecDepth 100000 in
theorem impl_Canon.calls (k : Nat) (A0 : Option Addr) (c0 : Nat) (l0 : List (S141)) (r1 : List (S141)) (r2 : Int) (r3 : Int) (w : World) (hr0 : Kd.C k141 w A0 l0.length l0) (hc0 : l0.length ≤ c0) (h : impl_Canon.f k l0 = some (r1, r2, r3)) (hT_ : Tabs w) :
  Calls Tryz.prog 158 #[.slice A0 l0.length c0] w fun e w' => ∃ v0_ : Value, e = .returned (.tuple #[v0_, .int .i64 r2, .int .i64 r3]) ∧ Kd.R k141 141 w' w.heap.size (fun _ => True) v0_ r1 ∧ Below w.heap.size w w' := by
 have HT := Aside0.mk hT_
 clear hT_
 have HR0 := Aside0.mk hr0
 have HC0 := Aside0.mk hc0
 clear hr0 hc0
 have HB := Aside0.mk (Below.refl w.heap.size w)
 have H : (if (l0.length : Int) > 16 then (some (([] : List (S141)), 40, 0)) else (impl_Canon.l0 k l0 l0 (l0.length : Int) 0)) = some (r1, r2, r3) := h
 clear h
 by_cases c2 : (l0.length : Int) > 16
 ·rw [if_pos c2] at H
  have c2b0 : decide (16 < (l0.length : Int)) = true := decide_eq_true c2
  clear c2
  simp only [Option.some.injEq, Prod.mk.injEq] at H
  obtain ⟨rfl, rfl, rfl⟩ := H
  go_enter Tryz.func158, Tryz.ntmps158
  go_wp2
  go_ret3
  exact ⟨_, by rfl, by exact Kd.R_nil _ _ _ _ _, by repeat ((with_reducible exact HB.out))⟩
 ·rw [if_neg c2] at H
  have c2b0 : decide (16 < (l0.length : Int)) = false := decide_eq_false c2
  clear c2
  have H' := Aside0.mk H
  clear H
  go_enter Tryz.func158, Tryz.ntmps158
  go_wp2
  go_loopg [19] k (fun kq v19 w' => ∃ (x19_1 : Int), v19 = .int .i64 x19_1 ∧ Aside0 (impl_Canon.l0 kq l0 l0 (l0.length : Int) x19_1 = some (r1, r2, r3)) ∧ Aside0 (kq ≤ k) ∧ Aside0 (Below w.heap.size w w'))
  case atStart => exact ⟨(0), (by rfl), H', ⟨Nat.le_refl _⟩, ⟨by repeat ((with_reducible exact HB.out))⟩⟩
  case round =>
   clear H'
   try clear c2b0
   obtain ⟨x19_1, rfl, HA, HK1, HB⟩ := hrel
   cases gk with
   | zero => exact absurd HA.out (by simp [impl_Canon.l0])
   | succ k1 =>
    have H := HA.out
    clear HA
    simp only [impl_Canon.l0] at H
    by_cases c3 : x19_1 < (l0.length : Int)
    ·rw [if_pos c3] at H
     clear c3
     by_cases c4 : 0 ≤ x19_1
     ·rw [if_pos c4] at H
      have c4b0 : decide (0 ≤ x19_1) = true := decide_eq_true c4
      clear c4
      by_cases c5 : x19_1 < (l0.length : Int)
      ·rw [if_pos c5] at H
       have c5b0 : decide (x19_1 < (l0.length : Int)) = true := decide_eq_true c5
       clear c5
       replace H := Option.bind_eq_some_iff.mp H
       obtain ⟨t243, A60, H⟩ := H
       replace H : (if t243 = true then ((impl_valueFault.f ((rd_T141 l0 x19_1).f1)).bind fun t244 => (if t244 = 0 then (impl_Canon.l0 k1 l0 l0 (l0.length : Int) (wrap64 (x19_1 + 1))) else (some (([] : List (S141)), t244, x19_1)))) else (some (([] : List (S141)), 41, x19_1))) = some (r1, r2, r3) := H
       have A6 := Aside0.mk A60
       clear A60
       by_cases c7 : t243 = true
       ·subst c7
        have H1 : ((impl_valueFault.f ((rd_T141 l0 x19_1).f1)).bind fun t244 => (if t244 = 0 then (impl_Canon.l0 k1 l0 l0 (l0.length : Int) (wrap64 (x19_1 + 1))) else (some (([] : List (S141)), t244, x19_1)))) = some (r1, r2, r3) := by rw [if_pos rfl] at H; exact H
        clear H
        have H := H1
        clear H1
        replace H := Option.bind_eq_some_iff.mp H
        obtain ⟨t244, A80, H⟩ := H
        replace H : (if t244 = 0 then (impl_Canon.l0 k1 l0 l0 (l0.length : Int) (wrap64 (x19_1 + 1))) else (some (([] : List (S141)), t244, x19_1))) = some (r1, r2, r3) := H
        have A8 := Aside0.mk A80
        clear A80
        by_cases c9 : t244 = 0
        ·rw [if_pos c9] at H
         have c9b1 : (t244 != 0) = false := bne_eq_false_iff_eq.mpr c9
         clear c9
         have H' := Aside0.mk H
         clear H
         have p241 : 0 ≤ (x19_1 : Int) := of_decide_eq_true (by (with_reducible assumption))
         have q241 : x19_1 < (l0.length : Int) := of_decide_eq_true (by (with_reducible assumption))
         obtain ⟨ad241, e241, hx241_0, hx241_1⟩ := at_T141 HR0.out x19_1 p241 q241
         cases e241
         replace hx241_0 := (HB.out.cell (World.block_lt_of_cell? w _ hx241_0)).trans hx241_0
         replace hx241_1 := (HB.out.cell (World.block_lt_of_cell? w _ hx241_1)).trans hx241_1
         replace p241 := eq_true p241
         replace q241 := eq_true q241
         go_wp2_with (first | ((with_reducible refine gate_dst (N := 6) rfl ?_); refine box_event ?hg (N := 6) ?hd (cs := #[.string (⟨#[]⟩ : ByteArray), .string (⟨#[]⟩ : ByteArray)]) (t := 141) ?hr ?_; (case hd => rfl); (case hg => rfl); (case hr => (go_simp; done)); intro gb242 hg w10 hbox hb; have n0_ := Aside0.mk (below_step (by repeat ((with_reducible exact HB.out))) hb); have n1_ := Aside0.mk (hbox); have n3_ := Aside0.mk ((by rw [hg]; exact (below_size (by repeat ((with_reducible exact HB.out)))) : w.heap.size ≤ gb242)); clear HB; have HB := n0_; have BK242 := n1_; have GE242 := n3_; clear n0_ n1_ n3_; clear hb hbox hg; have hcz11_0 : w10.cell? ⟨gb242, 0, none⟩ = some (.string (⟨#[]⟩ : ByteArray)) := (blk_cell BK242.out 0).trans rfl; have hcz11_1 : w10.cell? ⟨gb242, 1, none⟩ = some (.string (⟨#[]⟩ : ByteArray)) := (blk_cell BK242.out 1).trans rfl; have hfz11_0 := blk_frozen BK242.out 0; have hfz11_1 := blk_frozen BK242.out 1) | ((with_reducible refine gate_callee (f := 176) rfl ?_); refine goesL_ (some 26) rfl rfl Tryz.func176 (by kernel_rfl) rfl #[.string ((rd_T141 l0 x19_1).f0)] rfl (by (try simp only [List.map_toArray, List.map_cons, List.map_nil]); first | done | rfl) ?_; (with_reducible refine (impl_isName.calls k1 ((rd_T141 l0 x19_1).f0) true _ A6.out).mono ?_); rintro e w' ⟨rfl, ⟨nd, rfl⟩⟩; refine ⟨_, rfl, ?_⟩) | ((with_reducible refine gate_callee (f := 112) rfl ?_); refine goesL_ (some 31) rfl rfl Tryz.func112 (by kernel_rfl) rfl #[.string ((rd_T141 l0 x19_1).f1)] rfl (by (try simp only [List.map_toArray, List.map_cons, List.map_nil]); first | done | rfl) ?_; (with_reducible refine (impl_valueFault.calls ((rd_T141 l0 x19_1).f1) t244 _ A8.out (Tabs.below HT.out (by repeat (first | (with_reducible first | exact HB.out | apply pw_below_drewN) | refine below_set ?_ (Aside0.out (by assumption)))))).mono ?_); rintro e w12 ⟨rfl, hb⟩; refine ⟨_, rfl, ?_⟩; have n1_ := Aside0.mk (below_step (by repeat ((with_reducible first | exact HB.out | apply pw_below_drewN | refine below_set ?_ GE242.out))) hb); clear BK242; clear HB; have HB := n1_; clear n1_; (try clear hb)))
         go_roundg k1
         case measure => have := HK1.out; omega
         case rel => exact ⟨(wrap64 (x19_1 + 1)), (by rfl), H', ⟨by have := HK1.out; omega⟩, ⟨by repeat ((with_reducible exact HB.out))⟩⟩
        ·rw [if_neg c9] at H
         have c9b1 : (t244 != 0) = true := bne_iff_ne.mpr c9
         simp only [Option.some.injEq, Prod.mk.injEq] at H
         obtain ⟨rfl, rfl, rfl⟩ := H
         have p241 : 0 ≤ (x19_1 : Int) := of_decide_eq_true (by (with_reducible assumption))
         have q241 : x19_1 < (l0.length : Int) := of_decide_eq_true (by (with_reducible assumption))
         obtain ⟨ad241, e241, hx241_0, hx241_1⟩ := at_T141 HR0.out x19_1 p241 q241
         cases e241
         replace hx241_0 := (HB.out.cell (World.block_lt_of_cell? w _ hx241_0)).trans hx241_0
         replace hx241_1 := (HB.out.cell (World.block_lt_of_cell? w _ hx241_1)).trans hx241_1
         replace p241 := eq_true p241
         replace q241 := eq_true q241
         go_wp2_with (first | ((with_reducible refine gate_dst (N := 6) rfl ?_); refine box_event ?hg (N := 6) ?hd (cs := #[.string (⟨#[]⟩ : ByteArray), .string (⟨#[]⟩ : ByteArray)]) (t := 141) ?hr ?_; (case hd => rfl); (case hg => rfl); (case hr => (go_simp; done)); intro gb242 hg w13 hbox hb; have n0_ := Aside0.mk (below_step (by repeat ((with_reducible exact HB.out))) hb); have n1_ := Aside0.mk (hbox); have n3_ := Aside0.mk ((by rw [hg]; exact (below_size (by repeat ((with_reducible exact HB.out)))) : w.heap.size ≤ gb242)); clear HB; have HB := n0_; have BK242 := n1_; have GE242 := n3_; clear n0_ n1_ n3_; clear hb hbox hg; have hcz14_0 : w13.cell? ⟨gb242, 0, none⟩ = some (.string (⟨#[]⟩ : ByteArray)) := (blk_cell BK242.out 0).trans rfl; have hcz14_1 : w13.cell? ⟨gb242, 1, none⟩ = some (.string (⟨#[]⟩ : ByteArray)) := (blk_cell BK242.out 1).trans rfl; have hfz14_0 := blk_frozen BK242.out 0; have hfz14_1 := blk_frozen BK242.out 1) | ((with_reducible refine gate_callee (f := 176) rfl ?_); refine goesL_ (some 26) rfl rfl Tryz.func176 (by kernel_rfl) rfl #[.string ((rd_T141 l0 x19_1).f0)] rfl (by (try simp only [List.map_toArray, List.map_cons, List.map_nil]); first | done | rfl) ?_; (with_reducible refine (impl_isName.calls k1 ((rd_T141 l0 x19_1).f0) true _ A6.out).mono ?_); rintro e w' ⟨rfl, ⟨nd, rfl⟩⟩; refine ⟨_, rfl, ?_⟩) | ((with_reducible refine gate_callee (f := 112) rfl ?_); refine goesL_ (some 31) rfl rfl Tryz.func112 (by kernel_rfl) rfl #[.string ((rd_T141 l0 x19_1).f1)] rfl (by (try simp only [List.map_toArray, List.map_cons, List.map_nil]); first | done | rfl) ?_; (with_reducible refine (impl_valueFault.calls ((rd_T141 l0 x19_1).f1) t244 _ A8.out (Tabs.below HT.out (by repeat (first | (with_reducible first | exact HB.out | apply pw_below_drewN) | refine below_set ?_ (Aside0.out (by assumption)))))).mono ?_); rintro e w15 ⟨rfl, hb⟩; refine ⟨_, rfl, ?_⟩; have n1_ := Aside0.mk (below_step (by repeat ((with_reducible first | exact HB.out | apply pw_below_drewN | refine below_set ?_ GE242.out))) hb); clear BK242; clear HB; have HB := n1_; clear n1_; (try clear hb)))
         go_ret3
         exact ⟨_, by rfl, by exact Kd.R_nil _ _ _ _ _, by repeat ((with_reducible exact HB.out))⟩
       ·replace c7 := Bool.eq_false_iff.mpr c7
        subst c7
        have H1 : (some (([] : List (S141)), 41, x19_1)) = some (r1, r2, r3) := by rw [if_neg (show ¬ (false = true) by decide)] at H; exact H
        clear H
        have H := H1
        clear H1
        simp only [Option.some.injEq, Prod.mk.injEq] at H
        obtain ⟨rfl, rfl, rfl⟩ := H
        have p241 : 0 ≤ (x19_1 : Int) := of_decide_eq_true (by (with_reducible assumption))
        have q241 : x19_1 < (l0.length : Int) := of_decide_eq_true (by (with_reducible assumption))
        obtain ⟨ad241, e241, hx241_0, hx241_1⟩ := at_T141 HR0.out x19_1 p241 q241
        cases e241
        replace hx241_0 := (HB.out.cell (World.block_lt_of_cell? w _ hx241_0)).trans hx241_0
        replace hx241_1 := (HB.out.cell (World.block_lt_of_cell? w _ hx241_1)).trans hx241_1
        replace p241 := eq_true p241
        replace q241 := eq_true q241
        go_wp2_with (first | ((with_reducible refine gate_dst (N := 6) rfl ?_); refine box_event ?hg (N := 6) ?hd (cs := #[.string (⟨#[]⟩ : ByteArray), .string (⟨#[]⟩ : ByteArray)]) (t := 141) ?hr ?_; (case hd => rfl); (case hg => rfl); (case hr => (go_simp; done)); intro gb242 hg w16 hbox hb; have n0_ := Aside0.mk (below_step (by repeat ((with_reducible exact HB.out))) hb); have n1_ := Aside0.mk (hbox); have n3_ := Aside0.mk ((by rw [hg]; exact (below_size (by repeat ((with_reducible exact HB.out)))) : w.heap.size ≤ gb242)); clear HB; have HB := n0_; have BK242 := n1_; have GE242 := n3_; clear n0_ n1_ n3_; clear hb hbox hg; have hcz17_0 : w16.cell? ⟨gb242, 0, none⟩ = some (.string (⟨#[]⟩ : ByteArray)) := (blk_cell BK242.out 0).trans rfl; have hcz17_1 : w16.cell? ⟨gb242, 1, none⟩ = some (.string (⟨#[]⟩ : ByteArray)) := (blk_cell BK242.out 1).trans rfl; have hfz17_0 := blk_frozen BK242.out 0; have hfz17_1 := blk_frozen BK242.out 1) | ((with_reducible refine gate_callee (f := 176) rfl ?_); refine goesL_ (some 26) rfl rfl Tryz.func176 (by kernel_rfl) rfl #[.string ((rd_T141 l0 x19_1).f0)] rfl (by (try simp only [List.map_toArray, List.map_cons, List.map_nil]); first | done | rfl) ?_; (with_reducible refine (impl_isName.calls k1 ((rd_T141 l0 x19_1).f0) false _ A6.out).mono ?_); rintro e w' ⟨rfl, ⟨nd, rfl⟩⟩; refine ⟨_, rfl, ?_⟩))
        go_ret3
        exact ⟨_, by rfl, by exact Kd.R_nil _ _ _ _ _, by repeat ((with_reducible first | exact HB.out | apply pw_below_drewN | refine below_set ?_ GE242.out))⟩
      ·rw [if_neg c5] at H
       exact absurd H (by simp)
     ·rw [if_neg c4] at H
      exact absurd H (by simp)
    ·rw [if_neg c3] at H
     have c3b0 : decide (x19_1 < (l0.length : Int)) = false := decide_eq_false c3
     clear c3
     obtain ⟨y245, hy245⟩ : ∃ y_ : List (S141), y_ = (([] : List (S141))) := ⟨_, rfl⟩
     replace H : (impl_Canon.l1 k1 l0 y245 false l0 (l0.length : Int) 0) = some (r1, r2, r3) := by (rw [hy245]; with_reducible exact H)
     have Ny245 := Aside0.mk hy245
     clear hy245
     have H' := Aside0.mk H
     clear H
     go_wp2_with (((with_reducible refine gate_dst (N := 37) rfl ?_); refine Kd.R_lit k141 _ 141 ?hg (N := 37) ?hd (xs := ([] : List (S141))) (inner := []) (ok := fun _ => True) (okp := fun _ => True) ?hr ?hp (fun _ hk => hk) trivial (Below.refl _ _) (Nat.le_refl _) (by simp) ?_; (case hd => rfl); (case hg => rfl); (case hr => (go_simp; done)); (case hp => exact (Reps.none _ _)); intro v246 w18 ho19 hb hg_ hnew_; clear hg_ hnew_; (rw [← Ny245.out] at ho19); have n0_ := Aside0.mk (Kd.R_lower ho19 (below_size (by repeat ((with_reducible exact HB.out))))); have n1_ := Aside0.mk (below_step (by repeat ((with_reducible exact HB.out))) hb); clear HB; have HO247 := n0_; have HB := n1_; clear n0_ n1_; clear hb ho19))
     go_loopg [8, 9, 40] k1 (fun kq v8 v9 v40 w' => ∃ (x8_2 : List (S141)) (x9_2 : Bool) (x40_2 : Int), v9 = .bool x9_2 ∧ v40 = .int .i64 x40_2 ∧ Aside0 (impl_Canon.l1 kq l0 x8_2 x9_2 l0 (l0.length : Int) x40_2 = some (r1, r2, r3)) ∧ Aside0 (kq ≤ k1) ∧ Aside0 (Kd.R k141 141 w' w.heap.size (fun _ => True) v8 x8_2) ∧ Aside0 (Below w.heap.size w w'))
     case atStart => exact ⟨(y245), (false), (0), (by rfl), (by rfl), H', ⟨Nat.le_refl _⟩, ⟨by (with_reducible repeat (first | apply Kd.R_alloc | apply Kd.R_drewN | apply Kd.R_drew)); exact HO247.out⟩, ⟨by repeat ((with_reducible exact HB.out))⟩⟩
     case round =>
      clear H'
      try clear c3b0
      obtain ⟨x8_2, x9_2, x40_2, rfl, rfl, HA, HK2, HO_8, HB⟩ := hrel
      cases gk with
      | zero => exact absurd HA.out (by simp [impl_Canon.l1])
      | succ k2 =>
       have H := HA.out
       clear HA
       simp only [impl_Canon.l1] at H
       by_cases c20 : x40_2 < (l0.length : Int)
       ·rw [if_pos c20] at H
        clear c20
        by_cases c21 : 0 ≤ x40_2
        ·rw [if_pos c21] at H
         have c21b0 : decide (0 ≤ x40_2) = true := decide_eq_true c21
         clear c21
         by_cases c22 : x40_2 < (l0.length : Int)
         ·rw [if_pos c22] at H
          have c22b0 : decide (x40_2 < (l0.length : Int)) = true := decide_eq_true c22
          clear c22
          have c23b0 := eq_true (of_decide_eq_true (by (with_reducible assumption)) : 0 ≤ x40_2)
          by_cases c24 : x40_2 ≤ (l0.length : Int)
          ·rw [if_pos c24] at H
           have c24b1 : decide (x40_2 ≤ (l0.length : Int)) = true := decide_eq_true c24
           clear c24
           obtain ⟨y251, hy251⟩ : ∃ y_ : List (S141), y_ = (l0.take (x40_2 : Int).toNat) := ⟨_, rfl⟩
           replace H : (impl_Canon.l2 k2 l0 x8_2 x9_2 x40_2 l0 (l0.length : Int) x40_2 y251 (y251.length : Int) 0 ((rd_T141 l0 x40_2).f0) ((rd_T141 l0 x40_2).f1)) = some (r1, r2, r3) := by (have H2_ := (Option.bind_some _ _).symm.trans H; rw [hy251]; with_reducible exact H2_)
           have Ny251 := Aside0.mk hy251
           clear hy251
           have H' := Aside0.mk H
           clear H
           have p249 : 0 ≤ (x40_2 : Int) := of_decide_eq_true (by (with_reducible assumption))
           have q249 : x40_2 < (l0.length : Int) := of_decide_eq_true (by (with_reducible assumption))
           obtain ⟨ad249, e249, hx249_0, hx249_1⟩ := at_T141 HR0.out x40_2 p249 q249
           cases e249
           replace hx249_0 := (HB.out.cell (World.block_lt_of_cell? w _ hx249_0)).trans hx249_0
           replace hx249_1 := (HB.out.cell (World.block_lt_of_cell? w _ hx249_1)).trans hx249_1
           replace q249 := eq_true q249
           go_wp2_with (first | ((with_reducible refine gate_dst (N := 11) rfl ?_); refine box_event ?hg (N := 11) ?hd (cs := #[.string (⟨#[]⟩ : ByteArray), .string (⟨#[]⟩ : ByteArray)]) (t := 141) ?hr ?_; (case hd => rfl); (case hg => rfl); (case hr => (go_simp; done)); intro gb250 hg w25 hbox hb; have n0_ := Aside0.mk (Kd.R_below (Kd.R_elderB (by (with_reducible repeat (first | apply Kd.R_alloc | apply Kd.R_drewN | apply Kd.R_drew)); exact HO_8.out) gb250 (Nat.le_of_eq hg.symm)) hb); have n1_ := Aside0.mk (below_step (by repeat ((with_reducible exact HB.out))) hb); have n2_ := Aside0.mk (hbox); have n4_ := Aside0.mk ((by rw [hg]; exact (below_size (by repeat ((with_reducible exact HB.out)))) : w.heap.size ≤ gb250)); clear HO_8; clear HB; have HO_8 := n0_; have HB := n1_; have BK250 := n2_; have GE250 := n4_; clear n0_ n1_ n2_ n4_; clear hb hbox hg; have hcz26_0 : w25.cell? ⟨gb250, 0, none⟩ = some (.string (⟨#[]⟩ : ByteArray)) := (blk_cell BK250.out 0).trans rfl; have hcz26_1 : w25.cell? ⟨gb250, 1, none⟩ = some (.string (⟨#[]⟩ : ByteArray)) := (blk_cell BK250.out 1).trans rfl; have hfz26_0 := blk_frozen BK250.out 0; have hfz26_1 := blk_frozen BK250.out 1) | ((with_reducible refine gate_store (t := 141) (p := 11) rfl ?_); refine store_event (t := 141) (p := 11) (v := ?vo_w27) (w1 := ((w25.setCell ⟨gb250, 0, none⟩ (.string ((rd_T141 l0 x40_2).f0))).setCell ⟨gb250, 1, none⟩ (.string ((rd_T141 l0 x40_2).f1)))) ?hg ?ho ?hn ?hr ?_; (case ho => rfl); (case hg => rfl); (case hn => rfl); (case hr => (go_simp; done)); intro w27 hw; have n0_ : Aside0 (Kd.R k141 141 w27 w.heap.size (fun k_ => k_ ≠ gb250) u8 x8_2) := ⟨(by rw [hw]; exact (by (with_reducible repeat (first | apply Kd.R_alloc | apply Kd.R_drewN | apply Kd.R_drew)); exact Kd.R_mono (Kd.R_far (p := ⟨gb250, 1, none⟩) (Kd.R_far (p := ⟨gb250, 0, none⟩) (Kd.R_mono HO_8.out (fun k_ hk => (⟨hk, hk.2⟩ : _ ∧ k_ ≠ gb250))) (fun _ hk => hk.2) (.string ((rd_T141 l0 x40_2).f0))) (fun _ hk => hk.2) (.string ((rd_T141 l0 x40_2).f1))) (fun _ hk => hk.1.2)))⟩; have n1_ : Aside0 (w27.heap[gb250]? = some (.cells #[.string ((rd_T141 l0 x40_2).f0), .string ((rd_T141 l0 x40_2).f1)] 141 (0, 0))) := ⟨(by rw [hw]; exact (by (with_reducible repeat (first | refine blk_drewN ?_ _ | refine blk_drew ?_ | refine blk_alloc ?_ _)); refine blk_put (cs := #[.string ((rd_T141 l0 x40_2).f0), .string (⟨#[]⟩ : ByteArray)]) ?_ 1 _ rfl; (with_reducible repeat (first | refine blk_drewN ?_ _ | refine blk_drew ?_ | refine blk_alloc ?_ _)); refine blk_put (cs := #[.string (⟨#[]⟩ : ByteArray), .string (⟨#[]⟩ : ByteArray)]) ?_ 0 _ rfl; (with_reducible repeat (first | refine blk_drewN ?_ _ | refine blk_drew ?_ | refine blk_alloc ?_ _)); exact BK250.out))⟩; have n2_ : Aside0 (Below w.heap.size w w27) := ⟨(by rw [hw]; exact (by repeat ((with_reducible first | exact HB.out | refine below_set ?_ GE250.out))))⟩; clear hw; clear HO_8; clear BK250; clear HB; have HO_8 := n0_; have BK250 := n1_; have HB := n2_; clear n0_ n1_ n2_; have q28 : (x40_2 : Int) ≤ ((l0.length : Int) : Int) := of_decide_eq_true (by (with_reducible assumption)); obtain ⟨i028, hi028, _, hsz28, _⟩ := info_parts info141; have hroom28 : l0.length ≤ c0 := HC0.out; have hC28 : Kd.C k141 _ (some ad249) l0.length l0 := HR0.out; have hcut28 := cut_to (P := Tryz.prog) 65 141 .i64 Tryz.underlying65 hi028 (some ad249) l0.length c0 x40_2 (of_decide_eq_true (by (with_reducible assumption))) q28 hroom28; have hr28 := Kd.C_take (m := (x40_2 : Int).toNat) hC28 (by omega); have hy28 : y251.length = (x40_2 : Int).toNat := (by rw [Ny251.out, List.length_take]; omega); rw [← Ny251.out] at hr28; rw [← hy28] at hcut28; have HR254 := Aside0.mk hr28; clear hr28 hC28 hroom28 hi028 hsz28; clear hy28))
           go_loopg [49] k2 (fun kq v49 w' => ∃ (x49_3 : Int), v49 = .int .i64 x49_3 ∧ Aside0 (impl_Canon.l2 kq l0 x8_2 x9_2 x40_2 l0 (l0.length : Int) x40_2 y251 (y251.length : Int) x49_3 ((rd_T141 l0 x40_2).f0) ((rd_T141 l0 x40_2).f1) = some (r1, r2, r3)) ∧ Aside0 (kq ≤ k2) ∧ Aside0 (Kd.R k141 141 w' w.heap.size (fun k_ => k_ ≠ gb250) u8 x8_2) ∧ Aside0 (w'.heap[gb250]? = some (.cells #[.string ((rd_T141 l0 x40_2).f0), .string ((rd_T141 l0 x40_2).f1)] 141 (0, 0))) ∧ Aside0 (Below w.heap.size w w'))
           case atStart => exact ⟨(0), (by rfl), H', ⟨Nat.le_refl _⟩, ⟨by (with_reducible repeat (first | apply Kd.R_alloc | apply Kd.R_drewN | apply Kd.R_drew)); exact HO_8.out⟩, ⟨by (with_reducible repeat (first | refine blk_drewN ?_ _ | refine blk_drew ?_ | refine blk_alloc ?_ _)); exact BK250.out⟩, ⟨by repeat ((with_reducible exact HB.out))⟩⟩
           case round =>
            clear H'
            try clear c21b0
            try clear c22b0
            try clear c23b0
            try clear c24b1
            try clear q28
            try clear hcz26_0
            try clear hcz26_1
            try clear hfz26_0
            try clear hfz26_1
            try clear hx249_0
            try clear hx249_1
            try clear p249
            try clear q249
            obtain ⟨x49_3, rfl, HA, HK3, HO_8, BK250, HB⟩ := hrel
            cases gk with
            | zero => exact absurd HA.out (by simp [impl_Canon.l2])
            | succ k3 =>
             have H := HA.out
             clear HA
             simp only [impl_Canon.l2] at H
             by_cases c29 : x49_3 < (y251.length : Int)
             ·rw [if_pos c29] at H
              clear c29
              by_cases c30 : 0 ≤ x49_3
              ·rw [if_pos c30] at H
               have c30b0 : decide (0 ≤ x49_3) = true := decide_eq_true c30
               clear c30
               by_cases c31 : x49_3 < (y251.length : Int)
               ·rw [if_pos c31] at H
                have c31b0 : decide (x49_3 < (y251.length : Int)) = true := decide_eq_true c31
                clear c31
                by_cases c32 : ((rd_T141 y251 x49_3).f0).toList = ((rd_T141 l0 x40_2).f0).toList
                ·rw [if_pos c32] at H
                 have c32b0 : (((rd_T141 y251 x49_3).f0).toList == ((rd_T141 l0 x40_2).f0).toList) = true := beq_iff_eq.mpr c32
                 clear c32
                 simp only [Option.some.injEq, Prod.mk.injEq] at H
                 obtain ⟨rfl, rfl, rfl⟩ := H
                 have p255 : 0 ≤ (x49_3 : Int) := of_decide_eq_true (by (with_reducible assumption))
                 have q255 : x49_3 < (y251.length : Int) := of_decide_eq_true (by (with_reducible assumption))
                 obtain ⟨ad255, e255, hx255_0, hx255_1⟩ := at_T141 HR254.out x49_3 p255 q255
                 obtain rfl : ad249 = ad255 := (by injection e255)
                 replace hx255_0 := (HB.out.cell (World.block_lt_of_cell? w _ hx255_0)).trans hx255_0
                 replace hx255_1 := (HB.out.cell (World.block_lt_of_cell? w _ hx255_1)).trans hx255_1
                 replace p255 := eq_true p255
                 replace q255 := eq_true q255
                 go_wp2_with (((with_reducible refine gate_dst (N := 13) rfl ?_); refine box_event ?hg (N := 13) ?hd (cs := #[.string (⟨#[]⟩ : ByteArray), .string (⟨#[]⟩ : ByteArray)]) (t := 141) ?hr ?_; (case hd => rfl); (case hg => rfl); (case hr => (go_simp; done)); intro gb256 hg w33 hbox hb; have n1_ := Aside0.mk (blk_below (g := gb250) (o := .cells #[.string ((rd_T141 l0 x40_2).f0), .string ((rd_T141 l0 x40_2).f1)] 141 (0, 0)) (by (with_reducible repeat (first | refine blk_drewN ?_ _ | refine blk_drew ?_ | refine blk_alloc ?_ _)); exact BK250.out) hb); have n2_ := Aside0.mk (below_step (by repeat ((with_reducible exact HB.out))) hb); have n3_ := Aside0.mk (hbox); have n5_ := Aside0.mk ((by rw [hg]; exact (below_size (by repeat ((with_reducible exact HB.out)))) : w.heap.size ≤ gb256)); have n6_ := Aside0.mk ((by rw [hg]; exact Nat.ne_of_lt (blk_lt (g := gb250) (o := .cells #[.string ((rd_T141 l0 x40_2).f0), .string ((rd_T141 l0 x40_2).f1)] 141 (0, 0)) (by (with_reducible repeat (first | refine blk_drewN ?_ _ | refine blk_drew ?_ | refine blk_alloc ?_ _)); exact BK250.out)) : gb250 ≠ gb256)); clear HO_8; clear BK250; clear HB; have BK250 := n1_; have HB := n2_; have BK256 := n3_; have GE256 := n5_; have NB250_256 := n6_; clear n1_ n2_ n3_ n5_ n6_; clear hb hbox hg; have hnc34 := NB250_256.out; have hcz35_0 : w33.cell? ⟨gb256, 0, none⟩ = some (.string (⟨#[]⟩ : ByteArray)) := (blk_cell BK256.out 0).trans rfl; have hcz35_1 : w33.cell? ⟨gb256, 1, none⟩ = some (.string (⟨#[]⟩ : ByteArray)) := (blk_cell BK256.out 1).trans rfl; have hfz35_0 := blk_frozen BK256.out 0; have hfz35_1 := blk_frozen BK256.out 1; have hcz36_0 : w33.cell? ⟨gb250, 0, none⟩ = some (.string ((rd_T141 l0 x40_2).f0)) := (blk_cell BK250.out 0).trans rfl))
                 go_ret3
                 exact ⟨_, by rfl, by exact Kd.R_nil _ _ _ _ _, by repeat ((with_reducible first | exact HB.out | refine below_set ?_ GE256.out))⟩
                ·rw [if_neg c32] at H
                 have c32b0 : (((rd_T141 y251 x49_3).f0).toList == ((rd_T141 l0 x40_2).f0).toList) = false := beq_eq_false_iff_ne.mpr c32
                 have H' := Aside0.mk H
                 clear H
                 have p255 : 0 ≤ (x49_3 : Int) := of_decide_eq_true (by (with_reducible assumption))
                 have q255 : x49_3 < (y251.length : Int) := of_decide_eq_true (by (with_reducible assumption))
                 obtain ⟨ad255, e255, hx255_0, hx255_1⟩ := at_T141 HR254.out x49_3 p255 q255
                 obtain rfl : ad249 = ad255 := (by injection e255)
                 replace hx255_0 := (HB.out.cell (World.block_lt_of_cell? w _ hx255_0)).trans hx255_0
                 replace hx255_1 := (HB.out.cell (World.block_lt_of_cell? w _ hx255_1)).trans hx255_1
                 replace p255 := eq_true p255
                 replace q255 := eq_true q255
                 go_wp2_with (((with_reducible refine gate_dst (N := 13) rfl ?_); refine box_event ?hg (N := 13) ?hd (cs := #[.string (⟨#[]⟩ : ByteArray), .string (⟨#[]⟩ : ByteArray)]) (t := 141) ?hr ?_; (case hd => rfl); (case hg => rfl); (case hr => (go_simp; done)); intro gb256 hg w37 hbox hb; have n0_ := Aside0.mk (Kd.R_below (Kd.R_elderB (by (with_reducible repeat (first | apply Kd.R_alloc | apply Kd.R_drewN | apply Kd.R_drew)); exact HO_8.out) gb256 (Nat.le_of_eq hg.symm)) hb); have n1_ := Aside0.mk (blk_below (g := gb250) (o := .cells #[.string ((rd_T141 l0 x40_2).f0), .string ((rd_T141 l0 x40_2).f1)] 141 (0, 0)) (by (with_reducible repeat (first | refine blk_drewN ?_ _ | refine blk_drew ?_ | refine blk_alloc ?_ _)); exact BK250.out) hb); have n2_ := Aside0.mk (below_step (by repeat ((with_reducible exact HB.out))) hb); have n3_ := Aside0.mk (hbox); have n5_ := Aside0.mk ((by rw [hg]; exact (below_size (by repeat ((with_reducible exact HB.out)))) : w.heap.size ≤ gb256)); have n6_ := Aside0.mk ((by rw [hg]; exact Nat.ne_of_lt (blk_lt (g := gb250) (o := .cells #[.string ((rd_T141 l0 x40_2).f0), .string ((rd_T141 l0 x40_2).f1)] 141 (0, 0)) (by (with_reducible repeat (first | refine blk_drewN ?_ _ | refine blk_drew ?_ | refine blk_alloc ?_ _)); exact BK250.out)) : gb250 ≠ gb256)); clear HO_8; clear BK250; clear HB; have HO_8 := n0_; have BK250 := n1_; have HB := n2_; have BK256 := n3_; have GE256 := n5_; have NB250_256 := n6_; clear n0_ n1_ n2_ n3_ n5_ n6_; clear hb hbox hg; have hnc38 := NB250_256.out; have hcz39_0 : w37.cell? ⟨gb256, 0, none⟩ = some (.string (⟨#[]⟩ : ByteArray)) := (blk_cell BK256.out 0).trans rfl; have hcz39_1 : w37.cell? ⟨gb256, 1, none⟩ = some (.string (⟨#[]⟩ : ByteArray)) := (blk_cell BK256.out 1).trans rfl; have hfz39_0 := blk_frozen BK256.out 0; have hfz39_1 := blk_frozen BK256.out 1; have hcz40_0 : w37.cell? ⟨gb250, 0, none⟩ = some (.string ((rd_T141 l0 x40_2).f0)) := (blk_cell BK250.out 0).trans rfl))
                 go_roundg k3
                 case measure => have := HK1.out; have := HK2.out; have := HK3.out; omega
                 case rel => exact ⟨(wrap64 (x49_3 + 1)), (by rfl), H', ⟨by have := HK1.out; have := HK2.out; have := HK3.out; omega⟩, ⟨by (with_reducible repeat (first | apply Kd.R_alloc | apply Kd.R_drewN | apply Kd.R_drew)); exact Kd.R_mono (Kd.R_far (p := ⟨gb256, 1, none⟩) (Kd.R_far (p := ⟨gb256, 0, none⟩) (Kd.R_mono HO_8.out (fun k_ hk => (⟨hk, hk.2⟩ : _ ∧ k_ ≠ gb256))) (fun _ hk => hk.2) (.string ((rd_T141 y251 x49_3).f0))) (fun _ hk => hk.2) (.string ((rd_T141 y251 x49_3).f1))) (fun _ hk => hk.1.1)⟩, ⟨by (with_reducible repeat (first | refine blk_drewN ?_ _ | refine blk_drew ?_ | refine blk_alloc ?_ _)); refine blk_far ?_ NB250_256.out _; (with_reducible repeat (first | refine blk_drewN ?_ _ | refine blk_drew ?_ | refine blk_alloc ?_ _)); refine blk_far ?_ NB250_256.out _; (with_reducible repeat (first | refine blk_drewN ?_ _ | refine blk_drew ?_ | refine blk_alloc ?_ _)); exact BK250.out⟩, ⟨by repeat ((with_reducible first | exact HB.out | refine below_set ?_ GE256.out))⟩⟩
               ·rw [if_neg c31] at H
                exact absurd H (by simp)
              ·rw [if_neg c30] at H
               exact absurd H (by simp)
             ·rw [if_neg c29] at H
              have c29b0 : decide (x49_3 < (y251.length : Int)) = false := decide_eq_false c29
              clear c29
              by_cases c41 : ((rd_T141 l0 x40_2).f1).toList = ([] : List UInt8)
              ·rw [if_pos c41] at H
               have c41b0 : (((rd_T141 l0 x40_2).f1).toList == ([] : List UInt8)) = true := beq_iff_eq.mpr c41
               clear c41
               have H' := Aside0.mk H
               clear H
               have hcz42_1 : wr.cell? ⟨gb250, 1, none⟩ = some (.string ((rd_T141 l0 x40_2).f1)) := (blk_cell BK250.out 1).trans rfl
               go_wp2
               go_roundg k3
               case measure => have := HK1.out; have := HK2.out; have := HK3.out; omega
               case rel => exact ⟨(x8_2), (x9_2), (wrap64 (x40_2 + 1)), (by rfl), (by rfl), H', ⟨by have := HK1.out; have := HK2.out; have := HK3.out; omega⟩, ⟨by (with_reducible repeat (first | apply Kd.R_alloc | apply Kd.R_drewN | apply Kd.R_drew)); exact Kd.R_mono HO_8.out (fun _ hk => trivial)⟩, ⟨by repeat ((with_reducible exact HB.out))⟩⟩
              ·rw [if_neg c41] at H
               have c41b0 : (((rd_T141 l0 x40_2).f1).toList == ([] : List UInt8)) = false := beq_eq_false_iff_ne.mpr c41
               by_cases c43 : x8_2.length < 4398046511104
               ·rw [if_pos c43] at H
                have LMc43 := Aside0.mk c43
                clear c43
                obtain ⟨y257, hy257⟩ : ∃ y_ : List (S141), y_ = (x8_2 ++ [(⟨((rd_T141 l0 x40_2).f0), ((rd_T141 l0 x40_2).f1)⟩ : S141)]) := ⟨_, rfl⟩
                replace H : (if x9_2 = true then (impl_Canon.l1 k3 l0 y257 true l0 (l0.length : Int) (wrap64 (x40_2 + 1))) else (impl_Canon.l1 k3 l0 y257 (((rd_T141 l0 x40_2).f0).toList == ([95, 95, 110, 97, 109, 101, 95, 95] : List UInt8)) l0 (l0.length : Int) (wrap64 (x40_2 + 1)))) = some (r1, r2, r3) := by (have H2_ := (Option.bind_some _ _).symm.trans H; rw [hy257]; with_reducible exact H2_)
                have Ny257 := Aside0.mk hy257
                clear hy257
                by_cases c44 : x9_2 = true
                ·subst c44
                 have H1 : (impl_Canon.l1 k3 l0 y257 true l0 (l0.length : Int) (wrap64 (x40_2 + 1))) = some (r1, r2, r3) := by rw [if_pos rfl] at H; exact H
                 clear H
                 have H := H1
                 clear H1
                 have H' := Aside0.mk H
                 clear H
                 have hcz45_0 : wr.cell? ⟨gb250, 0, none⟩ = some (.string ((rd_T141 l0 x40_2).f0)) := (blk_cell BK250.out 0).trans rfl
                 have hcz45_1 : wr.cell? ⟨gb250, 1, none⟩ = some (.string ((rd_T141 l0 x40_2).f1)) := (blk_cell BK250.out 1).trans rfl
                 go_wp2_with (((with_reducible refine gate_builtin (b := .append) (xs := #[.tmp 63, .tmp 65]) rfl ?_); at_builtin; refine Kd.R_append k141 (w0 := w) w.heap.size rfl (.tmp 63) (.tmp 65) 65 141 (.agg #[(.string ⟨#[]⟩), (.string ⟨#[]⟩)]) 32 rfl Tryz.underlying65 info141 rfl (by decide) (by omega) u8 x8_2 (⟨((rd_T141 l0 x40_2).f0), ((rd_T141 l0 x40_2).f1)⟩ : S141) [.string ((rd_T141 l0 x40_2).f0), .string ((rd_T141 l0 x40_2).f1)] (fun k_ => k_ ≠ gb250) (fun _ => False) rfl rfl ?aP (fun _ hk => hk.elim) ?aF ?aO ?aB ?aS ?aL ?_; (case aP => exact k141_mkM _ _ _ (⟨((rd_T141 l0 x40_2).f0), ((rd_T141 l0 x40_2).f1)⟩ : S141)); (case aB => exact (by repeat ((with_reducible exact HB.out)))); (case aF => exact (fun k_ hk => Kd.freshB (g := gb250) (o := .cells #[.string ((rd_T141 l0 x40_2).f0), .string ((rd_T141 l0 x40_2).f1)] 141 (0, 0)) (by (with_reducible repeat (first | refine blk_drewN ?_ _ | refine blk_drew ?_ | refine blk_alloc ?_ _)); exact BK250.out) k_ hk)); (case aO => exact (by (with_reducible repeat (first | apply Kd.R_alloc | apply Kd.R_drewN | apply Kd.R_drew)); exact HO_8.out)); (case aS => exact (below_size (by repeat ((with_reducible exact HB.out))))); (case aL => have := LMc43.out; omega); intro v258 w46 ho hb hg hat; rw [← Ny257.out] at ho; have n1_ := Aside0.mk (hb); have n2_ := Aside0.mk (ho); clear BK250; clear HB; clear HO_8; have HB := n1_; have HO259 := n2_; clear n1_ n2_; clear ho hb hg hat))
                 go_roundg k3
                 case measure => have := HK1.out; have := HK2.out; have := HK3.out; omega
                 case rel => exact ⟨(y257), (true), (wrap64 (x40_2 + 1)), (by rfl), (by rfl), H', ⟨by have := HK1.out; have := HK2.out; have := HK3.out; omega⟩, ⟨by (with_reducible repeat (first | apply Kd.R_alloc | apply Kd.R_drewN | apply Kd.R_drew)); exact Kd.R_mono HO259.out (fun _ hk => trivial)⟩, ⟨by repeat ((with_reducible exact HB.out))⟩⟩
                ·replace c44 := Bool.eq_false_iff.mpr c44
                 subst c44
                 have H1 : (impl_Canon.l1 k3 l0 y257 (((rd_T141 l0 x40_2).f0).toList == ([95, 95, 110, 97, 109, 101, 95, 95] : List UInt8)) l0 (l0.length : Int) (wrap64 (x40_2 + 1))) = some (r1, r2, r3) := by rw [if_neg (show ¬ (false = true) by decide)] at H; exact H
                 clear H
                 have H := H1
                 clear H1
                 have H' := Aside0.mk H
                 clear H
                 have hcz47_0 : wr.cell? ⟨gb250, 0, none⟩ = some (.string ((rd_T141 l0 x40_2).f0)) := (blk_cell BK250.out 0).trans rfl
                 have hcz47_1 : wr.cell? ⟨gb250, 1, none⟩ = some (.string ((rd_T141 l0 x40_2).f1)) := (blk_cell BK250.out 1).trans rfl
                 go_wp2_with (((with_reducible refine gate_builtin (b := .append) (xs := #[.tmp 63, .tmp 65]) rfl ?_); at_builtin; refine Kd.R_append k141 (w0 := w) w.heap.size rfl (.tmp 63) (.tmp 65) 65 141 (.agg #[(.string ⟨#[]⟩), (.string ⟨#[]⟩)]) 32 rfl Tryz.underlying65 info141 rfl (by decide) (by omega) u8 x8_2 (⟨((rd_T141 l0 x40_2).f0), ((rd_T141 l0 x40_2).f1)⟩ : S141) [.string ((rd_T141 l0 x40_2).f0), .string ((rd_T141 l0 x40_2).f1)] (fun k_ => k_ ≠ gb250) (fun _ => False) rfl rfl ?aP (fun _ hk => hk.elim) ?aF ?aO ?aB ?aS ?aL ?_; (case aP => exact k141_mkM _ _ _ (⟨((rd_T141 l0 x40_2).f0), ((rd_T141 l0 x40_2).f1)⟩ : S141)); (case aB => exact (by repeat ((with_reducible exact HB.out)))); (case aF => exact (fun k_ hk => Kd.freshB (g := gb250) (o := .cells #[.string ((rd_T141 l0 x40_2).f0), .string ((rd_T141 l0 x40_2).f1)] 141 (0, 0)) (by (with_reducible repeat (first | refine blk_drewN ?_ _ | refine blk_drew ?_ | refine blk_alloc ?_ _)); exact BK250.out) k_ hk)); (case aO => exact (by (with_reducible repeat (first | apply Kd.R_alloc | apply Kd.R_drewN | apply Kd.R_drew)); exact HO_8.out)); (case aS => exact (below_size (by repeat ((with_reducible exact HB.out))))); (case aL => have := LMc43.out; omega); intro v258 w48 ho hb hg hat; rw [← Ny257.out] at ho; have n0_ := Aside0.mk (blk_grown (g := gb250) (o := .cells #[.string ((rd_T141 l0 x40_2).f0), .string ((rd_T141 l0 x40_2).f1)] 141 (0, 0)) (by (with_reducible repeat (first | refine blk_drewN ?_ _ | refine blk_drew ?_ | refine blk_alloc ?_ _)); exact BK250.out) hg (Kd.R_away HO_8.out (fun _ hk => hk))); have n1_ := Aside0.mk (hb); have n2_ := Aside0.mk (ho); clear BK250; clear HB; clear HO_8; have BK250 := n0_; have HB := n1_; have HO259 := n2_; clear n0_ n1_ n2_; clear ho hb hg hat; have hcz49_0 : w48.cell? ⟨gb250, 0, none⟩ = some (.string ((rd_T141 l0 x40_2).f0)) := (blk_cell BK250.out 0).trans rfl))
                 go_roundg k3
                 case measure => have := HK1.out; have := HK2.out; have := HK3.out; omega
                 case rel => exact ⟨(y257), ((((rd_T141 l0 x40_2).f0).toList == ([95, 95, 110, 97, 109, 101, 95, 95] : List UInt8))), (wrap64 (x40_2 + 1)), (by rfl), (by rfl), H', ⟨by have := HK1.out; have := HK2.out; have := HK3.out; omega⟩, ⟨by (with_reducible repeat (first | apply Kd.R_alloc | apply Kd.R_drewN | apply Kd.R_drew)); exact Kd.R_mono HO259.out (fun _ hk => trivial)⟩, ⟨by repeat ((with_reducible exact HB.out))⟩⟩
               ·rw [if_neg c43] at H
                exact absurd H (by simp)
          ·rw [if_neg c24] at H
           exact absurd H (by simp)
         ·rw [if_neg c22] at H
          exact absurd H (by simp)
        ·rw [if_neg c21] at H
         exact absurd H (by simp)
       ·rw [if_neg c20] at H
        have c20b0 : decide (x40_2 < (l0.length : Int)) = false := decide_eq_false c20
        clear c20
        by_cases c50 : x9_2 = true
        ·subst c50
         have H1 : ((impl_Label_177.f x8_2).bind fun t248 => (some (t248, 0, 0))) = some (r1, r2, r3) := by rw [if_pos rfl] at H; exact H
         clear H
         have H := H1
         clear H1
         replace H := Option.bind_eq_some_iff.mp H
         obtain ⟨t248, A510, H⟩ := H
         replace H : (some (t248, 0, 0)) = some (r1, r2, r3) := H
         have A51 := Aside0.mk A510
         clear A510
         simp only [Option.some.injEq, Prod.mk.injEq] at H
         obtain ⟨rfl, rfl, rfl⟩ := H
         obtain ⟨Ao52, co52, eo52⟩ := Kd.R_slice HO_8.out
         subst eo52
         go_wp2_with (((with_reducible refine gate_callee (f := 177) rfl ?_); refine goesL_ (some 77) rfl rfl Tryz.func177 (by kernel_rfl) rfl #[.slice Ao52 x8_2.length co52, .func (.func 178) #[] #[]] rfl (by (try simp only [List.map_toArray, List.map_cons, List.map_nil]); first | done | rfl) ?_; (with_reducible refine (impl_Label_177.calls (fun k_ => some k_ = (.slice Ao52 x8_2.length co52 : Value).ownBlock) (.slice Ao52 x8_2.length co52) x8_2 t248 w _ ?side1 ?side2 A51.out).mono ?_); (case side1 => repeat ((with_reducible exact HB.out))); (case side2 => exact Kd.R_tight rfl HO_8.out); rintro e w53 ⟨rfl, hy0, hb, hkp⟩; refine ⟨_, rfl, ?_⟩; have n0_ := Aside0.mk (Kd.R_reok rfl hy0 (fun k_ e_ => HO_8.out.1 k_ e_)); have n1_ := Aside0.mk (hb); clear HO_8; clear HB; have HO_8 := n0_; have HB := n1_; clear n0_ n1_; (try clear hb); (try clear hkp); (try clear hy0)))
         go_ret3
         exact ⟨_, by rfl, by (with_reducible repeat (first | apply Kd.R_alloc | apply Kd.R_drewN | apply Kd.R_drew)); exact HO_8.out, by repeat ((with_reducible exact HB.out))⟩
        ·replace c50 := Bool.eq_false_iff.mpr c50
         subst c50
         have H1 : (some (([] : List (S141)), 46, 0)) = some (r1, r2, r3) := by rw [if_neg (show ¬ (false = true) by decide)] at H; exact H
         clear H
         have H := H1
         clear H1
         simp only [Option.some.injEq, Prod.mk.injEq] at H
         obtain ⟨rfl, rfl, rfl⟩ := H
         go_wp2
         go_ret3
         exact ⟨_, by rfl, by exact Kd.R_nil _ _ _ _ _, by repeat ((with_reducible exact HB.out))⟩
end
end Go.Proofs.YtikbfjnbhogihaaGreatDoor.M
