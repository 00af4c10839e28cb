import Derived.Test.YtikbfjnbhogihaaGreatDoorF51
import Derived.Test.YtikbfjnbhogihaaGreatDoorM0
import Derived.Test.YtikbfjnbhogihaaGreatDoorF157
import Derived.Test.YtikbfjnbhogihaaGreatDoorMkT
import Derived.Test.YtikbfjnbhogihaaGreatDoorXSrcNum
import Derived.Test.YtikbfjnbhogihaaGreatDoorSShelf
import Derived.Test.YtikbfjnbhogihaaGreatDoorF158
import Derived.Test.YtikbfjnbhogihaaGreatDoorCan
import Derived.Test.YtikbfjnbhogihaaGreatDoorCanSort
import Derived.Test.YtikbfjnbhogihaaGreatDoorKp
import Derived.Test.YtikbfjnbhogihaaGreatDoorMp
/- laws.markStringSS: a row of rows of strings is written. -/
namespace Go.Proofs.YtikbfjnbhogihaaGreatDoor.M
open Go.RowKit Go.Proofs.YtikbfjnbhogihaaGreatDoorW.PrintWords Go.Proofs.YtikbfjnbhogihaaGreatDoorW.PrintLast Go.Proofs.YtikbfjnbhogihaaGreatDoorW.PrintMore
set_option linter.unusedVariables false
set_option linter.unusedSimpArgs false
namespace MkSS
abbrev kS : Kd (List ByteArray) := Kd.slice 9 Kd.string
def mk (k : Nat) : List (List ByteArray) → Int → Option (Int × List (List ByteArray))
 | [], a => some (a, [])
 | x :: l, a => (laws_markStringS.f k x a).bind fun t => (mk k l t.1).bind fun z => some (z.1, t.2 :: z.2)
theorem mk_cons {k : Nat} {x : List ByteArray} {l : List (List ByteArray)} {a r1 : Int} {r2 : List (List ByteArray)} (h : mk k (x :: l) a = some (r1, r2)) :
  ∃ t1 t2 z2, laws_markStringS.f k x a = some (t1, t2) ∧ mk k l t1 = some (r1, z2) ∧ r2 = t2 :: z2 := by
 unfold mk at h
 obtain ⟨⟨t1, t2⟩, h1, h⟩ := Option.bind_eq_some_iff.1 h
 obtain ⟨⟨z1, z2⟩, h3, h⟩ := Option.bind_eq_some_iff.1 h
 obtain ⟨rfl, rfl⟩ := Prod.mk.inj (Option.some.inj h)
 exact ⟨t1, t2, z2, h1, h3, rfl⟩
theorem set_mid {α : Type} (D : List α) (x y : α) (R : List α) : (D ++ x :: R).set D.length y = D ++ y :: R := by simp
theorem getD_mid {α : Type} (D : List α) (x z : α) (R : List α) : (D ++ x :: R).getD D.length z = x := by simp [List.getD]
set_option maxHeartbeats 4000000 in
set_option maxRecDepth 100000 in
theorem markSS (k : Nat) (P0 : Nat → Prop) (v : Value) (l : List (List ByteArray)) (a r1 : Int) (r2 : List (List ByteArray)) (w0 w : World) (hB : Below w0.heap.size w0 w) (hS : Kd.S kS 117 w w0.heap.size P0 v l) (hl : l.length ≤ 1048576) (h : mk k l a = some (r1, r2)) :
  Calls Tryz.prog 24 #[v, .int .i64 a] w fun e w' => e = .returned (.int .i64 r1) ∧ Kd.S kS 117 w' w0.heap.size (fun k => P0 k ∨ w.heap.size ≤ k) v r2 ∧ Below w0.heap.size w0 w' ∧ Kept w w' P0 := by
 obtain ⟨A, c, rfl⟩ := Kd.S_slice hS
 have HS := Aside0.mk (Kd.S_mono (ok' := fun k => P0 k ∨ w.heap.size ≤ k) hS (fun _ hk => .inl hk))
 have HM := Aside0.mk h
 have HB := Aside0.mk hB
 clear hS h hB
 go_enter Tryz.func24, Tryz.ntmps24
 go_wp2
 go_loopw [1, 5] (fun v1 v5 wr => ∃ (D R R' : List (List ByteArray)) (x1 : Int), v1 = .int .i64 x1 ∧ v5 = .int .i64 (D.length : Nat) ∧ Aside0 (D.length + R.length = l.length) ∧ Aside0 (mk k R x1 = some (r1, R')) ∧ Aside0 (r2 = D ++ R') ∧
  Aside0 (Kd.S kS 117 wr w0.heap.size (fun k => P0 k ∨ w.heap.size ≤ k) (.slice A l.length c) (D ++ R)) ∧ Aside0 (Below w0.heap.size w0 wr) ∧ Aside0 (Kept w wr P0)) (fun _ v5 _ => l.length - (intOf v5).toNat)
 case atStart => exact ⟨[], l, r2, a, rfl, rfl, ⟨by simp⟩, HM, ⟨rfl⟩, HS, HB, ⟨Kept.refl w P0⟩⟩
 case round =>
  obtain ⟨D, R, R', x1, rfl, rfl, HL, HR, HE, HSr, HBr, HKr⟩ := hrel
  cases R with
  | nil =>
   have hn : D.length = l.length := by simpa using HL.out
   have h1 := HR.out
   obtain ⟨rfl, rfl⟩ := Prod.mk.inj (Option.some.inj h1)
   go_wp2
   go_ret
   refine ⟨rfl, ?_, HBr.out, HKr.out⟩
   rw [HE.out]
   exact HSr.out
  | cons x R =>
   have hn : D.length < l.length := by have := HL.out; simp only [List.length_cons] at this; omega
   obtain ⟨g, cap, e, hgb, hglt, _⟩ := Kd.S_form HSr.out (by rw [List.length_append, List.length_cons]; omega)
   injection e with eA e1 e2
   subst eA
   clear e1 e2
   obtain ⟨oki, cs, hcl, hM, hcc, hfr, hoki, hH⟩ := Kd.S_elem HSr.out ([] : List ByteArray) (D.length : Nat) (by omega) (by omega)
   rw [Int.toNat_natCast] at hcc hM
   rw [getD_mid] at hM
   obtain ⟨v0, rfl, hR0⟩ : ∃ v, cs = [v] ∧ Kd.string.R 9 wr w0.heap.size oki v x := hM
   obtain ⟨A0, c0, rfl⟩ := Kd.R_slice hR0
   obtain ⟨t1, t2, z2, ht, hz, hr2⟩ := mk_cons HR.out
   have y0 : wr.cell? ⟨g, D.length, none⟩ = some (.slice A0 x.length c0) := by have := hcc 0 _ rfl; rw [show D.length * kS.sz + 0 = D.length from Nat.mul_one _] at this; exact this
   have HR0 := Aside0.mk hR0
   have HH := Aside0.mk (Kd.H_widen hH)
   have HT := Aside0.mk ht
   have HU := Aside0.mk hz
   have HR2 := Aside0.mk hr2
   have HO := Aside0.mk hoki
   clear hcc hfr hR0 hH ht hz hr2 hoki hcl hgb hglt
   go_wp2_with fail
   refine (laws_markStringS.calls k oki _ x x1 t1 t2 w0 wr HBr.out HR0.out HT.out).mono ?_
   rintro e w2 ⟨rfl, hR2, hB2, hK2⟩
   have HH2 := Aside0.mk (Kd.H_kept HH.out hK2 (fun k _ hn hs => hn (.inl hs)))
   have HRn := Aside0.mk hR2
   have HBn := Aside0.mk hB2
   have HKn := Aside0.mk (Kept.then_ HKr.out hK2 (fun k hk => (HO.out k hk).1))
   clear hR2 hB2 hK2 y0
   go_wp2_with fail
   go_round
   case rel =>
    refine ⟨D ++ [t2], R, z2, t1, rfl, by simp, ⟨by have := HL.out; simp only [List.length_cons, List.length_append, List.length_nil] at this ⊢; omega⟩, HU, ⟨by rw [HE.out, HR2.out]; simp⟩, ⟨?_⟩, HBn, HKn⟩
    have hs := Kd.H_back HH2.out (x' := t2) (okp := fun k => oki k ∨ (P0 k ∨ w.heap.size ≤ k) ∧ wr.heap.size ≤ k) (show (kS).M w2 w0.heap.size _ t2 _ from ⟨_, rfl, Kd.R_mono HRn.out (fun k hk => hk.imp_right fun h => ⟨.inr (Nat.le_trans HKr.out.1 h), h⟩)⟩) (fun _ hk => hk)
    rw [Int.toNat_natCast, set_mid] at hs
    rw [List.append_assoc]
    exact hs
   case measure => simp [intOf]; omega
end MkSS
end Go.Proofs.YtikbfjnbhogihaaGreatDoor.M
namespace Go.Proofs.YtikbfjnbhogihaaGreatDoor.M
open Go.RowKit Go.Proofs.YtikbfjnbhogihaaGreatDoorW.PrintWords Go.Proofs.YtikbfjnbhogihaaGreatDoorW.PrintLast Go.Proofs.YtikbfjnbhogihaaGreatDoorW.PrintMore
attribute [local go_sem] max2_int min2_int max_two min_two max_three min_three max_four min_four
set_option linter.unusedVariables false
set_option linter.unusedSimpArgs false
/-! ### impl_source_s16: function 135 -/
def impl_source_s16.f (s0_0 : ByteArray) : Option (ByteArray × ByteArray) := (impl_source_num.f s0_0 2).bind fun bt235 => ((impl_source_text.f bt235.2 bt235.1).bind fun bt237 => (some (bt237.1, bt237.2)))
set_option maxHeartbeats 8000000 in
set_option maxRecDepth 100000 in
theorem impl_source_s16.calls (g : Nat) (s0_0 : ByteArray) (r1 : ByteArray) (r2 : ByteArray) (w0 w : World) (hI : IsS189 w0 w g s0_0) (hB : Below w0.heap.size w0 w) (h : impl_source_s16.f s0_0 = some (r1, r2)) :
  Calls Tryz.prog 135 #[.pointer (some ⟨g, 0, none⟩)] w fun e w' => e = .returned (.string r1) ∧ IsS189 w0 w' g r2 ∧ Below w0.heap.size w0 w' ∧ KeepBut w w' g none := by
 have HI0 := Aside0.mk hI
 have HK := Aside0.mk (KeepBut.refl w g none)
 have HL := Aside0.mk hB.size
 clear hI
 have HW0 := Aside0.mk hB.size
 have HB := Aside0.mk hB
 clear hB
 have H : ((impl_source_num.f s0_0 2).bind fun bt235 => ((impl_source_text.f bt235.2 bt235.1).bind fun bt237 => (some (bt237.1, bt237.2)))) = some (r1, r2) := h
 clear h
 replace H := Option.bind_eq_some_iff.mp H
 obtain ⟨⟨t235, t236⟩, A20, H⟩ := H
 replace H : ((impl_source_text.f t236 t235).bind fun bt237 => (some (bt237.1, bt237.2))) = some (r1, r2) := H
 have A2 := Aside0.mk A20
 clear A20
 replace H := Option.bind_eq_some_iff.mp H
 obtain ⟨⟨t237, t238⟩, A30, H⟩ := H
 replace H : (some (t237, t238)) = some (r1, r2) := H
 have A3 := Aside0.mk A30
 clear A30
 simp only [Option.some.injEq, Prod.mk.injEq] at H
 obtain ⟨rfl, rfl⟩ := H
 go_enter Tryz.func135, Tryz.ntmps135
 go_wp2_with (first | ((with_reducible refine gate_callee (f := 133) rfl ?_); refine goesL_ (some 5) rfl rfl Tryz.func133 (by kernel_rfl) rfl #[.pointer (some ⟨g, 0, none⟩), .int .i64 2] rfl (by (try simp only [List.map_toArray, List.map_cons, List.map_nil]); first | done | rfl | (simp only [List.length_drop, List.length_take]; rfl)) ?_; (with_reducible refine (impl_source_num.calls g s0_0 2 t235 t236 w0 _ ?side1 ?side2 A2.out).mono ?_); (case side1 => repeat (first | (with_reducible first | exact HI0.out | apply IsS189.alloc | apply IsS189.drewN | apply IsS189.drew | apply IsS189.set_0) | exact HI0.out)); (case side2 => repeat (first | (with_reducible first | exact HB.out | apply below_alloc | apply pw_below_drewN | apply below_drew1 | refine below_set ?_ (IsS189.ge HI0.out)) | exact HB.out)); rintro e w4 ⟨rfl, hi, hb, hk⟩; refine ⟨_, rfl, ?_⟩; have n0_ := Aside0.mk (KeepBut.trans (by repeat (first | (with_reducible first | exact HK.out | apply KeepBut.set_ | apply keep_drewN | apply keep_drew | apply keep_alloc) | exact HK.out)) hk (.inl rfl)); have n1_ := Aside0.mk (hb); have n2_ := Aside0.mk (hi); clear HK; clear HB; clear HI0; have HK := n0_; have HB := n1_; have HI0 := n2_; clear n0_ n1_ n2_; (try clear hb); (try clear hb2); (try clear hk); (try clear hi)) | ((with_reducible refine gate_callee (f := 157) rfl ?_); refine goesL_ (some 6) rfl rfl Tryz.func157 (by kernel_rfl) rfl #[.pointer (some ⟨g, 0, none⟩), .int .i64 t235] rfl (by (try simp only [List.map_toArray, List.map_cons, List.map_nil]); first | done | rfl | (simp only [List.length_drop, List.length_take]; rfl)) ?_; (with_reducible refine (impl_source_text.calls g t236 t235 t237 t238 w0 _ ?side1 ?side2 A3.out).mono ?_); (case side1 => repeat (first | (with_reducible first | exact HI0.out | apply IsS189.alloc | apply IsS189.drewN | apply IsS189.drew | apply IsS189.set_0) | exact HI0.out)); (case side2 => repeat (first | (with_reducible first | exact HB.out | apply below_alloc | apply pw_below_drewN | apply below_drew1 | refine below_set ?_ (IsS189.ge HI0.out)) | exact HB.out)); rintro e w5 ⟨rfl, hi, hb, hk⟩; refine ⟨_, rfl, ?_⟩; have n0_ := Aside0.mk (KeepBut.trans (by repeat (first | (with_reducible first | exact HK.out | apply KeepBut.set_ | apply keep_drewN | apply keep_drew | apply keep_alloc) | exact HK.out)) hk (.inl rfl)); have n1_ := Aside0.mk (hb); have n2_ := Aside0.mk (hi); clear HK; clear HB; clear HI0; have HK := n0_; have HB := n1_; have HI0 := n2_; clear n0_ n1_ n2_; (try clear hb); (try clear hb2); (try clear hk); (try clear hi)))
 go_ret
 exact ⟨by first | rfl | (simp [errW_none, errW_some] <;> rfl) | (simp [*, errW_none, errW_some] <;> rfl), by repeat (first | (with_reducible first | exact HI0.out | apply IsS189.alloc | apply IsS189.drewN | apply IsS189.drew | apply IsS189.set_0) | exact HI0.out), by repeat (first | (with_reducible first | exact HB.out | apply below_alloc | apply pw_below_drewN | apply below_drew1 | refine below_set ?_ (IsS189.ge HI0.out)) | exact HB.out), by repeat (first | (with_reducible first | exact HK.out | apply KeepBut.set_ | apply keep_drewN | apply keep_drew | apply keep_alloc) | exact HK.out)⟩
/-! ### laws_eqStringSS: function 22 -/
def laws_eqStringSS.l0 : Nat → List (List ByteArray) → List (List ByteArray) → Int → Option (Bool)
 | 0, _, _, _ => none
 | k + 1, x0, x1, x5 => if x5 < (x0.length : Int) then (if 0 ≤ x5 then (if x5 < (x1.length : Int) then ((laws_eqStringS.f k (rd_L17 x0 x5) (rd_L17 x1 x5)).bind fun t475 => (if t475 = true then (laws_eqStringSS.l0 k x0 x1 (wrap64 (x5 + 1))) else (some false))) else (none)) else (none)) else (some true)
def laws_eqStringSS.f (k : Nat) (l0 : List (List ByteArray)) (l1 : List (List ByteArray)) : Option (Bool) := if (l0.length : Int) = (l1.length : Int) then (laws_eqStringSS.l0 k l0 l1 0) else (some false)
set_option maxHeartbeats 8000000 in
set_option maxRecDepth 100000 in
theorem laws_eqStringSS.calls (k : Nat) (A0 : Option Addr) (c0 : Nat) (l0 : List (List ByteArray)) (A1 : Option Addr) (c1 : Nat) (l1 : List (List ByteArray)) (r : Bool) (w : World) (hr0 : Kd.C (Kd.slice 9 Kd.string) w A0 l0.length l0) (hc0 : l0.length ≤ c0) (hr1 : Kd.C (Kd.slice 9 Kd.string) w A1 l1.length l1) (hc1 : l1.length ≤ c1) (h : laws_eqStringSS.f k l0 l1 = some r) :
  Calls Tryz.prog 22 #[.slice A0 l0.length c0, .slice A1 l1.length c1] w fun e w' => e = .returned (.bool r) ∧ Drawn0 w w' := by
 have HR0 := Aside0.mk hr0
 clear hr0 hc0
 have HR1 := Aside0.mk hr1
 clear hr1 hc1
 have H : (if (l0.length : Int) = (l1.length : Int) then (laws_eqStringSS.l0 k l0 l1 0) else (some false)) = some r := h
 clear h
 by_cases c3 : (l0.length : Int) = (l1.length : Int)
 ·rw [if_pos c3] at H
  have c3b1 : ((l0.length : Int) != (l1.length : Int)) = false := bne_eq_false_iff_eq.mpr c3
  clear c3
  have H' := Aside0.mk H
  clear H
  go_enter Tryz.func22, Tryz.ntmps22
  go_wp2
  repeat (go_quiet (fail))
  go_loopg [5] k (fun kq v5 w' => ∃ (x5_1 : Int), v5 = .int .i64 x5_1 ∧ Aside0 (laws_eqStringSS.l0 kq l0 l1 x5_1 = some r) ∧ Aside0 (kq ≤ k) ∧ Drawn0 w w')
  case atStart => exact ⟨(0), (by rfl), H', ⟨Nat.le_refl _⟩, by repeat (exact Drawn0.refl _)⟩
  case round =>
   clear H'
   try clear c3b1
   obtain ⟨x5_1, rfl, HA, HK1, ⟨m1, rfl⟩⟩ := hrel
   cases gk with
   | zero => exact absurd HA.out (by simp [laws_eqStringSS.l0])
   | succ k1 =>
    have H := HA.out
    clear HA
    simp only [laws_eqStringSS.l0] at H
    by_cases c4 : x5_1 < (l0.length : Int)
    ·rw [if_pos c4] at H
     have c4b0 : decide (x5_1 < (l0.length : Int)) = true := decide_eq_true c4
     clear c4
     by_cases c5 : 0 ≤ x5_1
     ·rw [if_pos c5] at H
      have c5b0 : decide (0 ≤ x5_1) = true := decide_eq_true c5
      clear c5
      by_cases c6 : x5_1 < (l1.length : Int)
      ·rw [if_pos c6] at H
       have c6b0 : decide (x5_1 < (l1.length : Int)) = true := decide_eq_true c6
       clear c6
       replace H := Option.bind_eq_some_iff.mp H
       obtain ⟨t475, A70, H⟩ := H
       replace H : (if t475 = true then (laws_eqStringSS.l0 k1 l0 l1 (wrap64 (x5_1 + 1))) else (some false)) = some r := H
       have A7 := Aside0.mk A70
       clear A70
       by_cases c8 : t475 = true
       ·subst c8
        have H1 : (laws_eqStringSS.l0 k1 l0 l1 (wrap64 (x5_1 + 1))) = some r := by rw [if_pos rfl] at H; exact H
        clear H
        have H := H1
        clear H1
        have H' := Aside0.mk H
        clear H
        have p473 : 0 ≤ (x5_1 : Int) := of_decide_eq_true (by (with_reducible assumption))
        have q473 : x5_1 < (l0.length : Int) := of_decide_eq_true (by (with_reducible assumption))
        obtain ⟨ad473, A473_0, c473_0, e473, hx473_0, hl473_0, hi473_0⟩ := at_L17 HR0.out x5_1 p473 q473
        cases e473
        have HR473_0 := Aside0.mk hi473_0
        have HC473_0 := Aside0.mk hl473_0
        clear hi473_0 hl473_0
        replace p473 := eq_true p473
        replace q473 := eq_true q473
        have p474 : 0 ≤ (x5_1 : Int) := of_decide_eq_true (by (with_reducible assumption))
        have q474 : x5_1 < (l1.length : Int) := of_decide_eq_true (by (with_reducible assumption))
        obtain ⟨ad474, A474_0, c474_0, e474, hx474_0, hl474_0, hi474_0⟩ := at_L17 HR1.out x5_1 p474 q474
        cases e474
        have HR474_0 := Aside0.mk hi474_0
        have HC474_0 := Aside0.mk hl474_0
        clear hi474_0 hl474_0
        replace q474 := eq_true q474
        go_wp2_with (first | (go_at_call 70; (with_reducible refine (laws_eqStringS.calls k1 _ _ (rd_L17 l0 x5_1) _ _ (rd_L17 l1 x5_1) true _ ?side1 ?side2 ?side3 ?side4 A7.out).mono ?_); (case side1 => repeat (first | exact HR473_0.out | (with_reducible refine Kd.C_alloc ?_ _) | (with_reducible refine Kd.C_drewN ?_ _) | (with_reducible refine Kd.C_drew ?_))); (case side2 => exact HC473_0.out); (case side3 => repeat (first | exact HR474_0.out | (with_reducible refine Kd.C_alloc ?_ _) | (with_reducible refine Kd.C_drewN ?_ _) | (with_reducible refine Kd.C_drew ?_))); (case side4 => exact HC474_0.out); rintro e w' ⟨rfl, ⟨nd, rfl⟩⟩))
        repeat (go_quiet ((go_at_call 70; (with_reducible refine (laws_eqStringS.calls k1 _ _ (rd_L17 l0 x5_1) _ _ (rd_L17 l1 x5_1) true _ ?side1 ?side2 ?side3 ?side4 A7.out).mono ?_); (case side1 => repeat (exact HR473_0.out)); (case side2 => exact HC473_0.out); (case side3 => repeat (exact HR474_0.out)); (case side4 => exact HC474_0.out); rintro e w' ⟨rfl, ⟨nd, rfl⟩⟩; (try exact ⟨rfl, _, Eq.trans (World.drewN_drewN _ _ _) (congrArg (World.drewN _) (Nat.add_assoc _ _ _))⟩))); try go_wp2_with (first | (go_at_call 70; (with_reducible refine (laws_eqStringS.calls k1 _ _ (rd_L17 l0 x5_1) _ _ (rd_L17 l1 x5_1) true _ ?side1 ?side2 ?side3 ?side4 A7.out).mono ?_); (case side1 => repeat (first | exact HR473_0.out | (with_reducible refine Kd.C_alloc ?_ _) | (with_reducible refine Kd.C_drewN ?_ _) | (with_reducible refine Kd.C_drew ?_))); (case side2 => exact HC473_0.out); (case side3 => repeat (first | exact HR474_0.out | (with_reducible refine Kd.C_alloc ?_ _) | (with_reducible refine Kd.C_drewN ?_ _) | (with_reducible refine Kd.C_drew ?_))); (case side4 => exact HC474_0.out); rintro e w' ⟨rfl, ⟨nd, rfl⟩⟩)))
        go_roundg k1
        case measure => have := HK1.out; omega
        case rel => exact ⟨(wrap64 (x5_1 + 1)), (by rfl), H', ⟨by have := HK1.out; omega⟩, by repeat (first | exact Drawn0.refl _ | apply Drawn0.step)⟩
       ·replace c8 := Bool.eq_false_iff.mpr c8
        subst c8
        have H1 : (some false) = some r := by rw [if_neg (show ¬ (false = true) by decide)] at H; exact H
        clear H
        have H := H1
        clear H1
        obtain rfl := Option.some.inj H
        have p473 : 0 ≤ (x5_1 : Int) := of_decide_eq_true (by (with_reducible assumption))
        have q473 : x5_1 < (l0.length : Int) := of_decide_eq_true (by (with_reducible assumption))
        obtain ⟨ad473, A473_0, c473_0, e473, hx473_0, hl473_0, hi473_0⟩ := at_L17 HR0.out x5_1 p473 q473
        cases e473
        have HR473_0 := Aside0.mk hi473_0
        have HC473_0 := Aside0.mk hl473_0
        clear hi473_0 hl473_0
        replace p473 := eq_true p473
        replace q473 := eq_true q473
        have p474 : 0 ≤ (x5_1 : Int) := of_decide_eq_true (by (with_reducible assumption))
        have q474 : x5_1 < (l1.length : Int) := of_decide_eq_true (by (with_reducible assumption))
        obtain ⟨ad474, A474_0, c474_0, e474, hx474_0, hl474_0, hi474_0⟩ := at_L17 HR1.out x5_1 p474 q474
        cases e474
        have HR474_0 := Aside0.mk hi474_0
        have HC474_0 := Aside0.mk hl474_0
        clear hi474_0 hl474_0
        replace q474 := eq_true q474
        go_wp2_with (first | (go_at_call 70; (with_reducible refine (laws_eqStringS.calls k1 _ _ (rd_L17 l0 x5_1) _ _ (rd_L17 l1 x5_1) false _ ?side1 ?side2 ?side3 ?side4 A7.out).mono ?_); (case side1 => repeat (first | exact HR473_0.out | (with_reducible refine Kd.C_alloc ?_ _) | (with_reducible refine Kd.C_drewN ?_ _) | (with_reducible refine Kd.C_drew ?_))); (case side2 => exact HC473_0.out); (case side3 => repeat (first | exact HR474_0.out | (with_reducible refine Kd.C_alloc ?_ _) | (with_reducible refine Kd.C_drewN ?_ _) | (with_reducible refine Kd.C_drew ?_))); (case side4 => exact HC474_0.out); rintro e w' ⟨rfl, ⟨nd, rfl⟩⟩))
        repeat (go_quiet ((go_at_call 70; (with_reducible refine (laws_eqStringS.calls k1 _ _ (rd_L17 l0 x5_1) _ _ (rd_L17 l1 x5_1) false _ ?side1 ?side2 ?side3 ?side4 A7.out).mono ?_); (case side1 => repeat (exact HR473_0.out)); (case side2 => exact HC473_0.out); (case side3 => repeat (exact HR474_0.out)); (case side4 => exact HC474_0.out); rintro e w' ⟨rfl, ⟨nd, rfl⟩⟩; (try exact ⟨rfl, _, Eq.trans (World.drewN_drewN _ _ _) (congrArg (World.drewN _) (Nat.add_assoc _ _ _))⟩))); try go_wp2_with (first | (go_at_call 70; (with_reducible refine (laws_eqStringS.calls k1 _ _ (rd_L17 l0 x5_1) _ _ (rd_L17 l1 x5_1) false _ ?side1 ?side2 ?side3 ?side4 A7.out).mono ?_); (case side1 => repeat (first | exact HR473_0.out | (with_reducible refine Kd.C_alloc ?_ _) | (with_reducible refine Kd.C_drewN ?_ _) | (with_reducible refine Kd.C_drew ?_))); (case side2 => exact HC473_0.out); (case side3 => repeat (first | exact HR474_0.out | (with_reducible refine Kd.C_alloc ?_ _) | (with_reducible refine Kd.C_drewN ?_ _) | (with_reducible refine Kd.C_drew ?_))); (case side4 => exact HC474_0.out); rintro e w' ⟨rfl, ⟨nd, rfl⟩⟩)))
        go_ret
        exact ⟨by rfl, by repeat (first | exact Drawn0.refl _ | apply Drawn0.step)⟩
      ·rw [if_neg c6] at H
       exact absurd H (by simp)
     ·rw [if_neg c5] at H
      exact absurd H (by simp)
    ·rw [if_neg c4] at H
     have c4b0 : decide (x5_1 < (l0.length : Int)) = false := decide_eq_false c4
     clear c4
     obtain rfl := Option.some.inj H
     go_wp2
     repeat (go_quiet (fail))
     go_ret
     exact ⟨by rfl, by repeat (first | exact Drawn0.refl _ | apply Drawn0.step)⟩
 ·rw [if_neg c3] at H
  have c3b1 : ((l0.length : Int) != (l1.length : Int)) = true := bne_iff_ne.mpr c3
  obtain rfl := Option.some.inj H
  go_enter Tryz.func22, Tryz.ntmps22
  go_wp2
  repeat (go_quiet (fail))
  go_ret
  exact ⟨by rfl, by repeat (exact Drawn0.refl _)⟩
noncomputable section
/-! ### impl_EncodeKey: function 136 -/
mutual
def impl_EncodeKey.j0 : Nat → List (S141) → Bool → Option (ByteArray)
 | 0, _, _ => none
 | k + 1, x0, x22 => if x22 = true then (some (⟨#[]⟩ : ByteArray)) else ((impl_num.f 1 (x0.length : Int)).bind fun t271 => (impl_EncodeKey.l0 k (([t271] : List ByteArray)) x0 (x0.length : Int) 0))
def impl_EncodeKey.l0 : Nat → List ByteArray → List (S141) → Int → Int → Option (ByteArray)
 | 0, _, _, _, _ => none
 | k + 1, x6, x27, x28, x29 => if x29 < x28 then (if 0 ≤ x29 then (if x29 < (x27.length : Int) then ((impl_s8.f ((rd_T141 x27 x29).f0)).bind fun t277 => ((impl_s16.f ((rd_T141 x27 x29).f1)).bind fun t278 => ((some (([t277, t278] : List ByteArray) : List ByteArray)).bind fun y279 => (if x6.length + y279.length < 8796093022208 then (impl_EncodeKey.l0 k (x6 ++ y279) x27 x28 (wrap64 (x29 + 1))) else (none))))) else (none)) else (none)) else ((impl_join.f x6).bind fun bt285 => (some bt285.1))
end
def impl_EncodeKey.f (k : Nat) (l0 : List (S141)) : Option (ByteArray) := (impl_Canon.f k l0).bind fun bt265 => (if bt265.2.1 = 0 then ((impl_Label_159.f k bt265.1 l0).bind fun t270 => (impl_EncodeKey.j0 k l0 (!t270))) else (impl_EncodeKey.j0 k l0 true))
def impl_EncodeKey.T8 : Bool × List (List Nat × List Nat) := (true, [([], []), ([], []), ([1], [1]), ([2], [2]), ([], []), ([4], [4]), ([5, 3], [5]), ([3, 6], [3, 6]), ([0, 7, 6], [0, 7]), ([8, 8, 0, 1, 2, 3, 4, 5, 6, 7, 8], [0, 8])])
def impl_EncodeKey.B8 : List Nat := [0, 0, 2, 6, 0, 16, 62, 126, 255, 511]
theorem impl_EncodeKey.tab8 : rtab .any (opsOf Tryz.f136 8) = impl_EncodeKey.T8 := by kernel_rfl
theorem impl_EncodeKey.bits8 : waitsOk impl_EncodeKey.T8.2 impl_EncodeKey.B8 = true := by kernel_rfl
set_option maxHeartbeats 8000000 in
set_option maxRecDepth 100000 in
theorem impl_EncodeKey.calls (k : Nat) (A0 : Option Addr) (c0 : Nat) (l0 : List (S141)) (r : ByteArray) (w : World) (hr0 : Kd.C k141 w A0 l0.length l0) (hc0 : l0.length ≤ c0) (h : impl_EncodeKey.f k l0 = some r) (hT_ : Tabs w) :
  Calls Tryz.prog 136 #[.slice A0 l0.length c0] w fun e w' => e = .returned (.string r) ∧ Below w.heap.size w w' := by
 have HT := Aside0.mk hT_
 clear hT_
 have HR0 := Aside0.mk hr0
 have HC0 := Aside0.mk hc0
 clear hr0 hc0
 have HB := Aside0.mk (Below.refl w.heap.size w)
 have H : ((impl_Canon.f k l0).bind fun bt265 => (if bt265.2.1 = 0 then ((impl_Label_159.f k bt265.1 l0).bind fun t270 => (impl_EncodeKey.j0 k l0 (!t270))) else (impl_EncodeKey.j0 k l0 true))) = some r := h
 clear h
 replace H := Option.bind_eq_some_iff.mp H
 obtain ⟨⟨t265, t266, t267⟩, A20, H⟩ := H
 replace H : (if t266 = 0 then ((impl_Label_159.f k t265 l0).bind fun t270 => (impl_EncodeKey.j0 k l0 (!t270))) else (impl_EncodeKey.j0 k l0 true)) = some r := H
 have A2 := Aside0.mk A20
 clear A20
 have HC3 := Aside0.mk H
 clear H
 go_enter Tryz.func136, Tryz.ntmps136
 go_upto_region 2 with (((with_reducible refine gate_callee (f := 158) rfl ?_); refine goesL_ (some 11) rfl rfl Tryz.func158 (by kernel_rfl) rfl #[.slice A0 l0.length c0] rfl (by (try simp only [List.map_toArray, List.map_cons, List.map_nil]); first | done | rfl) ?_; (with_reducible refine (impl_Canon.calls k _ _ l0 t265 t266 t267 _ ?side1 ?side2 A2.out (Tabs.below HT.out (by repeat ((with_reducible exact HB.out))))).mono ?_); (case side1 => repeat (exact HR0.out)); (case side2 => exact HC0.out); rintro e w4 ⟨v268, rfl, ho0, hb⟩; refine ⟨_, rfl, ?_⟩; have n0_ := Aside0.mk (Kd.R_lower ho0 (below_size (by repeat ((with_reducible exact HB.out))))); have n1_ := Aside0.mk (below_step (by repeat ((with_reducible exact HB.out))) hb); clear HB; have HO269 := n0_; have HB := n1_; clear n0_ n1_; (try clear hb); (try clear ho0)))
 go_cut [22] (fun v22 wc => ∃ (kq : Nat) (x22_2 : Bool), v22 = .bool x22_2 ∧ Aside0 (impl_EncodeKey.j0 kq l0 x22_2 = some r) ∧ Aside0 (kq ≤ k) ∧ Aside0 (Below w.heap.size w wc))
 case first =>
  have H := HC3.out
  clear HC3
  by_cases c5 : t266 = 0
  ·rw [if_pos c5] at H
   have c5b0 : (t266 == 0) = true := beq_iff_eq.mpr c5
   have c5b1 : (t266 != 0) = false := bne_eq_false_iff_eq.mpr c5
   clear c5
   (first | rw [c5b0] | (simp only [i64_w, i32_w]; rw [c5b0]) | skip)
   replace H := Option.bind_eq_some_iff.mp H
   obtain ⟨t270, A60, H⟩ := H
   replace H : (impl_EncodeKey.j0 k l0 (!t270)) = some r := H
   have A6 := Aside0.mk A60
   clear A60
   have H' := Aside0.mk H
   clear H
   obtain ⟨Ao7, co7, eo7⟩ := Kd.R_slice HO269.out
   subst eo7
   go_wp2_with ((go_at_call 159; (with_reducible refine (impl_Label_159.calls k _ _ t265 _ _ l0 t270 _ ?side1 ?side2 ?side3 ?side4 A6.out).mono ?_); (case side1 => repeat (exact (Kd.R_reads' HO269.out).2.2)); (case side2 => exact (Kd.R_reads' HO269.out).2.1); (case side3 => repeat (exact (Kd.C_below HR0.out HB.out))); (case side4 => exact HC0.out); rintro e w' ⟨rfl, ⟨nd, rfl⟩⟩))
   go_meet
   case rel => exact ⟨_, (!t270), (by rfl), H', ⟨by omega⟩, ⟨by repeat ((with_reducible first | exact HB.out | apply pw_below_drewN))⟩⟩
  ·rw [if_neg c5] at H
   have c5b0 : (t266 == 0) = false := beq_eq_false_iff_ne.mpr c5
   have c5b1 : (t266 != 0) = true := bne_iff_ne.mpr c5
   (first | rw [c5b0] | (simp only [i64_w, i32_w]; rw [c5b0]) | skip)
   have H' := Aside0.mk H
   clear H
   go_wp2
   go_meet
   case rel => exact ⟨_, (true), (by rfl), H', ⟨by omega⟩, ⟨by repeat ((with_reducible exact HB.out))⟩⟩
 case rest =>
  clear HC3
  obtain ⟨kq, x22_2, rfl, HA, HJ2, HB⟩ := hcut
  cases kq with
  | zero => exact absurd HA.out (by simp [impl_EncodeKey.j0])
  | succ kj2 =>
   have H := HA.out
   clear HA
   simp only [impl_EncodeKey.j0] at H
   by_cases c8 : x22_2 = true
   ·subst c8
    have H1 : (some (⟨#[]⟩ : ByteArray)) = some r := by rw [if_pos rfl] at H; exact H
    clear H
    have H := H1
    clear H1
    obtain rfl := Option.some.inj H
    go_wp2
    go_ret
    exact ⟨by rfl, by repeat ((with_reducible exact HB.out))⟩
   ·replace c8 := Bool.eq_false_iff.mpr c8
    subst c8
    have H1 : ((impl_num.f 1 (l0.length : Int)).bind fun t271 => (impl_EncodeKey.l0 kj2 (([t271] : List ByteArray)) l0 (l0.length : Int) 0)) = some r := by rw [if_neg (show ¬ (false = true) by decide)] at H; exact H
    clear H
    have H := H1
    clear H1
    replace H := Option.bind_eq_some_iff.mp H
    obtain ⟨t271, A90, H⟩ := H
    replace H : (impl_EncodeKey.l0 kj2 (([t271] : List ByteArray)) l0 (l0.length : Int) 0) = some r := H
    have A9 := Aside0.mk A90
    clear A90
    obtain ⟨y272, hy272⟩ : ∃ y_ : List ByteArray, y_ = (([t271] : List ByteArray)) := ⟨_, rfl⟩
    replace H : (impl_EncodeKey.l0 kj2 y272 l0 (l0.length : Int) 0) = some r := by (rw [hy272]; with_reducible exact H)
    have Ny272 := Aside0.mk hy272
    clear hy272
    have H' := Aside0.mk H
    clear H
    go_wp2_with (first | ((with_reducible refine gate_callee (f := 160) rfl ?_); refine goesL_ (some 25) rfl rfl Tryz.func160 (by kernel_rfl) rfl #[.int .i64 1, .int .i64 (l0.length : Int)] rfl (by (try simp only [List.map_toArray, List.map_cons, List.map_nil]); first | done | rfl) ?_; (with_reducible refine (impl_num.calls 1 (l0.length : Int) t271 _ A9.out).mono ?_); rintro e w10 ⟨rfl, hb⟩; refine ⟨_, rfl, ?_⟩; have n0_ := Aside0.mk (below_step (by repeat ((with_reducible exact HB.out))) hb); clear HB; have HB := n0_; clear n0_; (try clear hb)) | ((with_reducible refine gate_dst (N := 26) rfl ?_); refine Kd.R_lit Kd.string _ 9 ?hg (N := 26) ?hd (xs := ([t271] : List ByteArray)) (inner := [.string t271]) (ok := fun _ => True) (okp := fun _ => True) ?hr ?hp (fun _ hk => hk) trivial (Below.refl _ _) (Nat.le_refl _) (by simp) ?_; (case hd => rfl); (case hg => rfl); (case hr => (go_simp; done)); (case hp => exact (Reps.one (show Kd.M Kd.string _ _ _ t271 [.string t271] from rfl) (Reps.none _ _))); intro v273 w11 ho12 hb hg_ hnew_; clear hg_ hnew_; (rw [← Ny272.out] at ho12); have n0_ := Aside0.mk (Kd.R_lower ho12 (below_size (by repeat ((with_reducible exact HB.out))))); have n1_ := Aside0.mk (below_step (by repeat ((with_reducible exact HB.out))) hb); clear HB; have HO274 := n0_; have HB := n1_; clear n0_ n1_; clear hb ho12))
    go_loopg [6, 29] kj2 (fun kq v6 v29 w' => ∃ (x6_2 : List ByteArray) (x29_2 : Int), v29 = .int .i64 x29_2 ∧ Aside0 (impl_EncodeKey.l0 kq x6_2 l0 (l0.length : Int) x29_2 = some r) ∧ Aside0 (kq ≤ kj2) ∧ Aside0 (Kd.R Kd.string 9 w' w.heap.size (fun _ => True) v6 x6_2) ∧ Aside0 (Below w.heap.size w w'))
    case atStart => exact ⟨(y272), (0), (by rfl), H', ⟨Nat.le_refl _⟩, ⟨by (with_reducible repeat (first | apply Kd.R_alloc | apply Kd.R_drewN | apply Kd.R_drew)); exact HO274.out⟩, ⟨by repeat ((with_reducible exact HB.out))⟩⟩
    case round =>
     clear H'
     obtain ⟨x6_2, x29_2, rfl, HA, HK2, HO_6, HB⟩ := hrel
     cases gk with
     | zero => exact absurd HA.out (by simp [impl_EncodeKey.l0])
     | succ k2 =>
      have H := HA.out
      clear HA
      simp only [impl_EncodeKey.l0] at H
      by_cases c13 : x29_2 < (l0.length : Int)
      ·rw [if_pos c13] at H
       clear c13
       by_cases c14 : 0 ≤ x29_2
       ·rw [if_pos c14] at H
        have c14b0 : decide (0 ≤ x29_2) = true := decide_eq_true c14
        clear c14
        by_cases c15 : x29_2 < (l0.length : Int)
        ·rw [if_pos c15] at H
         have c15b0 : decide (x29_2 < (l0.length : Int)) = true := decide_eq_true c15
         clear c15
         replace H := Option.bind_eq_some_iff.mp H
         obtain ⟨t277, A160, H⟩ := H
         replace H : ((impl_s16.f ((rd_T141 l0 x29_2).f1)).bind fun t278 => ((some (([t277, t278] : List ByteArray) : List ByteArray)).bind fun y279 => (if x6_2.length + y279.length < 8796093022208 then (impl_EncodeKey.l0 k2 (x6_2 ++ y279) l0 (l0.length : Int) (wrap64 (x29_2 + 1))) else (none)))) = some r := H
         have A16 := Aside0.mk A160
         clear A160
         replace H := Option.bind_eq_some_iff.mp H
         obtain ⟨t278, A170, H⟩ := H
         replace H : ((some (([t277, t278] : List ByteArray) : List ByteArray)).bind fun y279 => (if x6_2.length + y279.length < 8796093022208 then (impl_EncodeKey.l0 k2 (x6_2 ++ y279) l0 (l0.length : Int) (wrap64 (x29_2 + 1))) else (none))) = some r := H
         have A17 := Aside0.mk A170
         clear A170
         obtain ⟨y279, hy279⟩ : ∃ y_ : List ByteArray, y_ = (([t277, t278] : List ByteArray)) := ⟨_, rfl⟩
         replace H : (if x6_2.length + y279.length < 8796093022208 then (impl_EncodeKey.l0 k2 (x6_2 ++ y279) l0 (l0.length : Int) (wrap64 (x29_2 + 1))) else (none)) = some r := by (have H2_ := (Option.bind_some _ _).symm.trans H; rw [hy279]; with_reducible exact H2_)
         have Ny279 := Aside0.mk hy279
         clear hy279
         by_cases c18 : x6_2.length + y279.length < 8796093022208
         ·rw [if_pos c18] at H
          have LMc18 := Aside0.mk c18
          clear c18
          obtain ⟨y282, hy282⟩ : ∃ y_ : List ByteArray, y_ = (x6_2 ++ y279) := ⟨_, rfl⟩
          replace H : (impl_EncodeKey.l0 k2 y282 l0 (l0.length : Int) (wrap64 (x29_2 + 1))) = some r := by (rw [hy282]; with_reducible exact H)
          have Ny282 := Aside0.mk hy282
          clear hy282
          have H' := Aside0.mk H
          clear H
          have p275 : 0 ≤ (x29_2 : Int) := of_decide_eq_true (by (with_reducible assumption))
          have q275 : x29_2 < (l0.length : Int) := of_decide_eq_true (by (with_reducible assumption))
          obtain ⟨ad275, e275, hx275_0, hx275_1⟩ := at_T141 HR0.out x29_2 p275 q275
          cases e275
          replace hx275_0 := (HB.out.cell (World.block_lt_of_cell? w _ hx275_0)).trans hx275_0
          replace hx275_1 := (HB.out.cell (World.block_lt_of_cell? w _ hx275_1)).trans hx275_1
          replace p275 := eq_true p275
          replace q275 := eq_true q275
          try go_wp2_with (((with_reducible refine gate_dst (N := 8) rfl ?_); refine box_event ?hg (N := 8) ?hd (cs := #[.string (⟨#[]⟩ : ByteArray), .string (⟨#[]⟩ : ByteArray)]) (t := 141) ?hr ?_; (case hd => rfl); (case hg => rfl); (case hr => (go_simp; done)); intro gb276 hg w19 hbox hb; have n0_ := Aside0.mk (Kd.R_below (by (with_reducible repeat (first | apply Kd.R_alloc | apply Kd.R_drewN | apply Kd.R_drew)); exact HO_6.out) hb); have n1_ := Aside0.mk (below_step (by repeat ((with_reducible exact HB.out))) hb); have n2_ := Aside0.mk (hbox); have n4_ := Aside0.mk ((by rw [hg]; exact (below_size (by repeat ((with_reducible exact HB.out)))) : w.heap.size ≤ gb276)); clear HO_6; clear HB; have HO_6 := n0_; have HB := n1_; have BK276 := n2_; have GE276 := n4_; clear n0_ n1_ n2_ n4_; clear hb hbox hg; have hcz20_0 : w19.cell? ⟨gb276, 0, none⟩ = some (.string (⟨#[]⟩ : ByteArray)) := (blk_cell BK276.out 0).trans rfl; have hcz20_1 : w19.cell? ⟨gb276, 1, none⟩ = some (.string (⟨#[]⟩ : ByteArray)) := (blk_cell BK276.out 1).trans rfl; have hfz20_0 := blk_frozen BK276.out 0; have hfz20_1 := blk_frozen BK276.out 1))
          have n0_ : Aside0 (Kd.R Kd.string 9 ((w19.setCell ⟨gb276, 0, none⟩ (.string ((rd_T141 l0 x29_2).f0))).setCell ⟨gb276, 1, none⟩ (.string ((rd_T141 l0 x29_2).f1))) w.heap.size (fun _ => True) u6 x6_2) := ⟨by (with_reducible repeat (first | apply Kd.R_alloc | apply Kd.R_drewN | apply Kd.R_drew)); exact Kd.R_mono (Kd.R_far (p := ⟨gb276, 1, none⟩) (Kd.R_far (p := ⟨gb276, 0, none⟩) (Kd.R_types HO_6.out BK276.out (by decide)) (fun _ hk => hk.2) (.string ((rd_T141 l0 x29_2).f0))) (fun _ hk => hk.2) (.string ((rd_T141 l0 x29_2).f1))) (fun _ hk => trivial)⟩
          have n1_ : Aside0 (((w19.setCell ⟨gb276, 0, none⟩ (.string ((rd_T141 l0 x29_2).f0))).setCell ⟨gb276, 1, none⟩ (.string ((rd_T141 l0 x29_2).f1))).heap[gb276]? = some (.cells #[.string ((rd_T141 l0 x29_2).f0), .string ((rd_T141 l0 x29_2).f1)] 141 (0, 0))) := ⟨by (with_reducible repeat (first | refine blk_drewN ?_ _ | refine blk_drew ?_ | refine blk_alloc ?_ _)); refine blk_put (cs := #[.string ((rd_T141 l0 x29_2).f0), .string (⟨#[]⟩ : ByteArray)]) ?_ 1 _ rfl; (with_reducible repeat (first | refine blk_drewN ?_ _ | refine blk_drew ?_ | refine blk_alloc ?_ _)); refine blk_put (cs := #[.string (⟨#[]⟩ : ByteArray), .string (⟨#[]⟩ : ByteArray)]) ?_ 0 _ rfl; (with_reducible repeat (first | refine blk_drewN ?_ _ | refine blk_drew ?_ | refine blk_alloc ?_ _)); exact BK276.out⟩
          have n2_ : Aside0 (Below w.heap.size w ((w19.setCell ⟨gb276, 0, none⟩ (.string ((rd_T141 l0 x29_2).f0))).setCell ⟨gb276, 1, none⟩ (.string ((rd_T141 l0 x29_2).f1)))) := ⟨by repeat ((with_reducible first | exact HB.out | refine below_set ?_ GE276.out))⟩
          (try clear HO_6)
          (try clear BK276)
          (try clear HB)
          generalize ((w19.setCell ⟨gb276, 0, none⟩ (.string ((rd_T141 l0 x29_2).f0))).setCell ⟨gb276, 1, none⟩ (.string ((rd_T141 l0 x29_2).f1))) = w21 at n0_ n1_ n2_ ⊢
          have HO_6 := n0_
          have BK276 := n1_
          have HB := n2_
          clear n0_ n1_ n2_
          have n0_ := Aside0.mk (Kd.R_drew HO_6.out)
          have n1_ := Aside0.mk (blk_drew BK276.out)
          have n2_ := Aside0.mk (below_drew1 HB.out)
          clear HO_6
          clear BK276
          clear HB
          have HO_6 := n0_
          have BK276 := n1_
          have HB := n2_
          clear n0_ n1_ n2_
          refine start_ (n := 10) (S := fun w' => w'.cell? ⟨gb276, 0, none⟩ = some (.string ((rd_T141 l0 x29_2).f0)) ∧ w'.cell? ⟨gb276, 1, none⟩ = some (.string ((rd_T141 l0 x29_2).f1))) (ds := []) #[false, false, false, false, false, false, false, false, false, false] (by kernel_rfl) rfl rfl ⟨(blk_cell BK276.out 0).trans rfl, (blk_cell BK276.out 1).trans rfl⟩ (fun hHeld => ?_); refine with_tabW impl_EncodeKey.tab8 impl_EncodeKey.bits8 (fun HT_ HW_ => ?_)
          generalize w21.drew = w22 at HO_6 BK276 HB hHeld ⊢
          refine Bk.pu_ 0 (some 33) (h := ?_)
          refine Bk.pu_ 1 (some 34) (h := ?_)
          refine Bk.pu_ 4 (some 37) (h := ?_)
          refine Bk.tk_ 2 (some 35) (hy := by rintro w' ⟨s0, s1⟩; go_simp; with_reducible rfl) (hS := hHeld) (h := ?_)
          refine Bk.tk_ 5 (some 38) (hy := by rintro w' ⟨s0, s1⟩; go_simp; with_reducible rfl) (hS := hHeld) (h := ?_)
          refine one_ (i := 3) (N := some 36) #[true, true, true, true, true, true, false, false, false, false] rfl rfl (one_of HT_.out (by kernel_rfl)) (by decide) (fun K hK => ?_)
          refine goes_ Tryz.func161 (by kernel_rfl) rfl #[.string ((rd_T141 l0 x29_2).f0)] (by rfl) rfl rfl (by (try simp only [List.map_toArray, List.map_cons, List.map_nil]); first | done | rfl) ?_
          with_reducible refine (impl_s8.calls ((rd_T141 l0 x29_2).f0) t277 _ A16.out).mono ?_
          rintro e w23 ⟨rfl, hb⟩
          refine ⟨_, rfl, ?_⟩
          have n0_ := Aside0.mk (Kd.R_below (by (with_reducible repeat (first | apply Kd.R_alloc | apply Kd.R_drewN | apply Kd.R_drew)); exact HO_6.out) hb)
          have n1_ := Aside0.mk (blk_below (g := gb276) (o := .cells #[.string ((rd_T141 l0 x29_2).f0), .string ((rd_T141 l0 x29_2).f1)] 141 (0, 0)) (by (with_reducible repeat (first | refine blk_drewN ?_ _ | refine blk_drew ?_ | refine blk_alloc ?_ _)); exact BK276.out) hb)
          have n2_ := Aside0.mk (below_step (by repeat ((with_reducible exact HB.out))) hb)
          clear HO_6
          clear BK276
          clear HB
          have HO_6 := n0_
          have BK276 := n1_
          have HB := n2_
          clear n0_ n1_ n2_
          (try clear hb)
          refine hK.out _ _ ⟨(blk_cell BK276.out 0).trans rfl, (blk_cell BK276.out 1).trans rfl⟩ (fun hHeld => ?_)
          clear hK K
          refine Bk.nm_ (some 36) _ (h := ?_)
          refine one_ (i := 6) (N := some 39) #[true, true, true, true, true, true, true, false, false, false] rfl rfl (one_of HT_.out (by kernel_rfl)) (by decide) (fun K hK => ?_)
          refine goes_ Tryz.func162 (by kernel_rfl) rfl #[.string ((rd_T141 l0 x29_2).f1)] (by rfl) rfl rfl (by (try simp only [List.map_toArray, List.map_cons, List.map_nil]); first | done | rfl) ?_
          with_reducible refine (impl_s16.calls ((rd_T141 l0 x29_2).f1) t278 _ A17.out).mono ?_
          rintro e w24 ⟨rfl, hb⟩
          refine ⟨_, rfl, ?_⟩
          have n0_ := Aside0.mk (Kd.R_below (by (with_reducible repeat (first | apply Kd.R_alloc | apply Kd.R_drewN | apply Kd.R_drew)); exact HO_6.out) hb)
          have n1_ := Aside0.mk (blk_below (g := gb276) (o := .cells #[.string ((rd_T141 l0 x29_2).f0), .string ((rd_T141 l0 x29_2).f1)] 141 (0, 0)) (by (with_reducible repeat (first | refine blk_drewN ?_ _ | refine blk_drew ?_ | refine blk_alloc ?_ _)); exact BK276.out) hb)
          have n2_ := Aside0.mk (below_step (by repeat ((with_reducible exact HB.out))) hb)
          clear HO_6
          clear BK276
          clear HB
          have HO_6 := n0_
          have BK276 := n1_
          have HB := n2_
          clear n0_ n1_ n2_
          (try clear hb)
          refine hK.out _ _ ⟨(blk_cell BK276.out 0).trans rfl, (blk_cell BK276.out 1).trans rfl⟩ (fun hHeld => ?_)
          clear hK K
          refine Bk.nm_ (some 39) _ (h := ?_)
          refine one_ (i := 7) (N := some 40) #[true, true, true, true, true, true, true, true, false, false] rfl rfl (one_of HT_.out (by kernel_rfl)) (by decide) (fun K hK => ?_)
          refine Kd.R_lit_step Kd.string _ 9 ?hg (N := 40) ?hd (xs := ([t277, t278] : List ByteArray)) (inner := [.string t277, .string t278]) (ok := fun _ => True) (okp := fun _ => True) ?hr ?hp (fun _ hk => hk) trivial (Below.refl _ _) (Nat.le_refl _) (by simp) ?_; (case hd => rfl); (case hg => rfl); (case hr => (go_simp; done)); (case hp => exact (Reps.one (show Kd.M Kd.string _ _ _ t277 [.string t277] from rfl) (Reps.one (show Kd.M Kd.string _ _ _ t278 [.string t278] from rfl) (Reps.none _ _))))
          intro v280 w25 ho26 hb hg_ hnew_
          clear hg_ hnew_
          (rw [← Ny279.out] at ho26)
          have n0_ := Aside0.mk (Kd.R_elder' (by (with_reducible repeat (first | apply Kd.R_alloc | apply Kd.R_drewN | apply Kd.R_drew)); exact HO_6.out) (Kd.R_base ho26) hb)
          have n1_ := Aside0.mk (Kd.R_lower (Kd.R_new' ho26 (Kd.R_lt (by (with_reducible repeat (first | apply Kd.R_alloc | apply Kd.R_drewN | apply Kd.R_drew)); exact HO_6.out))) (below_size (by repeat ((with_reducible exact HB.out)))))
          have n2_ := Aside0.mk (blk_below (g := gb276) (o := .cells #[.string ((rd_T141 l0 x29_2).f0), .string ((rd_T141 l0 x29_2).f1)] 141 (0, 0)) (by (with_reducible repeat (first | refine blk_drewN ?_ _ | refine blk_drew ?_ | refine blk_alloc ?_ _)); exact BK276.out) hb)
          have n3_ := Aside0.mk (below_step (by repeat ((with_reducible exact HB.out))) hb)
          clear HO_6
          clear BK276
          clear HB
          have HO_6 := n0_
          have HO281 := n1_
          have BK276 := n2_
          have HB := n3_
          clear n0_ n1_ n2_ n3_
          clear hb ho26
          obtain ⟨Ao28, co28, eo28⟩ := Kd.R_slice HO281.out
          (subst eo28)
          refine hK.out _ _ ⟨(blk_cell BK276.out 0).trans rfl, (blk_cell BK276.out 1).trans rfl⟩ (fun hHeld => ?_)
          clear hK K
          refine Bk.nm_ (some 40) _ (h := ?_)
          refine one_ (i := 8) (N := some 41) #[true, true, true, true, true, true, true, true, true, false] rfl rfl (one_of HT_.out (by kernel_rfl)) (by decide) (fun K hK => ?_)
          refine Kd.R_append_rows_step Kd.string (w0 := w) w.heap.size (by rfl) (.tmp 33) (.tmp 40) 117 9 (.string ⟨#[]⟩) 16 rfl Tryz.underlying117 info9 rfl (by decide) (by omega) u6 x6_2 y279 _ _ _ (fun k_ => some k_ ≠ (.slice Ao28 y279.length co28 : Value).ownBlock) (fun _ => False) rfl rfl ?aO ?aR (fun _ _ h => h) (fun _ h => h.elim) ?aF ?aB ?aS ?aL ?_
          (case aR => repeat (exact (Kd.R_reads' HO281.out).2.2))
          (case aB => exact (by repeat ((with_reducible exact HB.out))))
          (case aF => exact (fun k_ hk => Kd.fresh' (Kd.R_lt (by (with_reducible repeat (first | apply Kd.R_alloc | apply Kd.R_drewN | apply Kd.R_drew)); exact HO281.out)) k_ hk))
          (case aO => exact (by (with_reducible repeat (first | apply Kd.R_alloc | apply Kd.R_drewN | apply Kd.R_drew)); exact Kd.R_mono HO_6.out (fun _ hk => hk.2)))
          (case aS => exact (below_size (by repeat ((with_reducible exact HB.out)))))
          (case aL => have := LMc18.out; omega)
          intro v283 w27 ho hb hg hat
          rw [← Ny282.out] at ho
          have n0_ := Aside0.mk (blk_grown (g := gb276) (o := .cells #[.string ((rd_T141 l0 x29_2).f0), .string ((rd_T141 l0 x29_2).f1)] 141 (0, 0)) (by (with_reducible repeat (first | refine blk_drewN ?_ _ | refine blk_drew ?_ | refine blk_alloc ?_ _)); exact BK276.out) hg (Kd.R_ne HO_6.out BK276.out (by decide)))
          have n2_ := Aside0.mk (hb)
          have n3_ := Aside0.mk (ho)
          clear BK276
          clear HO281
          clear HB
          clear HO_6
          have BK276 := n0_
          have HB := n2_
          have HO284 := n3_
          clear n0_ n2_ n3_
          clear ho hb hg hat
          refine hK.out _ _ ⟨(blk_cell BK276.out 0).trans rfl, (blk_cell BK276.out 1).trans rfl⟩ (fun hHeld => ?_)
          clear hK K
          refine Bk.nm_ (some 41) _ (h := ?_)
          refine Bk.pu_ 9 (some 6) (h := ?_)
          refine done_ (done_of HT_.out (by kernel_rfl)) ?_
          try go_wp2
          go_roundg k2
          case measure => have := HJ2.out; have := HK2.out; omega
          case rel => exact ⟨(y282), (wrap64 (x29_2 + 1)), (by rfl), H', ⟨by have := HJ2.out; have := HK2.out; omega⟩, ⟨by (with_reducible repeat (first | apply Kd.R_alloc | apply Kd.R_drewN | apply Kd.R_drew)); exact Kd.R_mono HO284.out (fun _ hk => trivial)⟩, ⟨by repeat ((with_reducible exact HB.out))⟩⟩
         ·rw [if_neg c18] at H
          exact absurd H (by simp)
        ·rw [if_neg c15] at H
         exact absurd H (by simp)
       ·rw [if_neg c14] at H
        exact absurd H (by simp)
      ·rw [if_neg c13] at H
       have c13b0 : decide (x29_2 < (l0.length : Int)) = false := decide_eq_false c13
       clear c13
       replace H := Option.bind_eq_some_iff.mp H
       obtain ⟨⟨t285, t286⟩, A290, H⟩ := H
       replace H : (some t285) = some r := H
       have A29 := Aside0.mk A290
       clear A290
       obtain rfl := Option.some.inj H
       obtain ⟨Ao30, co30, eo30⟩ := Kd.R_slice HO_6.out
       subst eo30
       go_wp2_with (((with_reducible refine gate_callee (f := 163) rfl ?_); refine goesL_ (some 44) rfl rfl Tryz.func163 (by kernel_rfl) rfl #[.slice Ao30 x6_2.length co30] rfl (by (try simp only [List.map_toArray, List.map_cons, List.map_nil]); first | done | rfl) ?_; (with_reducible refine (impl_join.calls (fun k_ => some k_ = (.slice Ao30 x6_2.length co30 : Value).ownBlock) (.slice Ao30 x6_2.length co30) x6_2 t285 t286 w _ ?side1 ?side2 A29.out).mono ?_); (case side1 => repeat ((with_reducible exact HB.out))); (case side2 => exact Kd.R_tight rfl HO_6.out); rintro e w31 ⟨rfl, hy0, hb, hkp⟩; refine ⟨_, rfl, ?_⟩; have n1_ := Aside0.mk (hb); clear HO_6; clear HB; have HB := n1_; clear n1_; (try clear hb); (try clear hkp); (try clear hy0)))
       go_ret
       exact ⟨by rfl, by repeat ((with_reducible exact HB.out))⟩
end
end Go.Proofs.YtikbfjnbhogihaaGreatDoor.M
