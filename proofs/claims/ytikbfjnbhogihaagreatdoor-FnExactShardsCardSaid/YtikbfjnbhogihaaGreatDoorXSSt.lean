/- spec.StateOK: its walk by hand. -/
import Derived.Test.YtikbfjnbhogihaaGreatDoorKeyLaw
import Derived.BigCall
import Derived.BigGuard
import Derived.BigQuiet
import Derived.Deep.DeepCutAuto
import Derived.Deep.CutBlock
import Derived.Deep.RegionHeld3
import Derived.StillTailTactics
import Derived.StillTactics
namespace Go.Proofs.YtikbfjnbhogihaaGreatDoor.M
open Go.RowKit Go.Proofs.YtikbfjnbhogihaaGreatDoor.StOK Go.Proofs.YtikbfjnbhogihaaGreatDoorW.PrintWords Go.Proofs.YtikbfjnbhogihaaGreatDoorW.PrintLast Go.Proofs.YtikbfjnbhogihaaGreatDoorW.PrintMore
set_option linter.unusedVariables false
set_option linter.unusedSimpArgs false
namespace St
theorem cells2 {W : World} {g : Nat} {x y : Value} {t : TypeId} (h : W.heap[g]? = some (.cells #[x, y] t (0, 0))) : W.cell? ⟨g, 0, none⟩ = some x ∧ W.cell? ⟨g, 1, none⟩ = some y := ⟨(blk_cell h 0).trans rfl, (blk_cell h 1).trans rfl⟩
theorem cells4 {W : World} {g : Nat} {x y z u : Value} {t : TypeId} (h : W.heap[g]? = some (.cells #[x, y, z, u] t (0, 0))) : W.cell? ⟨g, 0, none⟩ = some x ∧ W.cell? ⟨g, 1, none⟩ = some y ∧ W.cell? ⟨g, 2, none⟩ = some z ∧ W.cell? ⟨g, 3, none⟩ = some u := ⟨(blk_cell h 0).trans rfl, (blk_cell h 1).trans rfl, (blk_cell h 2).trans rfl, (blk_cell h 3).trans rfl⟩
theorem cell6 {W : World} {g : Nat} {a b c d e f : Value} {t : TypeId} (h : W.heap[g]? = some (.cells #[a, b, c, d, e, f] t (0, 0))) : W.cell? ⟨g, 0, none⟩ = some a := (blk_cell h 0).trans rfl
theorem two (w : World) (o1 o2 : Obj) : Kp w ((w.alloc o1).alloc o2) [(w.heap.size + 1, o2), (w.heap.size, o1)] := by
 have := ((Kp.start w).new o1).new o2
 rwa [World.size_alloc] at this
abbrev cC (a b c d e f : Int) : Obj := .cells #[.int .i64 a, .int .i64 b, .int .i64 c, .int .i64 d, .int .i64 e, .int .i64 f] 29 (0, 0)
abbrev cS (now : Int) (A : Option Addr) (n c : Nat) : Obj := .cells #[.int .i64 now, .slice A n c] 33 (0, 0)
noncomputable def srP (win now : Int) (l : List Sr) (j : Nat) : Bool := srB win now (l.getD j z93) && riseAt (·.f0) z93 l j
noncomputable def mlP (l : List Ml) (j : Nat) : Bool := mlB (l.getD j z91) && riseAt (·.f0) z91 l j
noncomputable def tnP (a now : Int) (ts : List Tn) (j : Nat) : Bool := tnB a now (ts.getD j z87) && riseAt (·.f0) z87 ts j
theorem hideX {R G : World → Prop} {w : World} (h : R w) (k : ∀ w', R w' → G w') : G w := k w h
abbrev cT (x y z u : Value) : Obj := .cells #[x, y, z, u] 87 (0, 0)
theorem prev_z (j : Nat) (h : 0 < j) (hb : j ≤ 1048576) : wrap64 ((j : Int) - 1) = ((j - 1 : Nat) : Int) := (Go.Proofs.YtikbfjnbhogihaaGreatDoor.Loops.w_id _ (by omega) (by omega)).trans (by omega)
theorem idle_c (n : ByteArray) (x : Int) (A2 : Option Addr) (c2 : Nat) (m : List S91) (A3 : Option Addr) (c3 : Nat) (s : List S93) (W : World) (hm : Kd.C k91 W A2 m.length m) (h2 : m.length ≤ c2) (hs : Kd.C k93 W A3 s.length s) (h3 : s.length ≤ c3) :
  Calls Tryz.prog 50 #[.agg #[.string n, .int .i64 x, .slice A2 m.length c2, .slice A3 s.length c3]] W fun e w' => ∃ b, e = .returned (.bool (!b)) ∧ (!(idleB x m s)) = b ∧ Below W.heap.size W w' := by
 refine (spec_l4Idle.calls n x A2 c2 m A3 c3 s _ W hm h2 hs h3 (spec_idle n x m s)).mono ?_
 rintro e w' ⟨rfl, h⟩
 exact ⟨_, by rw [Bool.not_not], rfl, h⟩
theorem mlP_def (l : List Ml) (i : Nat) (m p : Ml) (hm : l.getD i z91 = m) (hp : l.getD (i - 1) z91 = p) : mlP l i = (metB m.f0 && (decide (0 ≤ m.f1 ∧ m.f1 ≤ 1000000) && (decide (i = 0) || Op.bytesLess p.f0.toList m.f0.toList))) := by
 unfold mlP mlB riseAt
 rw [hm, hp, Bool.and_assoc]
theorem dec (n i : Nat) (h : i < n) (hb : i < 1048576) : n - (intOf (.int .i64 (wrap64 ((i : Int) + 1)))).toNat < n - (intOf (.int .i64 (i : Int))).toNat := by
 rw [Go.Proofs.YtikbfjnbhogihaaGreatDoor.Loops.w_succ i (by omega)]
 show n - ((i + 1 : Nat) : Int).toNat < n - (i : Int).toNat
 omega
theorem sc (i : Nat) (h : i < 1048577) : wrap64 ((i : Int) + 1) = ((i + 1 : Nat) : Int) := Go.Proofs.YtikbfjnbhogihaaGreatDoor.Loops.w_succ i (by omega)
theorem cast {w W : World} {L L' : List (Nat × Obj)} (e : L = L') (h : Kp w W L) : Kp w W L' := e ▸ h
theorem srP_def (a now : Int) (l : List Sr) (i : Nat) (m p : Sr) (hm : l.getD i z93 = m) (hp : l.getD (i - 1) z93 = p) : srP a now l i = (keyB m.f0 && (decide (0 ≤ m.f1 ∧ m.f1 ≤ now) && (decide (now - m.f1 < a) && (decide (i = 0) || Op.bytesLess p.f0.toList m.f0.toList)))) := by
 unfold srP srB riseAt
 rw [hm, hp]
 generalize keyB m.f0 = b1
 generalize decide (0 ≤ m.f1 ∧ m.f1 ≤ now) = b2
 generalize decide (now - m.f1 < a) = b3
 generalize decide (i = 0) = b4
 generalize Op.bytesLess p.f0.toList m.f0.toList = b5
 revert b1 b2 b3 b4 b5
 decide
theorem win {x now : Int} (h1 : decide (0 ≤ x ∧ x ≤ now) = true) (h2 : decide (0 ≤ now ∧ now ≤ 1000000000000) = true) : IntKind.i64.wrap (now - x) = now - x := by
 have h1 := of_decide_eq_true h1
 have h2 := of_decide_eq_true h2
 exact (i64_w _).trans (Go.Proofs.YtikbfjnbhogihaaGreatDoor.Loops.w_id _ (by omega) (by omega))
theorem win2 {y a : Int} {b : Bool} (h : decide (y < a) = b) : decide (a ≤ y) = !b := by
 rw [← h, ← decide_not]
 exact decide_eq_decide.2 (by omega)
theorem all_step (P : Nat → Bool) (j n : Nat) (h : j < n) : allFrom P j (n - j) = (P j && allFrom P (j + 1) (n - (j + 1))) := by
 obtain ⟨m, hm⟩ : ∃ m, n - j = m + 1 := ⟨n - j - 1, by omega⟩
 rw [hm, show n - (j + 1) = m by omega]; rfl
theorem ml_all (l : List Ml) : allFrom (mlP l) 0 l.length = (l.all mlB && Rise.up (l.map (·.f0))) := by
 show allFrom (fun j => mlB (l.getD j z91) && riseAt (·.f0) z91 l j) 0 l.length = _
 rw [allFrom_and, allFrom_all mlB z91 l l.length 0 (by omega), rise_all, List.drop_zero]
theorem sr_all (a now : Int) (l : List Sr) : allFrom (srP a now l) 0 l.length = (l.all (srB a now) && Rise.up (l.map (·.f0))) := by
 show allFrom (fun j => srB a now (l.getD j z93) && riseAt (·.f0) z93 l j) 0 l.length = _
 rw [allFrom_and, allFrom_all (srB a now) z93 l l.length 0 (by omega), rise_all, List.drop_zero]
theorem st_all (a b c d e f now : Int) (ts : List Tn) : stB a b c d e f now ts = (St.cfgB a b c d e f && (decide (0 ≤ now ∧ now ≤ 1000000000000) && (decide (ts.length ≤ 10000) && allFrom (tnP a now ts) 0 ts.length))) := by
 have h : allFrom (tnP a now ts) 0 ts.length = (Rise.up (ts.map (·.f0)) && ts.all (tnB a now)) := by
  show allFrom (fun j => tnB a now (ts.getD j z87) && riseAt (·.f0) z87 ts j) 0 ts.length = _
  rw [allFrom_and, allFrom_all (tnB a now) z87 ts ts.length 0 (by omega), rise_all, List.drop_zero, Bool.and_comm]
 unfold stB
 rw [h]
theorem tn_step (a now : Int) (ts : List Tn) (j : Nat) (t : Tn) (hj : j < ts.length) (ht : ts.getD j z87 = t) : allFrom (tnP a now ts) j (ts.length - j) = (TenN.ok t.f0 && (decide (-1 ≤ t.f1 ∧ t.f1 ≤ 1000000) && (!(idleB t.f1 t.f2 t.f3) && (riseAt (·.f0) z87 ts j && (allFrom (mlP t.f2) 0 t.f2.length && (allFrom (srP a now t.f3) 0 t.f3.length && allFrom (tnP a now ts) (j + 1) (ts.length - (j + 1)))))))) := by
 rw [all_step (tnP a now ts) j ts.length hj, ml_all, sr_all]
 unfold tnP tnB
 rw [ht]
 generalize TenN.ok t.f0 = b1
 generalize decide (-1 ≤ t.f1 ∧ t.f1 ≤ 1000000) = b2
 generalize idleB t.f1 t.f2 t.f3 = b3
 generalize t.f2.all mlB = b4
 generalize t.f3.all (srB a now) = b5
 generalize Rise.up (t.f2.map (·.f0)) = b6
 generalize Rise.up (t.f3.map (·.f0)) = b7
 generalize riseAt (·.f0) z87 ts j = b8
 generalize allFrom _ (j + 1) _ = b9
 revert b1 b2 b3 b4 b5 b6 b7 b8 b9
 decide
end St
noncomputable def spec_StateOK.f (a b c d e f now : Int) (ts : List S87) : Option Bool := @ite _ (ts.length ≤ 1048576 ∧ ∀ t ∈ ts, Sm t) (Classical.propDecidable _) (some (stB a b c d e f now ts)) none
set_option maxHeartbeats 4000000 in
set_option maxRecDepth 100000 in
theorem spec_StateOK.calls (a b c d e f now : Int) (A : Option Addr) (cp : Nat) (ts : List S87) (r : Bool) (w : World) (hr : Kd.C k87 w A ts.length ts) (hc : ts.length ≤ cp) (h : spec_StateOK.f a b c d e f now ts = some r) :
  Calls Tryz.prog 13 #[.agg #[.int .i64 a, .int .i64 b, .int .i64 c, .int .i64 d, .int .i64 e, .int .i64 f], .agg #[.int .i64 now, .slice A ts.length cp]] w fun e w' => e = .returned (.bool r) ∧ Below w.heap.size w w' := by
 have hu29 := Tryz.underlying29
 have hu33 := Tryz.underlying33
 have hu87 := Tryz.underlying87
 have hu91 := Tryz.underlying91
 have hu93 := Tryz.underlying93
 unfold spec_StateOK.f at h
 by_cases hs : ts.length ≤ 1048576 ∧ ∀ t ∈ ts, Sm t
 case neg => rw [if_neg hs] at h; cases h
 rw [if_pos hs] at h
 have HV := Aside0.mk (show r = (St.cfgB a b c d e f && (decide (0 ≤ now ∧ now ≤ 1000000000000) && (decide (ts.length ≤ 10000) && allFrom (St.tnP a now ts) 0 ts.length))) by
  rw [← Option.some.inj h]; exact St.st_all a b c d e f now ts)
 have HS := Aside0.mk hs
 have HR := Aside0.mk hr
 have HC := Aside0.mk hc
 clear h hs hr hc
 obtain ⟨q, hq⟩ : ∃ q, decide ((10000 : Int) < (ts.length : Int)) = q := ⟨_, rfl⟩
 have hq2 := Aside0.mk (show decide (ts.length ≤ 10000) = !q by rw [← hq, ← decide_not]; exact decide_eq_decide.2 (by omega))
 go_enter Tryz.func13, Tryz.ntmps13
 go_wp2_with (first
  | (go_at_call 47; refine (spec_ConfigOK.calls a b c d e f _ _ rfl).mono ?_; rintro x w1 ⟨rfl, hB⟩; have K := Aside0.mk ((St.two w (St.cC a b c d e f) (St.cS now A ts.length cp)).step hB); obtain ⟨s0, s1⟩ := St.cells2 K.out.fst; clear hB; generalize hb : St.cfgB a b c d e f = bb; rcases St.and_split HV.out hb with ⟨rfl, h⟩ | ⟨rfl, h⟩ <;> (clear HV hb; have HV := Aside0.mk h; clear h))
  | (go_at_call 48; refine (St.sbetw_c _ _ _ _).mono ?_; rintro x w' ⟨bb, rfl, hb, ⟨nd, rfl⟩⟩; rcases St.and_split HV.out hb with ⟨rfl, h⟩ | ⟨rfl, h⟩ <;> (have hNow := Aside0.mk hb; clear HV hb; have HV := Aside0.mk h; clear h)))
 all_goals try (go_ret; exact ⟨by first | rw [HV.out]; rfl | (rw [HV.out, hq2.out]; simp [*]), by first | exact K.out.bel | exact (K.out.drewN _).bel⟩)
 case _ =>
 obtain rfl : q = false := by assumption
 have HV2 := Aside0.mk (show r = allFrom (St.tnP a now ts) 0 ts.length by rw [HV.out, hq2.out]; simp [*])
 have K2 := Aside0.mk (K.out.drewN nd)
 clear HV s0 s1 K
 go_loopw [29] (fun v wr => ∃ j : Nat, j ≤ ts.length ∧ v = .int .i64 j ∧ Aside0 (Kp w wr [(w.heap.size + 1, St.cS now A ts.length cp), (w.heap.size, St.cC a b c d e f)]) ∧ Aside0 (r = allFrom (St.tnP a now ts) j (ts.length - j))) (fun v wr => ts.length - (intOf v).toNat)
 case atStart => exact ⟨0, by omega, by simp, K2, HV2⟩
 case round =>
  rename World => wo
  obtain ⟨j, hj, rfl, K, HV⟩ := hrel
  clear K2 HV2
  obtain hj5 | hj6 : ts.length ≤ j ∨ j < ts.length := by omega
  ·obtain rfl : j = ts.length := by omega
   go_wp2
   go_ret
   exact ⟨by rw [HV.out, Nat.sub_self]; rfl, K.out.bel⟩
  ·have ht := HS.out.2 _ (getD_mem ts z87 j hj6)
   have hn := Aside0.mk HS.out.1
   obtain ⟨ad, A2, c2, A3, c3, rfl, x0, x1, x2, x3, l2, i2, l3, i3⟩ := at_T87 HR.out (j : Int) (by omega) (by omega)
   obtain ⟨t, et⟩ : ∃ t, rd_T87 ts (j : Int) = t := ⟨_, rfl⟩
   have et2 := Aside0.mk (show ts.getD j z87 = t from et)
   rw [et2.out] at ht
   rw [et] at x0 x1 x2 x3 l2 i2 l3 i3
   simp only [Int.toNat_natCast] at x0 x1 x2 x3
   have HT := Aside0.mk ht
   replace l2 := Aside0.mk l2
   replace l3 := Aside0.mk l3
   replace i2 := Aside0.mk i2
   replace i3 := Aside0.mk i3
   replace x0 := (K.out.bel.cell (World.block_lt_of_cell? w _ x0)).trans x0
   replace x1 := (K.out.bel.cell (World.block_lt_of_cell? w _ x1)).trans x1
   replace x2 := (K.out.bel.cell (World.block_lt_of_cell? w _ x2)).trans x2
   replace x3 := (K.out.bel.cell (World.block_lt_of_cell? w _ x3)).trans x3
   clear et ht
   have HV2 := Aside0.mk (show r = (TenN.ok t.f0 && (decide (-1 ≤ t.f1 ∧ t.f1 ≤ 1000000) && (!(idleB t.f1 t.f2 t.f3) && (riseAt (·.f0) z87 ts j && (allFrom (St.mlP t.f2) 0 t.f2.length && (allFrom (St.srP a now t.f3) 0 t.f3.length && allFrom (St.tnP a now ts) (j + 1) (ts.length - (j + 1)))))))) by
    rw [HV.out]; exact St.tn_step a now ts j t hj6 et2.out)
   clear HV
   have HV := HV2
   clear HV2
   go_wp2_with (first
    | (go_at_call 49; refine (ten_c _ _).mono ?_; rintro x w' ⟨bb, rfl, hb, ⟨nd, rfl⟩⟩; refine St.hideX (R := fun W => Kp w W ((wo.heap.size, St.cT (.string t.f0) (.int .i64 t.f1) (.slice A2 t.f2.length c2) (.slice A3 t.f3.length c3)) :: [(w.heap.size + 1, St.cS now (some ad) ts.length cp), (w.heap.size, St.cC a b c d e f)])) ((K.out.new _).drewN _) ?_; rintro w1 K1; clear K x0 x1 x2 x3; have K := Aside0.mk K1; clear K1; obtain ⟨t0, t1, t2, t3⟩ := St.cells4 K.out.fst; obtain ⟨s0, s1⟩ := St.cells2 K.out.tl.fst; rcases St.and_split HV.out hb with ⟨rfl, h⟩ | ⟨rfl, h⟩ <;> (clear HV hb; have HV := Aside0.mk h; clear h))
    | (go_at_call 48; refine (St.sbetw_c _ _ _ _).mono ?_; rintro x w' ⟨bb, rfl, hb, ⟨nd, rfl⟩⟩; rcases St.and_split HV.out hb with ⟨rfl, h⟩ | ⟨rfl, h⟩ <;> (clear HV hb; have HV := Aside0.mk h; clear h))
    | (go_at_call 50; refine (St.idle_c _ _ _ _ _ _ _ _ _ (Kd.C_below i2.out (K.out.drewN _).bel) l2.out (Kd.C_below i3.out (K.out.drewN _).bel) l3.out).mono ?_; rintro x w2 ⟨bb, rfl, hb, hB⟩; have K2 := Aside0.mk ((K.out.drewN _).step hB); clear K t0 t1 t2 t3 s0 s1 hB; have K := K2; clear K2; obtain ⟨t0, t1, t2, t3⟩ := St.cells4 K.out.fst; obtain ⟨s0, s1⟩ := St.cells2 K.out.tl.fst; rcases St.and_split HV.out hb with ⟨rfl, h⟩ | ⟨rfl, h⟩ <;> (simp only [Bool.not_true, Bool.not_false]; clear HV hb; have HV := Aside0.mk h; clear h)))
   all_goals try (go_ret; exact ⟨by rw [HV.out]; rfl, by first | exact K.out.bel | exact (K.out.drewN _).bel⟩)
   case _ =>
   obtain ⟨L, hL⟩ : ∃ L, L = ((wo.heap.size, St.cT (.string t.f0) (.int .i64 t.f1) (.slice A2 t.f2.length c2) (.slice A3 t.f3.length c3)) :: [(w.heap.size + 1, St.cS now (some ad) ts.length cp), (w.heap.size, St.cC a b c d e f)]) := ⟨_, rfl⟩
   rw [← hL] at K
   replace hL := Aside0.mk hL
   have hne : Nonempty (Kp.Cls w L) := ⟨⟨_, K.out⟩⟩
   clear t0 t1 t2 t3 s0 s1
   have t0 : ∀ n : Kp.Cls w L, n.at_.cell? ⟨wo.heap.size, 0, none⟩ = some (.string t.f0) := fun n => (St.cells4 (n.kp.has _ (by rw [hL.out]; exact List.mem_cons_self))).1
   have s1 : ∀ n : Kp.Cls w L, n.at_.cell? ⟨w.heap.size + 1, 1, none⟩ = some (.slice (some ad) ts.length cp) := fun n => (St.cells2 (n.kp.has _ (by rw [hL.out]; exact List.mem_cons_of_mem _ List.mem_cons_self))).2
   obtain ⟨ad', B2, d2, B3, d3, ea, y, _, _, _, _, _, _, _⟩ := at_T87 HR.out ((j - 1 : Nat) : Int) (by omega) (by omega)
   obtain rfl : ad = ad' := by injection ea
   simp only [Int.toNat_natCast] at y
   obtain ⟨p, hp⟩ : ∃ p, ts.getD (j - 1) z87 = p := ⟨_, rfl⟩
   rw [show rd_T87 ts ((j - 1 : Nat) : Int) = p from hp] at y
   have y0 : ∀ n : Kp.Cls w L, n.at_.cell? (ad.add ((j - 1) * 4)) = some (.string p.f0) := fun n => (n.kp.bel.cell (World.block_lt_of_cell? w _ y)).trans y
   obtain ⟨b3, hb3⟩ : ∃ b, Op.bytesLess p.f0.toList t.f0.toList = b := ⟨_, rfl⟩
   have hrs := Aside0.mk (show riseAt (·.f0) z87 ts j = (decide (j = 0) || b3) by unfold riseAt; rw [hp, et2.out, hb3])
   have m1 : (0 ≤ ((j - 1 : Nat) : Int)) = True := eq_true (by omega)
   have m2 : (((j - 1 : Nat) : Int) < (ts.length : Int)) = True := eq_true (by omega)
   clear hp y
   go_cut [61] (fun v wc => ∃ bb, v = .bool (!bb) ∧ Aside0 (riseAt (·.f0) z87 ts j = bb) ∧ Aside0 (Kp w wc L))
   case first =>
    refine Kp.region (by kernel_rfl) (by kernel_rfl) K.out ?_
    rcases Nat.eq_zero_or_pos j with h0 | h0
    all_goals
     first
      | (have hd1 : decide ((0 : Int) < (j : Int)) = false := decide_eq_false (by omega); have hd2 : decide (0 < j) = false := decide_eq_false (by omega))
      | (have hd1 : decide ((0 : Int) < (j : Int)) = true := decide_eq_true (by omega); have hd2 : decide (0 < j) = true := decide_eq_true (by omega))
     (try have hw := (i64_w _).trans (St.prev_z j h0 (by have := hn.out; omega)))
     replace h0 := Aside0.mk h0
     repeat (go_big_quiet_step (fail))
     refine wpQuiet_nil ?_
     rintro _ ⟨n, rfl⟩
     go_wp2
     go_meet
    ·case rel => exact ⟨true, rfl, ⟨by rw [hrs.out, decide_eq_true h0.out]; rfl⟩, ⟨n.kp⟩⟩
    ·case rel => exact ⟨b3, by first | rfl | rw [← hb3] | (simp only [hb3]), ⟨by rw [hrs.out, decide_eq_false (by have := h0.out; omega), Bool.false_or]⟩, ⟨n.kp⟩⟩
   case rest =>
    clear t0 s1 y0 K
    obtain ⟨bb, rfl, hb, K⟩ := hcut
    rcases St.and_split HV.out hb.out with ⟨rfl, h⟩ | ⟨rfl, h⟩ <;> (clear HV hb; have HV := Aside0.mk h; clear h)
    ·have K5 := K.out
     rw [hL.out] at K5
     obtain ⟨t0, t1, t2, t3⟩ := St.cells4 K5.fst
     go_wp2
     clear t0 t1 t2 t3 K5
     go_loopw [65] (fun v wr => ∃ i : Nat, i ≤ t.f2.length ∧ v = .int .i64 i ∧ Aside0 (Kp w wr L) ∧ Aside0 (r = (allFrom (St.mlP t.f2) i (t.f2.length - i) && (allFrom (St.srP a now t.f3) 0 t.f3.length && allFrom (St.tnP a now ts) (j + 1) (ts.length - (j + 1)))))) (fun v wr => t.f2.length - (intOf v).toNat)
     case atStart => exact ⟨0, by omega, by simp, K, HV⟩
     case round =>
      rename World => wq
      clear K HV
      obtain ⟨i, hi, rfl, K, HV⟩ := hrel
      obtain hi5 | hi6 : t.f2.length ≤ i ∨ i < t.f2.length := by omega
      ·obtain rfl : i = t.f2.length := by omega
       have K5 := K.out
       rw [hL.out] at K5
       obtain ⟨t0, t1, t2, t3⟩ := St.cells4 K5.fst
       go_wp2
       clear t0 t1 t2 t3 K5
       replace HV := Aside0.mk (HV.out.trans (by rw [Nat.sub_self]; rfl : _ = (allFrom (St.srP a now t.f3) 0 t.f3.length && allFrom (St.tnP a now ts) (j + 1) (ts.length - (j + 1)))))
       go_loopw [100] (fun v wr => ∃ i : Nat, i ≤ t.f3.length ∧ v = .int .i64 i ∧ Aside0 (Kp w wr L) ∧ Aside0 (r = (allFrom (St.srP a now t.f3) i (t.f3.length - i) && allFrom (St.tnP a now ts) (j + 1) (ts.length - (j + 1))))) (fun v wr => t.f3.length - (intOf v).toNat)
       case atStart => exact ⟨0, by omega, by simp, K, HV⟩
       case round =>
        rename World => wz
        clear K HV
        obtain ⟨i, hi, rfl, K, HV⟩ := hrel
        obtain hi5 | hi6 : t.f3.length ≤ i ∨ i < t.f3.length := by omega
        ·obtain rfl : i = t.f3.length := by omega
         go_wp2
         go_roundw
         case rel => have hn3 := hn.out; exact ⟨j + 1, by omega, by rw [St.sc j (by omega)], ⟨by have k := K.out; rw [hL.out] at k; exact k.tl⟩, ⟨by rw [HV.out, Nat.sub_self]; rfl⟩⟩
         case measure => exact St.dec _ j hj6 (Nat.lt_of_lt_of_le hj6 hn.out)
        ·obtain ⟨ad4, eA, x0, x1⟩ := at_T93 i3.out (i : Int) (by omega) (by omega)
         subst eA
         obtain ⟨ad5, eA, y, _⟩ := at_T93 i3.out ((i - 1 : Nat) : Int) (by omega) (by omega)
         obtain rfl : ad4 = ad5 := by injection eA
         have hz := HT.out.z3 _ (getD_mem t.f3 z93 i hi6)
         have hn2 := Aside0.mk HT.out.n3
         obtain ⟨m, em⟩ : ∃ m, rd_T93 t.f3 (i : Int) = m := ⟨_, rfl⟩
         have em2 := Aside0.mk (show t.f3.getD i z93 = m from em)
         rw [em2.out] at hz
         obtain ⟨p, ep⟩ : ∃ p, rd_T93 t.f3 ((i - 1 : Nat) : Int) = p := ⟨_, rfl⟩
         have ep2 := Aside0.mk (show t.f3.getD (i - 1) z93 = p from ep)
         rw [em] at x0 x1
         rw [ep] at y
         simp only [Int.toNat_natCast] at x0 x1 y
         replace x0 := (K.out.bel.cell (World.block_lt_of_cell? w _ x0)).trans x0
         replace x1 := (K.out.bel.cell (World.block_lt_of_cell? w _ x1)).trans x1
         replace y := Aside0.mk y
         clear em ep
         have HV2 := Aside0.mk (HV.out.trans ((congrArg (· && _) (St.all_step (St.srP a now t.f3) i t.f3.length hi6)).trans (Bool.and_assoc _ _ _)))
         clear HV
         go_wp2
         refine St.hideX (R := fun W => Kp w W ((wz.heap.size, .cells #[.string m.f0, .int .i64 m.f1] 93 (0, 0)) :: L)) (K.out.new _) ?_
         rintro w3 K3
         clear K x0 x1
         obtain ⟨L2, hL2⟩ : ∃ L2, L2 = ((wz.heap.size, Obj.cells #[.string m.f0, .int .i64 m.f1] 93 (0, 0)) :: L) := ⟨_, rfl⟩
         rw [← hL2] at K3
         have K := Aside0.mk K3
         replace hL2 := Aside0.mk hL2
         clear K3
         have hne2 : Nonempty (Kp.Cls w L2) := ⟨⟨_, K.out⟩⟩
         have m0 : ∀ n : Kp.Cls w L2, n.at_.cell? ⟨wz.heap.size, 0, none⟩ = some (.string m.f0) := fun n => (St.cells2 (n.kp.has _ (by rw [hL2.out]; exact List.mem_cons_self))).1
         have m1 : ∀ n : Kp.Cls w L2, n.at_.cell? ⟨wz.heap.size, 1, none⟩ = some (.int .i64 m.f1) := fun n => (St.cells2 (n.kp.has _ (by rw [hL2.out]; exact List.mem_cons_self))).2
         have tt : ∀ n : Kp.Cls w L2, n.at_.cell? ⟨wo.heap.size, 3, none⟩ = some (.slice (some ad4) t.f3.length c3) := fun n => (St.cells4 (n.kp.has _ (by rw [hL2.out, hL.out]; exact List.mem_cons_of_mem _ List.mem_cons_self))).2.2.2
         have y0 : ∀ n : Kp.Cls w L2, n.at_.cell? (ad4.add ((i - 1) * 2)) = some (.string p.f0) := fun n => (n.kp.bel.cell (World.block_lt_of_cell? w _ y.out)).trans y.out
         have s0 : ∀ n : Kp.Cls w L2, n.at_.cell? ⟨w.heap.size + 1, 0, none⟩ = some (.int .i64 now) := fun n => (St.cells2 (n.kp.has _ (by rw [hL2.out, hL.out]; exact List.mem_cons_of_mem _ (List.mem_cons_of_mem _ List.mem_cons_self)))).1
         have c0 : ∀ n : Kp.Cls w L2, n.at_.cell? ⟨w.heap.size, 0, none⟩ = some (.int .i64 a) := fun n => St.cell6 (n.kp.has _ (by rw [hL2.out, hL.out]; exact List.mem_cons_of_mem _ (List.mem_cons_of_mem _ (List.mem_cons_of_mem _ List.mem_cons_self))))
         obtain ⟨b3, hb3⟩ : ∃ b, Op.bytesLess p.f0.toList m.f0.toList = b := ⟨_, rfl⟩
         have hr0 : (0 ≤ ((i - 1 : Nat) : Int)) = True := eq_true (by omega)
         have hr1 : (((i - 1 : Nat) : Int) < (t.f3.length : Int)) = True := eq_true (by omega)
         obtain ⟨b1, hb1⟩ : ∃ b, keyB m.f0 = !b := ⟨!(keyB m.f0), (Bool.not_not _).symm⟩
         obtain ⟨b2, hb2⟩ : ∃ b, decide (0 ≤ m.f1 ∧ m.f1 ≤ now) = !b := ⟨!(decide (0 ≤ m.f1 ∧ m.f1 ≤ now)), (Bool.not_not _).symm⟩
         obtain ⟨b4, hb4⟩ : ∃ b, decide (now - m.f1 < a) = !b := ⟨!(decide (now - m.f1 < a)), (Bool.not_not _).symm⟩
         have hM : ∀ W, Calls Tryz.prog 52 #[.string m.f0] W fun e w' => e = .returned (.bool (!b1)) ∧ Below W.heap.size W w' := fun W => (key_c m.f0 hz W).mono (by rintro e w' ⟨b, rfl, h, hB⟩; exact ⟨by rw [← hb1, ← h], hB⟩)
         have hN : ∀ W, Calls Tryz.prog 48 #[.int .i64 m.f1, .int .i64 0, .int .i64 now] W fun e w' => e = .returned (.bool (!b2)) ∧ Below W.heap.size W w' := fun W => (St.sbetw_c m.f1 0 now W).mono (by rintro e w' ⟨b, rfl, h, hB⟩; exact ⟨by rw [← hb2, ← h], below_drawn0 hB⟩)
         have hP := St.srP_def a now t.f3 i m p em2.out ep2.out
         rw [hb1, hb2, hb4, hb3] at hP
         replace hP := Aside0.mk hP
         have hge := (St.win2 hb4).trans (Bool.not_not _)
         replace hb2 := Aside0.mk hb2
         clear hb1 hb4
         obtain ⟨b5, hb5⟩ : ∃ b, decide (0 < i) = b := ⟨_, rfl⟩
         have hd1 : decide ((0 : Int) < (i : Int)) = b5 := by rw [← hb5]; exact decide_eq_decide.2 (by omega)
         have hd2 := Aside0.mk hb5
         have hz5 := Aside0.mk (show decide (i = 0) = !b5 by rw [← hb5, ← decide_not]; exact decide_eq_decide.2 (by omega))
         go_cut [142] (fun v wc => ∃ bb, v = .bool (!bb) ∧ Aside0 ((St.srP a now t.f3) i = bb) ∧ Aside0 (Kp w wc L))
         case first =>
          as_aux_lemma =>
          refine Kp.region (by as_aux_lemma => kernel_rfl) (by as_aux_lemma => kernel_rfl) K.out ?_
          repeat (go_big_quiet_step (first | (go_at_call 52; exact Kp.call _ (hM _)) | (go_at_call 48; exact Kp.call _ (hN _))))
          cases b1 with
          | true =>
           repeat (go_big_quiet_step (first | (go_at_call 52; exact Kp.call _ (hM _)) | (go_at_call 48; exact Kp.call _ (hN _))))
           refine wpQuiet_nil ?_
           rintro _ ⟨n, rfl⟩
           have K4 := St.cast hL2.out n.kp
           go_wp2
           go_meet
           case rel => exact ⟨false, rfl, ⟨by rw [hP.out]; rfl⟩, ⟨K4.tl⟩⟩
          | false =>
           repeat (go_big_quiet_step (first | (go_at_call 52; exact Kp.call _ (hM _)) | (go_at_call 48; exact Kp.call _ (hN _))))
           cases b2 with
           | true =>
            repeat (go_big_quiet_step (first | (go_at_call 52; exact Kp.call _ (hM _)) | (go_at_call 48; exact Kp.call _ (hN _))))
            refine wpQuiet_nil ?_
            rintro _ ⟨n, rfl⟩
            have K4 := St.cast hL2.out n.kp
            go_wp2
            go_meet
            case rel => exact ⟨false, rfl, ⟨by rw [hP.out]; rfl⟩, ⟨K4.tl⟩⟩
           | false =>
            have hwr := St.win hb2.out hNow.out
            repeat (go_big_quiet_step (first | (go_at_call 52; exact Kp.call _ (hM _)) | (go_at_call 48; exact Kp.call _ (hN _))))
            cases b4 with
            | true =>
             repeat (go_big_quiet_step (first | (go_at_call 52; exact Kp.call _ (hM _)) | (go_at_call 48; exact Kp.call _ (hN _))))
             refine wpQuiet_nil ?_
             rintro _ ⟨n, rfl⟩
             have K4 := St.cast hL2.out n.kp
             go_wp2
             go_meet
             case rel => exact ⟨false, rfl, ⟨by rw [hP.out]; rfl⟩, ⟨K4.tl⟩⟩
            | false =>
             repeat (go_big_quiet_step (first | (go_at_call 52; exact Kp.call _ (hM _)) | (go_at_call 48; exact Kp.call _ (hN _))))
             cases b5 with
             | false =>
              repeat (go_big_quiet_step (first | (go_at_call 52; exact Kp.call _ (hM _)) | (go_at_call 48; exact Kp.call _ (hN _))))
              refine wpQuiet_nil ?_
              rintro _ ⟨n, rfl⟩
              have K4 := St.cast hL2.out n.kp
              go_wp2
              go_meet
              case rel => exact ⟨true, rfl, ⟨by rw [hP.out, hz5.out]; rfl⟩, ⟨K4.tl⟩⟩
             | true =>
              have hw := (i64_w _).trans (St.prev_z i (of_decide_eq_true hd2.out) (by have := hn2.out; omega))
              repeat (go_big_quiet_step (first | (go_at_call 52; exact Kp.call _ (hM _)) | (go_at_call 48; exact Kp.call _ (hN _))))
              refine wpQuiet_nil ?_
              rintro _ ⟨n, rfl⟩
              have K4 := St.cast hL2.out n.kp
              go_wp2
              go_meet
              case rel => exact ⟨b3, by first | rfl | rw [← hb3] | (simp only [hb3]), ⟨by rw [hP.out, hz5.out]; cases b3 <;> rfl⟩, ⟨K4.tl⟩⟩
         case rest =>
          clear K m0 m1 tt y0 s0 c0 hM hN hge hd1
          obtain ⟨bb, rfl, hb, K⟩ := hcut
          rcases St.and_split HV2.out hb.out with ⟨rfl, h⟩ | ⟨rfl, h⟩
          ·have HV := Aside0.mk h
           go_wp2
           go_roundw
           case rel => have hn3 := hn2.out; exact ⟨i + 1, by omega, by rw [St.sc i (by omega)], K, HV⟩
           case measure => exact St.dec _ i hi6 (Nat.lt_of_lt_of_le hi6 hn2.out)
          ·go_wp2
           go_ret
           exact ⟨by rw [h]; rfl, K.out.bel⟩
      ·obtain ⟨ad2, eA, x0, x1⟩ := at_T91 i2.out (i : Int) (by omega) (by omega)
       subst eA
       obtain ⟨ad3, eA, y, _⟩ := at_T91 i2.out ((i - 1 : Nat) : Int) (by omega) (by omega)
       obtain rfl : ad2 = ad3 := by injection eA
       have hz := HT.out.z2 _ (getD_mem t.f2 z91 i hi6)
       have hn2 := Aside0.mk HT.out.n2
       obtain ⟨m, em⟩ : ∃ m, rd_T91 t.f2 (i : Int) = m := ⟨_, rfl⟩
       have em2 := Aside0.mk (show t.f2.getD i z91 = m from em)
       rw [em2.out] at hz
       obtain ⟨p, ep⟩ : ∃ p, rd_T91 t.f2 ((i - 1 : Nat) : Int) = p := ⟨_, rfl⟩
       have ep2 := Aside0.mk (show t.f2.getD (i - 1) z91 = p from ep)
       rw [em] at x0 x1
       rw [ep] at y
       simp only [Int.toNat_natCast] at x0 x1 y
       replace x0 := (K.out.bel.cell (World.block_lt_of_cell? w _ x0)).trans x0
       replace x1 := (K.out.bel.cell (World.block_lt_of_cell? w _ x1)).trans x1
       replace y := Aside0.mk y
       clear em ep
       have HV2 := Aside0.mk (HV.out.trans ((congrArg (· && _) (St.all_step (St.mlP t.f2) i t.f2.length hi6)).trans (Bool.and_assoc _ _ _)))
       clear HV
       go_wp2
       refine St.hideX (R := fun W => Kp w W ((wq.heap.size, .cells #[.string m.f0, .int .i64 m.f1] 91 (0, 0)) :: L)) (K.out.new _) ?_
       rintro w3 K3
       clear K x0 x1
       obtain ⟨L2, hL2⟩ : ∃ L2, L2 = ((wq.heap.size, Obj.cells #[.string m.f0, .int .i64 m.f1] 91 (0, 0)) :: L) := ⟨_, rfl⟩
       rw [← hL2] at K3
       have K := Aside0.mk K3
       replace hL2 := Aside0.mk hL2
       clear K3
       have hne2 : Nonempty (Kp.Cls w L2) := ⟨⟨_, K.out⟩⟩
       have m0 : ∀ n : Kp.Cls w L2, n.at_.cell? ⟨wq.heap.size, 0, none⟩ = some (.string m.f0) := fun n => (St.cells2 (n.kp.has _ (by rw [hL2.out]; exact List.mem_cons_self))).1
       have m1 : ∀ n : Kp.Cls w L2, n.at_.cell? ⟨wq.heap.size, 1, none⟩ = some (.int .i64 m.f1) := fun n => (St.cells2 (n.kp.has _ (by rw [hL2.out]; exact List.mem_cons_self))).2
       have tt : ∀ n : Kp.Cls w L2, n.at_.cell? ⟨wo.heap.size, 2, none⟩ = some (.slice (some ad2) t.f2.length c2) := fun n => (St.cells4 (n.kp.has _ (by rw [hL2.out, hL.out]; exact List.mem_cons_of_mem _ List.mem_cons_self))).2.2.1
       have y0 : ∀ n : Kp.Cls w L2, n.at_.cell? (ad2.add ((i - 1) * 2)) = some (.string p.f0) := fun n => (n.kp.bel.cell (World.block_lt_of_cell? w _ y.out)).trans y.out
       have hx9 := Aside0.mk hi6
       obtain ⟨b3, hb3⟩ : ∃ b, Op.bytesLess p.f0.toList m.f0.toList = b := ⟨_, rfl⟩
       have hr0 : (0 ≤ ((i - 1 : Nat) : Int)) = True := eq_true (by omega)
       have hr1 : (((i - 1 : Nat) : Int) < (t.f2.length : Int)) = True := eq_true (by omega)
       obtain ⟨b1, hb1⟩ : ∃ b, metB m.f0 = !b := ⟨!(metB m.f0), (Bool.not_not _).symm⟩
       obtain ⟨b2, hb2⟩ : ∃ b, decide (0 ≤ m.f1 ∧ m.f1 ≤ 1000000) = !b := ⟨!(decide (0 ≤ m.f1 ∧ m.f1 ≤ 1000000)), (Bool.not_not _).symm⟩
       have hM : ∀ W, Calls Tryz.prog 51 #[.string m.f0] W fun e w' => e = .returned (.bool (!b1)) ∧ Below W.heap.size W w' := fun W => (met_c m.f0 hz W).mono (by rintro e w' ⟨b, rfl, h, hB⟩; exact ⟨by rw [← hb1, ← h], hB⟩)
       have hN : ∀ W, Calls Tryz.prog 48 #[.int .i64 m.f1, .int .i64 0, .int .i64 1000000] W fun e w' => e = .returned (.bool (!b2)) ∧ Below W.heap.size W w' := fun W => (St.sbetw_c m.f1 0 1000000 W).mono (by rintro e w' ⟨b, rfl, h, hB⟩; exact ⟨by rw [← hb2, ← h], below_drawn0 hB⟩)
       have hP := St.mlP_def t.f2 i m p em2.out ep2.out
       rw [hb1, hb2, hb3] at hP
       replace hP := Aside0.mk hP
       clear hb1 hb2
       obtain ⟨b5, hb5⟩ : ∃ b, decide (0 < i) = b := ⟨_, rfl⟩
       have hd1 : decide ((0 : Int) < (i : Int)) = b5 := by rw [← hb5]; exact decide_eq_decide.2 (by omega)
       have hd2 := Aside0.mk hb5
       have hz5 := Aside0.mk (show decide (i = 0) = !b5 by rw [← hb5, ← decide_not]; exact decide_eq_decide.2 (by omega))
       go_cut [95] (fun v wc => ∃ bb, v = .bool (!bb) ∧ Aside0 ((St.mlP t.f2) i = bb) ∧ Aside0 (Kp w wc L))
       case first =>
        as_aux_lemma =>
        refine Kp.region (by as_aux_lemma => kernel_rfl) (by as_aux_lemma => kernel_rfl) K.out ?_
        repeat (go_big_quiet_step (first | (go_at_call 51; exact Kp.call _ (hM _)) | (go_at_call 48; exact Kp.call _ (hN _))))
        cases b1 with
        | true =>
         repeat (go_big_quiet_step (first | (go_at_call 51; exact Kp.call _ (hM _)) | (go_at_call 48; exact Kp.call _ (hN _))))
         refine wpQuiet_nil ?_
         rintro _ ⟨n, rfl⟩
         have K4 := St.cast hL2.out n.kp
         go_wp2
         go_meet
         case rel => exact ⟨false, rfl, ⟨by rw [hP.out]; rfl⟩, ⟨K4.tl⟩⟩
        | false =>
         repeat (go_big_quiet_step (first | (go_at_call 51; exact Kp.call _ (hM _)) | (go_at_call 48; exact Kp.call _ (hN _))))
         cases b2 with
         | true =>
          repeat (go_big_quiet_step (first | (go_at_call 51; exact Kp.call _ (hM _)) | (go_at_call 48; exact Kp.call _ (hN _))))
          refine wpQuiet_nil ?_
          rintro _ ⟨n, rfl⟩
          have K4 := St.cast hL2.out n.kp
          go_wp2
          go_meet
          case rel => exact ⟨false, rfl, ⟨by rw [hP.out]; rfl⟩, ⟨K4.tl⟩⟩
         | false =>
          repeat (go_big_quiet_step (first | (go_at_call 51; exact Kp.call _ (hM _)) | (go_at_call 48; exact Kp.call _ (hN _))))
          cases b5 with
          | false =>
           repeat (go_big_quiet_step (first | (go_at_call 51; exact Kp.call _ (hM _)) | (go_at_call 48; exact Kp.call _ (hN _))))
           refine wpQuiet_nil ?_
           rintro _ ⟨n, rfl⟩
           have K4 := St.cast hL2.out n.kp
           go_wp2
           go_meet
           case rel => exact ⟨true, rfl, ⟨by rw [hP.out, hz5.out]; rfl⟩, ⟨K4.tl⟩⟩
          | true =>
           have hw := (i64_w _).trans (St.prev_z i (of_decide_eq_true hd2.out) (by have := hn2.out; omega))
           repeat (go_big_quiet_step (first | (go_at_call 51; exact Kp.call _ (hM _)) | (go_at_call 48; exact Kp.call _ (hN _))))
           refine wpQuiet_nil ?_
           rintro _ ⟨n, rfl⟩
           have K4 := St.cast hL2.out n.kp
           go_wp2
           go_meet
           case rel => exact ⟨b3, by first | rfl | rw [← hb3] | (simp only [hb3]), ⟨by rw [hP.out, hz5.out]; cases b3 <;> rfl⟩, ⟨K4.tl⟩⟩
       case rest =>
        clear K m0 m1 tt y0 hM hN hd1
        obtain ⟨bb, rfl, hb, K⟩ := hcut
        rcases St.and_split HV2.out hb.out with ⟨rfl, h⟩ | ⟨rfl, h⟩
        ·have HV := Aside0.mk h
         go_wp2
         go_roundw
         case rel => have hn3 := hn2.out; exact ⟨i + 1, by omega, by rw [St.sc i (by omega)], K, HV⟩
         case measure => exact St.dec _ i hi6 (Nat.lt_of_lt_of_le hi6 hn2.out)
        ·go_wp2
         go_ret
         exact ⟨by rw [h]; rfl, K.out.bel⟩
    ·go_wp2
     go_ret
     exact ⟨by rw [HV.out]; rfl, K.out.bel⟩
end Go.Proofs.YtikbfjnbhogihaaGreatDoor.M
