import Derived.Test.YtikbfjnbhogihaaGreatDoorOpn
import Derived.Test.YtikbfjnbhogihaaGreatDoorM0
/- (*book).limits and impl.CountOf: walked. -/
namespace Go.Proofs.YtikbfjnbhogihaaGreatDoor.Bk
open Go.RowKit Go.Proofs.YtikbfjnbhogihaaGreatDoor.M Go.Proofs.YtikbfjnbhogihaaGreatDoor.Loops Go.Proofs.YtikbfjnbhogihaaGreatDoor.StOK Go.Proofs.YtikbfjnbhogihaaGreatDoorW.PrintWords Go.Proofs.YtikbfjnbhogihaaGreatDoorW.PrintLast Go.Proofs.YtikbfjnbhogihaaGreatDoorW.PrintMore
set_option linter.unusedVariables false
set_option linter.unusedSimpArgs false
def allL (b n : Int) : Int := if 0 ≤ n then n else b
def oneL (c : Int) (m : List Ml) (s : ByteArray) : Int := ((gget (fun y : Ml => y.f0) s m).map (·.f1)).getD c
theorem cb2 {W : World} {g : Nat} {x1 x2 x3 x4 x5 x6 x7 x8 : Value} {t : TypeId} (h : W.heap[g]? = some (.cells #[x1, x2, x3, x4, x5, x6, x7, x8] t (0, 0))) : W.cell? ⟨g, 1, none⟩ = some x2 ∧ W.cell? ⟨g, 2, none⟩ = some x3 := ⟨(blk_cell h 1).trans rfl, (blk_cell h 2).trans rfl⟩
set_option maxHeartbeats 4000000 in
set_option maxRecDepth 100000 in
theorem limits_none (w : World) (a b c d e f now : Int) (tb g : Nat) (hb : w.heap[g]? = some (cB a b c d e f now tb)) (s : ByteArray) :
  Calls Tryz.prog 65 #[ptr g, .pointer none, .string s] w fun x w' => x = .returned (.tuple #[.int .i64 b, .int .i64 c]) ∧ Below w.heap.size w w' := by
 have H1 : Aside0 (w.drew.cell? ⟨g, 1, none⟩ = some (.int .i64 b) ∧ w.drew.cell? ⟨g, 2, none⟩ = some (.int .i64 c)) := ⟨cb2 hb⟩
 have HB : Aside0 (Below w.heap.size w w.drew) := ⟨below_drew (Below.refl _ _)⟩
 have hu1 := Tryz.underlying106
 have hu2 := Tryz.underlying29
 clear hb
 go_enter Tryz.func65, Tryz.ntmps65
 go_wp2
 refine start_ (n := 12) (S := fun w' => w'.cell? ⟨g, 1, none⟩ = some (.int .i64 b) ∧ w'.cell? ⟨g, 2, none⟩ = some (.int .i64 c)) (ds := []) #[false, false, false, false, false, false, false, false, false, false, false, false] (by kernel_rfl) rfl rfl H1.out (fun hHeld => ?_)
 generalize w.drew = w2 at HB hHeld ⊢
 refine pu_ 0 (some 12) (h := ?_)
 refine pu_ 1 (some 13) (h := ?_)
 refine pu_ 2 (some 14) (h := ?_)
 refine pu_ 3 (some 15) (h := ?_)
 refine tk_ 4 (some 16) (hy := by rintro w' ⟨s0, s1⟩; go_simp; with_reducible rfl) (hS := hHeld) (h := ?_)
 refine pu_ 5 (some 17) (h := ?_)
 refine pu_ 6 (some 18) (h := ?_)
 refine pu_ 7 (some 19) (h := ?_)
 refine pu_ 8 (some 20) (h := ?_)
 refine tk_ 9 (some 21) (hy := by rintro w' ⟨s0, s1⟩; go_simp; with_reducible rfl) (hS := hHeld) (h := ?_)
 refine pu_ 10 (some 8) (h := ?_)
 refine pu_ 11 (some 9) (h := ?_)
 refine done_ (by kernel_rfl) ?_
 go_wp2
 go_ret2
 exact ⟨rfl, HB.out⟩
set_option maxHeartbeats 4000000 in
set_option maxRecDepth 100000 in
theorem limits_some (w : World) (a b c d e f now : Int) (tb g : Nat) (hb : w.heap[g]? = some (cB a b c d e f now tb)) (s : ByteArray) (hs : s.size ≤ maxLen) (base p : Nat) (A : Ac) (hA : At w base p A) :
  Calls Tryz.prog 65 #[ptr g, ptr p, .string s] w fun x w' => x = .returned (.tuple #[.int .i64 (allL b A.lim), .int .i64 (oneL c A.met s)]) ∧ Below w.heap.size w w' := by
 have H1 : Aside0 (w.drew.cell? ⟨g, 1, none⟩ = some (.int .i64 b) ∧ w.drew.cell? ⟨g, 2, none⟩ = some (.int .i64 c)) := ⟨cb2 hb⟩
 have HB : Aside0 (Below w.heap.size w w.drew) := ⟨below_drew (Below.refl _ _)⟩
 have hu1 := Tryz.underlying106
 have hu2 := Tryz.underlying29
 have hu3 := Tryz.underlying116
 have HA : Aside0 (At w.drew base p A) := ⟨hA.below (below_drew (Below.refl _ _))⟩
 have hlk := HA.out.mm.look Tryz.underlying9 Tryz.underlying109 (zint _) s hs true
 rw [if_pos rfl, show Mp.get (A.met.map fM) s = (gget (fun y : Ml => y.f0) s A.met).map (fun y => .int .i64 y.f1) from get_map fM s A.met] at hlk
 clear hb hA
 go_enter Tryz.func65, Tryz.ntmps65
 go_wp2
 refine start_ (n := 12) (S := fun w' => w'.cell? ⟨g, 1, none⟩ = some (.int .i64 b) ∧ w'.cell? ⟨g, 2, none⟩ = some (.int .i64 c)) (ds := []) #[false, false, false, false, false, false, false, false, false, false, false, false] (by kernel_rfl) rfl rfl H1.out (fun hHeld => ?_)
 generalize w.drew = w2 at HB HA hlk hHeld ⊢
 refine pu_ 0 (some 12) (h := ?_)
 refine pu_ 1 (some 13) (h := ?_)
 refine pu_ 2 (some 14) (h := ?_)
 refine pu_ 3 (some 15) (h := ?_)
 refine tk_ 4 (some 16) (hy := by rintro w' ⟨s0, s1⟩; go_simp; with_reducible rfl) (hS := hHeld) (h := ?_)
 refine pu_ 5 (some 17) (h := ?_)
 refine pu_ 6 (some 18) (h := ?_)
 refine pu_ 7 (some 19) (h := ?_)
 refine pu_ 8 (some 20) (h := ?_)
 refine tk_ 9 (some 21) (hy := by rintro w' ⟨s0, s1⟩; go_simp; with_reducible rfl) (hS := hHeld) (h := ?_)
 refine pu_ 10 (some 8) (h := ?_)
 refine pu_ 11 (some 9) (h := ?_)
 refine done_ (by kernel_rfl) ?_
 obtain ⟨p0, p1, _, _, _, _⟩ := c6 HA.out.blk
 cases hg : gget (fun y : Ml => y.f0) s A.met with
 | none =>
  rw [hg] at hlk
  replace hlk : (Instr.lookup 109 (.map (some A.mb)) (.string s) true).run Tryz.prog w2 = .ok (.tuple #[.int .i64 0, .bool false]) w2 := hlk
  replace hg := Aside0.mk hg
  rcases Int.lt_or_le A.lim 0 with h0 | h0
  ·have hd : decide (0 ≤ A.lim) = false := decide_eq_false (by omega)
   go_wp2
   go_ret2
   exact ⟨by unfold allL oneL; rw [if_neg (by omega), hg.out]; rfl, HB.out⟩
  ·have hd : decide (0 ≤ A.lim) = true := decide_eq_true h0
   go_wp2
   go_ret2
   exact ⟨by unfold allL oneL; rw [if_pos h0, hg.out]; rfl, HB.out⟩
 | some m =>
  rw [hg] at hlk
  replace hlk : (Instr.lookup 109 (.map (some A.mb)) (.string s) true).run Tryz.prog w2 = .ok (.tuple #[.int .i64 m.f1, .bool true]) w2 := hlk
  replace hg := Aside0.mk hg
  rcases Int.lt_or_le A.lim 0 with h0 | h0
  ·have hd : decide (0 ≤ A.lim) = false := decide_eq_false (by omega)
   go_wp2
   go_ret2
   exact ⟨by unfold allL oneL; rw [if_neg (by omega), hg.out]; rfl, HB.out⟩
  ·have hd : decide (0 ≤ A.lim) = true := decide_eq_true h0
   go_wp2
   go_ret2
   exact ⟨by unfold allL oneL; rw [if_pos h0, hg.out]; rfl, HB.out⟩
noncomputable def nOfT (l : List Sr) (m : ByteArray) : Nat := (l.filter fun x => decide (StOK.metS x.f0 = m)).length
theorem nOf_map (l : List Sx) (m : ByteArray) : nOfT (l.map fS) m = nOf l m := by
 unfold nOfT nOf
 rw [List.filter_map, List.length_map]
 rfl
noncomputable def cntT (b c : Int) (o : Option Tn) (s : ByteArray) : Int × Int :=
 match o with
 | none => if s.toList = [] then (0, b) else (0, c)
 | some t => if s.toList = [] then ((t.f3.length : Int), allL b t.f1) else ((nOfT t.f3 s : Int), oneL c t.f2 s)
noncomputable def cntP (b c : Int) (ok : Bool) (ts : List Tn) (n s : ByteArray) : Int × Int :=
 if (ok && (TenN.ok n && (decide (s.toList = []) || metB s))) = true then cntT b c (gget (fun t : Tn => t.f0) n ts) s else (-1, -1)
theorem gget_tn (l : List Tb) (n : ByteArray) : gget (fun t : Tn => t.f0) n (l.map Tb.tn) = (gget (fun x : Tb => x.name) n l).map Tb.tn := by
 unfold gget
 rw [List.find?_map]
 rfl
theorem zacc (w : World) : (zeroValue 103).run Tryz.prog w = .ok (.pointer none) w := by kernel_rfl
set_option maxHeartbeats 8000000 in
set_option maxRecDepth 100000 in
theorem cnt_c (w : World) (a b c d e f now : Int) (A : Option Addr) (cp : Nat) (ts : List Tn) (n s : ByteArray) (hr : Kd.C k87 w A ts.length ts) (hc : ts.length ≤ cp) (hT : Tabs w) (hS : ts.length ≤ 1048576 ∧ ∀ t ∈ ts, Sm t) (hn : n.size ≤ 1048576) (hs : s.size ≤ 1048576) :
  Calls Tryz.prog 19 #[.agg #[.int .i64 a, .int .i64 b, .int .i64 c, .int .i64 d, .int .i64 e, .int .i64 f], .agg #[.int .i64 now, .slice A ts.length cp], .string n, .string s] w fun x w' => x = .returned (.tuple #[.int .i64 (cntP b c (stB a b c d e f now ts) ts n s).1, .int .i64 (cntP b c (stB a b c d e f now ts) ts n s).2]) ∧ Below w.heap.size w w' := by
 have hu1 := Tryz.underlying116
 have hu5 := Tryz.underlying106
 have hu6 := Tryz.underlying29
 have hu7 := Tryz.underlying33
 obtain ⟨R, hR⟩ : ∃ R, R = cntP b c (stB a b c d e f now ts) ts n s := ⟨_, rfl⟩
 rw [← hR]
 obtain ⟨s1, h1⟩ : ∃ q, stB a b c d e f now ts = q := ⟨_, rfl⟩
 obtain ⟨s2, h2⟩ : ∃ q, TenN.ok n = q := ⟨_, rfl⟩
 obtain ⟨s3, h3⟩ : ∃ q, decide (s.toList = []) = q := ⟨_, rfl⟩
 obtain ⟨s4, h4⟩ : ∃ q, metB s = q := ⟨_, rfl⟩
 have e3 : (s.toList == ([] : List UInt8)) = s3 := by rw [← h3]; exact Bool.eq_iff_iff.2 (by simp)
 have HP : Aside0 (R = if (s1 && (s2 && (s3 || s4))) = true then cntT b c (gget (fun t : Tn => t.f0) n ts) s else (-1, -1)) := ⟨by rw [hR]; unfold cntP; rw [h1, h2, h3, h4]⟩
 have hst : impl_StateOK.f a b c d e f now ts = some s1 := by rw [← h1]; exact if_pos hS
 have H3 := Aside0.mk h3
 have HH := Aside0.mk (And.intro hst (And.intro h1 (And.intro h2 h4)))
 have HR := Aside0.mk (And.intro hr hc)
 have HT := Aside0.mk hT
 have HS := Aside0.mk hS
 have HN := Aside0.mk (And.intro hn hs)
 obtain ⟨L, hL⟩ : ∃ L, L = [(w.heap.size + 1, cS now A ts.length cp), (w.heap.size, cC a b c d e f)] := ⟨_, rfl⟩
 have K0 : Aside0 (Kp w ((w.alloc (cC a b c d e f)).alloc (cS now A ts.length cp)) L) := ⟨hL ▸ St.two w (cC a b c d e f) (cS now A ts.length cp)⟩
 have hm0 : (w.heap.size + 1, cS now A ts.length cp) ∈ L ∧ (w.heap.size, cC a b c d e f) ∈ L := by rw [hL]; simp
 replace hm0 := Aside0.mk hm0
 clear hr hc hT hS hn hs h1 h2 h3 h4 hst hR hL
 go_enter Tryz.func19, Tryz.ntmps19
 cases s1
 case' true => cases s2
 case' true.true => cases s3
 case' true.true.false => cases s4
 all_goals
  go_wp2_with (first
   | (go_at_call 16; refine (impl_StateOK.calls a b c d e f now A cp ts _ _ (Kd.C_below HR.out.1 K0.out.bel) HR.out.2 HH.out.1 (HT.out.below K0.out.bel)).mono ?_; rintro x w1 ⟨rfl, hB⟩; have K := Aside0.mk (K0.out.step hB); clear K0 hB)
   | (go_at_call 62; refine (impl_isTenant.calls n _ _ (congrArg some HH.out.2.2.1)).mono ?_; rintro x w2 ⟨rfl, hB⟩; have K2 := Aside0.mk (K.out.step hB); clear K hB; have K := K2; clear K2; have zc := c6 (K.out.has _ hm0.out.2); obtain ⟨z0, z1, z2, z3, z4, z5⟩ := zc; have zs := c2 (K.out.has _ hm0.out.1); obtain ⟨y0, y1⟩ := zs)
   | (go_at_call 63; refine (St.imet_c s HN.out.2 _ (HT.out.below K.out.bel)).mono ?_; rintro x w3 ⟨bb, rfl, hb, hB⟩; obtain rfl := hb.symm.trans HH.out.2.2.2; have K2 := Aside0.mk (K.out.step hB); clear K hB hb z0 z1 z2 z3 z4 z5 y0 y1; have K := K2; clear K2; have zc := c6 (K.out.has _ hm0.out.2); obtain ⟨z0, z1, z2, z3, z4, z5⟩ := zc; have zs := c2 (K.out.has _ hm0.out.1); obtain ⟨y0, y1⟩ := zs)
   | (go_at_call 64; refine (open_c _ a b c d e f now A cp ts (Kd.C_below HR.out.1 K.out.bel) HR.out.2 (HT.out.below K.out.bel) (good_of HH.out.2.1 HS.out)).mono ?_; rintro x w4 ⟨rfl, l, hbk, hB, hl, hi, hbl⟩; have y7 := (c8 hbk).2; have hlk := hB.mp.look Tryz.underlying9 Tryz.underlying104 (zacc w4) n (Nat.le_trans HN.out.1 (by decide)) false; rw [if_neg (by decide), show Mp.get (tens l) n = (gget (fun x : Tb => x.name) n l).map (fun x => ptr x.a) from get_map fT n l] at hlk; have hgt := gget_tn l n; rw [hl] at hgt; have HBk := Aside0.mk hbk; have HB := Aside0.mk hB; have HI := Aside0.mk hi; have HBl := Aside0.mk (below_step K.out.bel hbl); clear hbk hB hl hi hbl z0 z1 z2 z3 z4 z5 y0 y1; rcases hx : gget (fun x : Tb => x.name) n l with _ | xx <;> (rw [hx] at hlk hgt; replace hlk := hlk; simp only [Option.map_none, Option.map_some, Option.getD_none, Option.getD_some] at hlk; replace hx := Aside0.mk hx; replace hgt := Aside0.mk hgt)))
 all_goals try (go_ret2; exact ⟨by rw [HP.out]; rfl, K.out.bel⟩)
 any_goals ((with_reducible refine (limits_none _ a b c d e f now _ _ HBk.out s).mono ?_); rintro x w5 ⟨rfl, hB5⟩; have HNo := Aside0.mk True.intro; have HB5 := Aside0.mk (below_step HBl.out hB5); clear hB5)
 any_goals (have HA := HB.out.at_ _ (gget_some hx.out).1; (with_reducible refine (limits_some _ a b c d e f now _ _ HBk.out s (Nat.le_trans HN.out.2 (by decide)) _ _ _ HA).mono ?_); rintro x w5 ⟨rfl, hB5⟩; have HYes := Aside0.mk True.intro; have HB5 := Aside0.mk (below_step HBl.out hB5); have HA5 := HA.below hB5; obtain ⟨_, _, a2, a3, _, _⟩ := c6 HA5.blk; have hl5 := HA5.ms.len Tryz.underlying110 3; have hc5 := HA5.mc.look Tryz.underlying9 Tryz.underlying109 (zint w5) s (Nat.le_trans HN.out.2 (by decide)) false; rw [if_neg (by decide), (HI.out _ (gget_some hx.out).1).cnt s] at hc5; rw [sers, List.length_map] at hl5; clear hB5 HA HA5)
 all_goals
  go_wp2_with (first
   | (go_at_call 66; refine (new_c w5).mono ?_; rintro x w6 ⟨rfl, HA6, hB6⟩; have HB6 := Aside0.mk (below_step HB5.out hB6); obtain ⟨_, _, a2, a3, _, _⟩ := c6 HA6.blk; have hl5 := HA6.ms.len Tryz.underlying110 3; have hc5 := HA6.mc.look Tryz.underlying9 Tryz.underlying109 (zint w6) s (Nat.le_trans HN.out.2 (by decide)) false; rw [if_neg (by decide)] at hc5; replace a2 : w6.cell? ⟨w5.heap.size + 3, 2, none⟩ = some (.map (some (w5.heap.size + 1))) := a2; replace a3 : w6.cell? ⟨w5.heap.size + 3, 3, none⟩ = some (.map (some (w5.heap.size + 2))) := a3; replace hl5 : (Builtin.len_ #[110] 3 #[.map (some (w5.heap.size + 1))]).run Tryz.prog w6 = .ok (.int .i64 0) w6 := hl5; replace hc5 : (Instr.lookup 109 (.map (some (w5.heap.size + 2))) (.string s) false).run Tryz.prog w6 = .ok (.int .i64 0) w6 := hc5; clear hB6 HA6))
 all_goals
  go_ret2
  refine ⟨?_, by first | exact HB6.out | exact HB5.out⟩
  have e := HP.out.trans (if_pos rfl)
  rw [hgt.out] at e
  first
   | (replace e : R = (if s.toList = [] then ((0 : Int), b) else ((0 : Int), c)) := e)
   | (replace e : R = (if s.toList = [] then (((xx.A.ser.map fS).length : Int), allL b xx.A.lim) else ((nOfT (xx.A.ser.map fS) s : Int), oneL c xx.A.met s)) := e; rw [List.length_map, nOf_map] at e)
  first
   | (rw [if_pos (of_decide_eq_true H3.out)] at e; rw [e]; rfl)
   | (rw [if_neg (of_decide_eq_false H3.out)] at e; rw [e]; rfl)
end Go.Proofs.YtikbfjnbhogihaaGreatDoor.Bk
namespace Go.Proofs.YtikbfjnbhogihaaGreatDoor.M
open Go.RowKit Go.Proofs.YtikbfjnbhogihaaGreatDoorW.PrintWords Go.Proofs.YtikbfjnbhogihaaGreatDoorW.PrintLast Go.Proofs.YtikbfjnbhogihaaGreatDoorW.PrintMore
attribute [local go_sem] max2_int min2_int max_two min_two max_three min_three max_four min_four
set_option linter.unusedVariables false
set_option linter.unusedSimpArgs false
/-! ### laws_toMetricLimitS: function 149 -/
def laws_toMetricLimitS.l0 : Nat → List (S223) → List (S91) → Int → Option ((List (S91)))
 | 0, _, _, _ => none
 | k + 1, x0, x3, x4 => if x4 < (x0.length : Int) then (if 0 ≤ x4 then ((laws_toMetricLimit.f ((rd_T223 x0 x4).f0) ((rd_T223 x0 x4).f1)).bind fun bt189 => (if x4 < (x3.length : Int) then (laws_toMetricLimitS.l0 k x0 (x3.set (x4 : Int).toNat (⟨bt189.1, bt189.2⟩ : S91)) (wrap64 (x4 + 1))) else (none))) else (none)) else (some x3)
def laws_toMetricLimitS.f (k : Nat) (l0 : List (S223)) : Option ((List (S91))) := if 0 ≤ (l0.length : Int) then (if ((l0.length : Int) : Int).toNat ≤ 11728124029610 then (laws_toMetricLimitS.l0 k l0 (List.replicate ((l0.length : Int) : Int).toNat z91) 0) else (none)) else (none)
theorem laws_toMetricLimitS.mono_l : ∀ k, (∀ y0 y1 y2, LeO (laws_toMetricLimitS.l0 k y0 y1 y2) (laws_toMetricLimitS.l0 (k + 1) y0 y1 y2))
 | 0 => fun _ _ _ r h => by simp [laws_toMetricLimitS.l0] at h
 | k + 1 => by
  have ih0 := laws_toMetricLimitS.mono_l k
  ·intro y0 y1 y2
   unfold laws_toMetricLimitS.l0
   repeat' first
   | (with_reducible exact ih0 _ _ _)
   | (with_reducible exact LeO.refl _)
   | (with_reducible exact LeO.none _)
   | (with_reducible refine LeO.ite ?_ ?_)
   | (with_reducible refine LeO.bind ?_ (fun _ => ?_))
   | exact ih0 _ _ _
   | exact LeO.none _
   | refine LeO.ite ?_ ?_
   | refine LeO.bind ?_ (fun _ => ?_)
theorem laws_toMetricLimitS.mono : ∀ a0 k, LeO (laws_toMetricLimitS.f k a0) (laws_toMetricLimitS.f (k + 1) a0) := by
 intro a0 k
 have ih0 := laws_toMetricLimitS.mono_l k
 unfold laws_toMetricLimitS.f
 repeat' first
   | (with_reducible exact ih0 _ _ _)
   | (with_reducible exact LeO.refl _)
   | (with_reducible exact LeO.none _)
   | (with_reducible refine LeO.ite ?_ ?_)
   | (with_reducible refine LeO.bind ?_ (fun _ => ?_))
   | exact ih0 _ _ _
   | exact LeO.none _
   | refine LeO.ite ?_ ?_
   | refine LeO.bind ?_ (fun _ => ?_)
set_option maxHeartbeats 8000000 in
set_option maxRecDepth 100000 in
theorem laws_toMetricLimitS.calls (k : Nat) (A0 : Option Addr) (c0 : Nat) (l0 : List (S223)) (r : List (S91)) (w : World) (hr0 : Kd.C k223 w A0 l0.length l0) (hc0 : l0.length ≤ c0) (h : laws_toMetricLimitS.f k l0 = some r) :
  Calls Tryz.prog 149 #[.slice A0 l0.length c0] w fun e w' => ∃ v0_ : Value, e = .returned (v0_) ∧ Kd.R k91 91 w' w.heap.size (fun _ => True) v0_ r ∧ Below w.heap.size w w' := by
 have hu223 := Tryz.underlying223
 have hu91 := Tryz.underlying91
 have HR0 := Aside0.mk hr0
 have HC0 := Aside0.mk hc0
 clear hr0 hc0
 have HB := Aside0.mk (Below.refl w.heap.size w)
 have H : (if 0 ≤ (l0.length : Int) then (if ((l0.length : Int) : Int).toNat ≤ 11728124029610 then (laws_toMetricLimitS.l0 k l0 (List.replicate ((l0.length : Int) : Int).toNat z91) 0) else (none)) else (none)) = some r := h
 clear h
 by_cases c2 : 0 ≤ (l0.length : Int)
 ·rw [if_pos c2] at H
  have c2b0 := eq_true c2
  have c2b1 : decide (0 ≤ (l0.length : Int)) = true := decide_eq_true c2
  clear c2
  by_cases c3 : ((l0.length : Int) : Int).toNat ≤ 11728124029610
  ·rw [if_pos c3] at H
   have c3b0 := eq_true c3
   have c3b1 : decide (((l0.length : Int) : Int).toNat ≤ 11728124029610) = true := decide_eq_true c3
   clear c3
   obtain ⟨y185, hy185⟩ : ∃ y_ : List (S91), y_ = (List.replicate ((l0.length : Int) : Int).toNat z91) := ⟨_, rfl⟩
   replace H : (laws_toMetricLimitS.l0 k l0 y185 0) = some r := by first | (rw [hy185]; with_reducible exact H) | (have H2_ := (Option.bind_some _ _).symm.trans H; rw [hy185]; with_reducible exact H2_) | (have H2_ := (Option.bind_some _ _).symm.trans H; with_reducible exact H2_) | with_reducible exact H | (rw [hy185]; exact H) | exact H
   have Ny185 := Aside0.mk hy185
   clear hy185
   have H' := Aside0.mk H
   clear H
   go_enter Tryz.func149, Tryz.ntmps149
   go_wp2_with (first | ((with_reducible refine gate_dst (N := 7) rfl ?_); refine Kd.R_make k91 _ 91 rfl (N := 7) rfl 84 _ _ rfl (l0.length : Int) rfl rfl Tryz.underlying84 (.agg #[(.string ⟨#[]⟩), (.int .i64 0)]) 24 info91 rfl (by decide) (by omega) z91 (ok := fun _ => True) (okp := fun _ => True) (k91_mkM _ _ _ z91 ) (fun _ hk => hk) trivial (of_decide_eq_true (by first | (with_reducible assumption) | assumption)) (Nat.le_trans (Nat.mul_le_mul_right _ (of_decide_eq_true (by first | (with_reducible assumption) | assumption) : (l0.length : Int).toNat ≤ 11728124029610)) (by omega)) (Below.refl _ _) (Nat.le_refl _) ?_; intro v186 w4 ho5 hb hg_ hnew_; clear hg_ hnew_; (first | rw [← Ny185.out] at ho5 | (simp only [Int.reduceToNat] at ho5; rw [← Ny185.out] at ho5)); have n0_ := Aside0.mk (Kd.R_lower ho5 (below_size (by repeat (first | (with_reducible first | exact HB.out | apply below_alloc | apply pw_below_drewN | apply below_drew1) | exact HB.out)))); have n1_ := Aside0.mk (below_step (by repeat (first | (with_reducible first | exact HB.out | apply below_alloc | apply pw_below_drewN | apply below_drew1) | exact HB.out)) hb); clear HB; have HO187 := n0_; have HB := n1_; clear n0_ n1_; clear hb ho5))
   go_loopg [4] k (fun kq v4 w' => ∃ (x3_1 : List (S91)) (x4_1 : Int), v4 = .int .i64 x4_1 ∧ Aside0 (laws_toMetricLimitS.l0 kq l0 x3_1 x4_1 = some r) ∧ Aside0 (kq ≤ k) ∧ Aside0 (Kd.R k91 91 w' w.heap.size (fun _ => True) v186 x3_1) ∧ Aside0 (Below w.heap.size w w'))
   case atStart => exact ⟨(y185), (0), (by first | rfl | (simp; done) | (simp [*]; done)), H', ⟨Nat.le_refl _⟩, ⟨by (with_reducible repeat (first | apply Kd.R_alloc | apply Kd.R_drewN | apply Kd.R_drew)); exact HO187.out⟩, ⟨by repeat (first | (with_reducible first | exact HB.out | apply below_alloc | apply pw_below_drewN | apply below_drew1) | exact HB.out)⟩⟩
   case round =>
    clear H'
    try clear c1
    try clear c2
    try clear c2b0
    try clear c2b1
    try clear p2
    try clear c3
    try clear c3b0
    try clear c3b1
    obtain ⟨x3_1, x4_1, rfl, HA, HK1, HO_3, HB⟩ := hrel
    cases gk with
    | zero => exact absurd HA.out (by simp [laws_toMetricLimitS.l0])
    | succ k1 =>
     have H := HA.out
     clear HA
     simp only [laws_toMetricLimitS.l0] at H
     by_cases c6 : x4_1 < (l0.length : Int)
     ·rw [if_pos c6] at H
      have c6b0 : decide (x4_1 < (l0.length : Int)) = true := decide_eq_true c6
      clear c6
      by_cases c7 : 0 ≤ x4_1
      ·rw [if_pos c7] at H
       have c7b0 : decide (0 ≤ x4_1) = true := decide_eq_true c7
       clear c7
       replace H := Option.bind_eq_some_iff.mp H
       obtain ⟨⟨t189, t190⟩, A80, H⟩ := H
       replace H : (if x4_1 < (x3_1.length : Int) then (laws_toMetricLimitS.l0 k1 l0 (x3_1.set (x4_1 : Int).toNat (⟨t189, t190⟩ : S91)) (wrap64 (x4_1 + 1))) else (none)) = some r := H
       have A8 := Aside0.mk A80
       clear A80
       by_cases c9 : x4_1 < (x3_1.length : Int)
       ·rw [if_pos c9] at H
        have c9b0 : decide (x4_1 < (x3_1.length : Int)) = true := decide_eq_true c9
        clear c9
        obtain ⟨y191, hy191⟩ : ∃ y_ : List (S91), y_ = (x3_1.set (x4_1 : Int).toNat (⟨t189, t190⟩ : S91)) := ⟨_, rfl⟩
        replace H : (laws_toMetricLimitS.l0 k1 l0 y191 (wrap64 (x4_1 + 1))) = some r := by first | (rw [hy191]; with_reducible exact H) | (have H2_ := (Option.bind_some _ _).symm.trans H; rw [hy191]; with_reducible exact H2_) | (have H2_ := (Option.bind_some _ _).symm.trans H; with_reducible exact H2_) | with_reducible exact H | (rw [hy191]; exact H) | exact H
        have Ny191 := Aside0.mk hy191
        clear hy191
        have H' := Aside0.mk H
        clear H
        have p188 : 0 ≤ (x4_1 : Int) := of_decide_eq_true (by first | (with_reducible assumption) | assumption)
        have q188 : x4_1 < (l0.length : Int) := of_decide_eq_true (by first | (with_reducible assumption) | assumption)
        obtain ⟨ad188, e188, hx188_0, hx188_1⟩ := at_T223 HR0.out x4_1 p188 q188
        cases e188
        replace hx188_0 := (HB.out.cell (World.block_lt_of_cell? w _ hx188_0)).trans hx188_0
        replace hx188_1 := (HB.out.cell (World.block_lt_of_cell? w _ hx188_1)).trans hx188_1
        replace p188 := eq_true p188
        replace q188 := eq_true q188
        go_wp2_with (first | ((with_reducible refine gate_callee (f := 169) rfl ?_); refine goesL_ (some 20) rfl rfl Tryz.func169 (by kernel_rfl) rfl #[.agg #[.string ((rd_T223 l0 x4_1).f0), .int .i64 ((rd_T223 l0 x4_1).f1)]] rfl (by (try simp only [List.map_toArray, List.map_cons, List.map_nil]); first | done | rfl | (simp only [List.length_drop, List.length_take]; rfl)) ?_; (with_reducible refine (laws_toMetricLimit.calls ((rd_T223 l0 x4_1).f0) ((rd_T223 l0 x4_1).f1) t189 t190 _ A8.out).mono ?_); rintro e w11 ⟨rfl, hb⟩; refine ⟨_, rfl, ?_⟩; have n0_ := Aside0.mk (Kd.R_below (by (with_reducible repeat (first | apply Kd.R_alloc | apply Kd.R_drewN | apply Kd.R_drew)); exact HO_3.out) hb); have n1_ := Aside0.mk (below_step (by repeat (first | (with_reducible first | exact HB.out | apply below_alloc | apply pw_below_drewN | apply below_drew1) | exact HB.out)) hb); clear HO_3; clear HB; have HO_3 := n0_; have HB := n1_; clear n0_ n1_; (try clear hb); (try clear hb2); (try clear hk); (try clear hi); have p10 : 0 ≤ (x4_1 : Int) := of_decide_eq_true (by first | (with_reducible assumption) | assumption); have q10 : (x4_1 : Int) < ((x3_1.length : Int) : Int) := of_decide_eq_true (by first | (with_reducible assumption) | assumption); obtain ⟨go10, co10, eo10, gb10, gl10, cl10, HG10⟩ := Kd.R_form HO_3.out (by omega); (first | cases eo10 | (injection eo10 with ea_ en_ ec_; (first | subst ea_ | (injection ea_ with ea_; subst ea_)); subst ec_; clear en_)); have GB10 := Aside0.mk gb10; have GG10 := Aside0.mk HG10; clear gb10 gl10 HG10; obtain ⟨ce10, hcl10, hM10, hcc10, hfr10⟩ := Kd.R_elem HO_3.out z91 (x4_1 : Int) p10 q10; obtain rfl := k91_openM hM10; have hx10_0 : w11.cell? ⟨go10, (x4_1 : Int).toNat * 2, none⟩ = some (.string ((rd_T91 x3_1 x4_1).f0)) := hcc10 0 _ rfl; have hx10_1 : w11.cell? ⟨go10, (x4_1 : Int).toNat * 2 + 1, none⟩ = some (.int .i64 ((rd_T91 x3_1 x4_1).f1)) := hcc10 1 _ rfl; have hf10_0 : w11.frozen? ⟨go10, (x4_1 : Int).toNat * 2, none⟩ = false := hfr10 0; have hf10_1 : w11.frozen? ⟨go10, (x4_1 : Int).toNat * 2 + 1, none⟩ = false := hfr10 1; clear hcl10 hcc10 hfr10 hM10; replace p10 := eq_true p10; replace q10 := eq_true q10; have HX12 := Aside0.mk (show Kd.R k91 91 w11 w.heap.size (fun _ => True) (.slice (some ⟨go10, 0, none⟩) x3_1.length co10) x3_1 from (by (with_reducible repeat (first | apply Kd.R_alloc | apply Kd.R_drewN | apply Kd.R_drew)); exact HO_3.out)); obtain ⟨ce12, hcl12, hM12, hcc12, hfr12⟩ := Kd.R_elem HX12.out z91 (x4_1 : Int) (of_decide_eq_true (by first | (with_reducible assumption) | assumption)) (by have h_ : (x4_1 : Int) < ((x3_1.length : Int) : Int) := of_decide_eq_true (by first | (with_reducible assumption) | assumption); first | exact h_ | (have e_ := (Kd.R_reads' HO_3.out).1; omega) | simpa using h_); obtain rfl := k91_openM hM12; have HP12 := Kd.R_seg HX12.out (x4_1 : Int) (of_decide_eq_true (by first | (with_reducible assumption) | assumption)) (by have h_ : (x4_1 : Int) < ((x3_1.length : Int) : Int) := of_decide_eq_true (by first | (with_reducible assumption) | assumption); first | exact h_ | (have e_ := (Kd.R_reads' HO_3.out).1; omega) | simpa using h_) (seg := [.string t189, .int .i64 t190]) (j := 0) hcl12 hcc12 (show 2 ≤ 2 from by decide) (x' := (⟨t189, t190⟩ : S91)) (k91_mkM _ _ _ (⟨t189, t190⟩ : S91) ) (fun _ hk => hk); have hx12_0 := hcc12 0 _ rfl; (try simp only [show (k91).sz = 2 from rfl, Nat.mul_one, Nat.add_zero] at hx12_0); have hf12_0 := hfr12 0; (try simp only [show (k91).sz = 2 from rfl, Nat.mul_one, Nat.add_zero] at hf12_0); have hx12_1 := hcc12 1 _ rfl; (try simp only [show (k91).sz = 2 from rfl, Nat.mul_one, Nat.add_zero] at hx12_1); have hf12_1 := hfr12 1; (try simp only [show (k91).sz = 2 from rfl, Nat.mul_one, Nat.add_zero] at hf12_1); clear hcl12 hcc12 hfr12 hM12) | ((with_reducible refine gate_store (t := 91) (p := 21) rfl ?_); refine store_event (t := 91) (p := 21) (v := ?vo_w13) (w1 := ((w11.setCell ⟨go10, (x4_1 : Int).toNat * 2, none⟩ (.string t189)).setCell ⟨go10, (x4_1 : Int).toNat * 2 + 1, none⟩ (.int .i64 t190))) ?hg ?ho ?hn ?hr ?_; (case ho => rfl); (case hg => rfl); (case hn => rfl); (case hr => first | (go_simp; done) | (go_simp; rfl)); intro w13 hw; have hg : w11.grownBy w13 (some go10) := (by rw [hw]; exact HP12.2); have hp_ : Kd.R k91 91 w13 w.heap.size (fun _ => True) (.slice (some ⟨go10, 0, none⟩) x3_1.length co10) y191 := (by rw [hw, Ny191.out]; exact HP12.1); clear HP12; have n0_ := Aside0.mk (hp_); have n1_ := Aside0.mk ((by rw [hw]; exact below_set (below_set (HB.out) GB10.out) GB10.out : Below w.heap.size w w13)); clear HO_3; clear HB; have HO_3 := n0_; have HB := n1_; clear n0_ n1_; clear hg hw hp_))
        go_roundg k1
        case measure => have := HK1.out; omega
        case rel => exact ⟨(y191), (wrap64 (x4_1 + 1)), (by first | rfl | (simp; done) | (simp [*]; done)), H', ⟨by have := HK1.out; omega⟩, ⟨by (with_reducible repeat (first | apply Kd.R_alloc | apply Kd.R_drewN | apply Kd.R_drew)); exact HO_3.out⟩, ⟨by repeat (first | (with_reducible first | exact HB.out | apply below_alloc | apply pw_below_drewN | apply below_drew1) | exact HB.out)⟩⟩
       ·rw [if_neg c9] at H
        exact absurd H (by simp)
      ·rw [if_neg c7] at H
       exact absurd H (by simp)
     ·rw [if_neg c6] at H
      have c6b0 : decide (x4_1 < (l0.length : Int)) = false := decide_eq_false c6
      clear c6
      obtain rfl := Option.some.inj H
      go_wp2
      go_ret
      exact ⟨_, by first | rfl | (simp [errW_none, errW_some] <;> rfl) | (simp [*, errW_none, errW_some] <;> rfl), by (with_reducible repeat (first | apply Kd.R_alloc | apply Kd.R_drewN | apply Kd.R_drew)); exact HO_3.out, by repeat (first | (with_reducible first | exact HB.out | apply below_alloc | apply pw_below_drewN | apply below_drew1) | exact HB.out)⟩
  ·rw [if_neg c3] at H
   exact absurd H (by simp)
 ·rw [if_neg c2] at H
  exact absurd H (by simp)
end Go.Proofs.YtikbfjnbhogihaaGreatDoor.M
/- spec.l4Tenant, spec.l4Count, spec.CountOf: walked. -/
namespace Go.Proofs.YtikbfjnbhogihaaGreatDoor.Bk
open Go.RowKit Go.Proofs.YtikbfjnbhogihaaGreatDoor.M Go.Proofs.YtikbfjnbhogihaaGreatDoor.Loops Go.Proofs.YtikbfjnbhogihaaGreatDoor.StOK Go.Proofs.YtikbfjnbhogihaaGreatDoorW.PrintWords Go.Proofs.YtikbfjnbhogihaaGreatDoorW.PrintLast Go.Proofs.YtikbfjnbhogihaaGreatDoorW.PrintMore
set_option linter.unusedVariables false
set_option linter.unusedSimpArgs false
noncomputable def tenOf (n : ByteArray) (ts : List Tn) : Tn := (gget (fun t : Tn => t.f0) n ts).getD ⟨n, -1, [], []⟩
theorem put4 {W : World} {g t : Nat} {a b c d a' b' c' d' : Value} (h : W.heap[g]? = some (.cells #[a, b, c, d] t (0, 0))) : ((((W.setCell ⟨g, 0, none⟩ a').setCell ⟨g, 1, none⟩ b').setCell ⟨g, 2, none⟩ c').setCell ⟨g, 3, none⟩ d').heap[g]? = some (.cells #[a', b', c', d'] t (0, 0)) := blk_set (blk_set (blk_set (blk_set h 0 a') 1 b') 2 c') 3 d'
theorem bel4 {w W : World} {g : Nat} {a b c d : Value} (h : Below w.heap.size w W) (hg : w.heap.size ≤ g) : Below w.heap.size w ((((W.setCell ⟨g, 0, none⟩ a).setCell ⟨g, 1, none⟩ b).setCell ⟨g, 2, none⟩ c).setCell ⟨g, 3, none⟩ d) := below_set (below_set (below_set (below_set h hg) hg) hg) hg
theorem gget_drop {α : Type} (kf : α → ByteArray) (n : ByteArray) (l : List α) (z : α) (j : Nat) (hj : j < l.length) (x : α) (hx : l.getD j z = x) : gget kf n (l.drop j) = if ((kf x).toList == n.toList) = true then some x else gget kf n (l.drop (j + 1)) := by
 have e : l.drop j = x :: l.drop (j + 1) := by
  rw [List.drop_eq_getElem_cons hj, ← hx, List.getD_eq_getElem?_getD, List.getElem?_eq_getElem hj]; rfl
 rw [e]
 unfold gget
 rw [List.find?_cons, ByteArray.toList_eq, ByteArray.toList_eq]
 cases ((kf x).data.toList == n.data.toList) <;> rfl
set_option maxHeartbeats 4000000 in
set_option maxRecDepth 100000 in
theorem lten_c (w : World) (now : Int) (A : Option Addr) (cp : Nat) (ts : List Tn) (n : ByteArray) (hr : Kd.C k87 w A ts.length ts) (hc : ts.length ≤ cp) (hl : ts.length ≤ 1048576) :
  Calls Tryz.prog 61 #[.agg #[.int .i64 now, .slice A ts.length cp], .string n] w fun x w' => ∃ (t : Tn) (A2 : Option Addr) (c2 : Nat) (A3 : Option Addr) (c3 : Nat), x = .returned (.agg #[.string t.f0, .int .i64 t.f1, .slice A2 t.f2.length c2, .slice A3 t.f3.length c3]) ∧ t = tenOf n ts ∧ Kd.C k91 w' A2 t.f2.length t.f2 ∧ t.f2.length ≤ c2 ∧ Kd.C k93 w' A3 t.f3.length t.f3 ∧ t.f3.length ≤ c3 ∧ Below w.heap.size w w' := by
 have hu1 := Tryz.underlying33
 have hu2 := Tryz.underlying87
 obtain ⟨T0, hT0⟩ : ∃ o, o = cT ⟨#[]⟩ 0 (.slice none 0 0) (.slice none 0 0) := ⟨_, rfl⟩
 obtain ⟨L, hL⟩ : ∃ L, L = [(w.heap.size + 1, T0), (w.heap.size, cS now A ts.length cp)] := ⟨_, rfl⟩
 have K0 : Aside0 (Kp w ((w.alloc (cS now A ts.length cp)).alloc (cT ⟨#[]⟩ 0 (.slice none 0 0) (.slice none 0 0))) L) := ⟨hT0 ▸ hL ▸ St.two w _ _⟩
 have hm0 : (w.heap.size + 1, T0) ∈ L ∧ (w.heap.size, cS now A ts.length cp) ∈ L := by rw [hL]; simp
 replace hm0 := Aside0.mk hm0
 replace hT0 := Aside0.mk hT0
 have HR := Aside0.mk (And.intro hr hc)
 have HN := Aside0.mk hl
 clear hr hc hl hL
 go_enter Tryz.func61, Tryz.ntmps61
 go_wp2
 go_loopw [10] (fun v wr => ∃ j : Nat, j ≤ ts.length ∧ v = .int .i64 j ∧ Aside0 (Kp w wr L) ∧ Aside0 (gget (fun t : Tn => t.f0) n ts = gget (fun t : Tn => t.f0) n (ts.drop j))) (fun v wr => ts.length - (intOf v).toNat)
 case atStart => exact ⟨0, by omega, by simp, K0, ⟨by rw [List.drop_zero]⟩⟩
 case round =>
  rename World => wo
  clear K0
  obtain ⟨j, hj, rfl, K, HV⟩ := hrel
  obtain hj5 | hj6 : ts.length ≤ j ∨ j < ts.length := by omega
  ·obtain rfl : j = ts.length := by omega
   have hz : _ = some (cT ⟨#[]⟩ 0 (.slice none 0 0) (.slice none 0 0)) := (K.out.has _ hm0.out.1).trans (by rw [hT0.out])
   obtain ⟨z0, z1, z2, z3⟩ := c4 hz
   have zf0 := blk_frozen hz 0
   have zf1 := blk_frozen hz 1
   have zf2 := blk_frozen hz 2
   have zf3 := blk_frozen hz 3
   replace hz := Aside0.mk hz
   go_wp2
   refine bodyPost_ret (results_cell_row rfl _ _ (w.heap.size + 1) 87 #[.string n, .int .i64 (-1), .slice none 0 0, .slice none 0 0] (0, 0) _ rfl (put4 hz.out) Tryz.underlying87 rfl (by kernel_rfl)) rfl ?_
   exact ⟨⟨n, -1, [], []⟩, none, 0, none, 0, rfl, by unfold tenOf; rw [HV.out, List.drop_length]; rfl, Kd.C_nil _ _, Nat.le_refl _, Kd.C_nil _ _, Nat.le_refl _, bel4 K.out.bel (Nat.le_succ _)⟩
  ·obtain ⟨ad, A2, c2, A3, c3, rfl, x0, x1, x2, x3, l2, i2, l3, i3⟩ := at_T87 HR.out.1 (j : Int) (by omega) (by omega)
   have hn := Aside0.mk HN.out
   obtain ⟨t, et⟩ : ∃ t, rd_T87 ts (j : Int) = t := ⟨_, rfl⟩
   have et2 := Aside0.mk (show ts.getD j z87 = t from et)
   rw [et] at x0 x1 x2 x3 l2 i2 l3 i3
   simp only [Int.toNat_natCast] at x0 x1 x2 x3
   replace l2 := Aside0.mk l2
   replace l3 := Aside0.mk l3
   replace i2 := Aside0.mk i2
   replace i3 := Aside0.mk i3
   replace x0 := (K.out.bel.cell (World.block_lt_of_cell? w _ x0)).trans x0
   replace x1 := (K.out.bel.cell (World.block_lt_of_cell? w _ x1)).trans x1
   replace x2 := (K.out.bel.cell (World.block_lt_of_cell? w _ x2)).trans x2
   replace x3 := (K.out.bel.cell (World.block_lt_of_cell? w _ x3)).trans x3
   clear et
   have K4 := Aside0.mk (K.out.alloc (cT t.f0 t.f1 (.slice A2 t.f2.length c2) (.slice A3 t.f3.length c3)))
   obtain ⟨q, hq⟩ : ∃ q, (t.f0.toList == n.toList) = q := ⟨_, rfl⟩
   have hg := Aside0.mk (HV.out.trans ((gget_drop (fun t : Tn => t.f0) n ts _ j hj6 t et2.out).trans (by rw [hq] : _ = if q = true then some t else gget (fun t : Tn => t.f0) n (ts.drop (j + 1)))))
   have hnew := blk_new wo (cT t.f0 t.f1 (.slice A2 t.f2.length c2) (.slice A3 t.f3.length c3))
   obtain ⟨b0, b1, b2, b3⟩ := c4 hnew
   clear HV hnew
   cases q
   ·go_wp2
    go_roundw
    case rel => have hn3 := hn.out; exact ⟨j + 1, by omega, by rw [St.sc j (by omega)], K4, hg⟩
    case measure => exact St.dec _ j hj6 (Nat.lt_of_lt_of_le hj6 hn.out)
   ·have hz : _ = some (cT ⟨#[]⟩ 0 (.slice none 0 0) (.slice none 0 0)) := (K4.out.has _ hm0.out.1).trans (by rw [hT0.out])
    obtain ⟨z0, z1, z2, z3⟩ := c4 hz
    have zf0 := blk_frozen hz 0
    have zf1 := blk_frozen hz 1
    have zf2 := blk_frozen hz 2
    have zf3 := blk_frozen hz 3
    replace hz := Aside0.mk hz
    go_wp2
    refine bodyPost_ret (results_cell_row rfl _ _ (w.heap.size + 1) 87 #[.string t.f0, .int .i64 t.f1, .slice A2 t.f2.length c2, .slice A3 t.f3.length c3] (0, 0) _ rfl (put4 hz.out) Tryz.underlying87 rfl (by kernel_rfl)) rfl ?_
    have hb := bel4 (a := .string t.f0) (b := .int .i64 t.f1) (c := .slice A2 t.f2.length c2) (d := .slice A3 t.f3.length c3) K4.out.bel (Nat.le_succ _)
    exact ⟨t, A2, c2, A3, c3, rfl, by unfold tenOf; rw [hg.out]; rfl, Kd.C_below i2.out hb, l2.out, Kd.C_below i3.out hb, l3.out, hb⟩
theorem smetric_c (s : ByteArray) (hs : s.size ≤ 1048576) (w : World) : Calls Tryz.prog 81 #[.string s] w fun e w' => e = .returned (.string (metS s)) ∧ Below w.heap.size w w' := by
 obtain ⟨k, hk⟩ := (spec_metric s hs).rounds
 exact spec_Metric.calls k s _ w hk
theorem toL_iff {a b : ByteArray} {q : Bool} (h : (a.toList == b.toList) = q) : decide (a = b) = q := by
 rw [← h, ByteArray.toList_eq, ByteArray.toList_eq]
 refine Bool.eq_iff_iff.2 ⟨fun e => ?_, fun e => ?_⟩
 ·rw [of_decide_eq_true e]; exact beq_self_eq_true _
 ·exact decide_eq_true (Mp.key_inj (eq_of_beq e))
theorem drop_at {α : Type} (l : List α) (z : α) (j : Nat) (hj : j < l.length) (x : α) (hx : l.getD j z = x) : l.drop j = x :: l.drop (j + 1) := by
 rw [List.drop_eq_getElem_cons hj, ← hx, List.getD_eq_getElem?_getD, List.getElem?_eq_getElem hj]; rfl
theorem lim_step {c lim : Int} {l : List Ml} {s : ByteArray} (hu : l.Pairwise fun x y => bef x.f0 y.f0) (z : Ml) {i : Nat} (hi : i < l.length) {m : Ml} (hm : l.getD i z = m) {q : Bool} (hq : (m.f0.toList == s.toList) = q) (h : oneL c l s = oneL lim (l.drop i) s) : oneL c l s = oneL (if q = true then m.f1 else lim) (l.drop (i + 1)) s := by
 have e := drop_at l z i hi m hm
 rw [h]
 unfold oneL
 rw [gget_drop (fun y : Ml => y.f0) s l z i hi m hm, hq]
 cases q
 ·rfl
 ·have hp : (m :: l.drop (i + 1)).Pairwise fun x y : Ml => bef x.f0 y.f0 := by rw [← e]; exact hu.sublist (List.drop_sublist _ _)
  have hms : m.f0 = s := of_decide_eq_true (toL_iff hq)
  have hnone : gget (fun y : Ml => y.f0) s (l.drop (i + 1)) = none := by
   cases hg : gget (fun y : Ml => y.f0) s (l.drop (i + 1)) with
   | none => rfl
   | some y =>
    obtain ⟨h1, h2⟩ := gget_some hg
    have h3 := (List.pairwise_cons.1 hp).1 y h1
    exact absurd (hms.trans h2.symm) (before_ne h3)
  rw [hnone]; rfl
theorem cnt_step {l : List Sr} {s : ByteArray} (z : Sr) {i n : Nat} (hi : i < l.length) {m : Sr} (hm : l.getD i z = m) {q : Bool} (hq : ((metS m.f0).toList == s.toList) = q) (h : n ≤ i ∧ n + nOfT (l.drop i) s = nOfT l s) : (if q = true then n + 1 else n) ≤ i + 1 ∧ (if q = true then n + 1 else n) + nOfT (l.drop (i + 1)) s = nOfT l s := by
 rw [drop_at l z i hi m hm] at h
 unfold nOfT at h ⊢
 rw [List.filter_cons, toL_iff hq] at h
 obtain ⟨h1, h2⟩ := h
 rw [← h2]
 cases q
 ·exact ⟨by simp; omega, by simp⟩
 ·exact ⟨by simp; omega, by simp; omega⟩
set_option maxHeartbeats 4000000 in
set_option maxRecDepth 100000 in
theorem lcnt_c (w : World) (a b c d e f : Int) (t : Tn) (s : ByteArray) (A2 : Option Addr) (c2 : Nat) (A3 : Option Addr) (c3 : Nat) (i2 : Kd.C k91 w A2 t.f2.length t.f2) (l2 : t.f2.length ≤ c2) (i3 : Kd.C k93 w A3 t.f3.length t.f3) (l3 : t.f3.length ≤ c3) (hs : t.f2.length ≤ 1048576 ∧ t.f3.length ≤ 1048576 ∧ ∀ m ∈ t.f3, m.f0.size ≤ 1048576) (hu : t.f2.Pairwise fun x y => bef x.f0 y.f0) :
  Calls Tryz.prog 60 #[.agg #[.int .i64 a, .int .i64 b, .int .i64 c, .int .i64 d, .int .i64 e, .int .i64 f], .agg #[.string t.f0, .int .i64 t.f1, .slice A2 t.f2.length c2, .slice A3 t.f3.length c3], .string s] w fun x w' => x = .returned (.tuple #[.int .i64 (cntT b c (some t) s).1, .int .i64 (cntT b c (some t) s).2]) ∧ Below w.heap.size w w' := by
 have hu1 := Tryz.underlying29
 have hu2 := Tryz.underlying87
 have hu3 := Tryz.underlying91
 have hu4 := Tryz.underlying93
 obtain ⟨R, hR⟩ : ∃ R, R = cntT b c (some t) s := ⟨_, rfl⟩
 rw [← hR]
 obtain ⟨q, hq⟩ : ∃ q, (s.toList == ([] : List UInt8)) = q := ⟨_, rfl⟩
 have HV : Aside0 (R = if q = true then ((t.f3.length : Int), allL b t.f1) else ((nOfT t.f3 s : Int), oneL c t.f2 s)) := ⟨by
  rw [hR, ← hq]
  by_cases h : s.toList = []
  ·rw [if_pos (beq_iff_eq.2 h)]; exact if_pos h
  ·rw [if_neg (fun h2 => h (beq_iff_eq.1 h2))]; exact if_neg h⟩
 have HS := Aside0.mk hs
 have HU := Aside0.mk hu
 replace i2 := Aside0.mk i2
 replace i3 := Aside0.mk i3
 replace l2 := Aside0.mk l2
 replace l3 := Aside0.mk l3
 obtain ⟨L, hL⟩ : ∃ L, L = [(w.heap.size + 1, cT t.f0 t.f1 (.slice A2 t.f2.length c2) (.slice A3 t.f3.length c3)), (w.heap.size, cC a b c d e f)] := ⟨_, rfl⟩
 have K0 : Aside0 (Kp w ((w.alloc (cC a b c d e f)).alloc (cT t.f0 t.f1 (.slice A2 t.f2.length c2) (.slice A3 t.f3.length c3))) L) := ⟨hL ▸ St.two w _ _⟩
 have hm0 := Aside0.mk (show (w.heap.size + 1, cT t.f0 t.f1 (.slice A2 t.f2.length c2) (.slice A3 t.f3.length c3)) ∈ L by rw [hL]; simp)
 clear hR hs hu hL
 cases q
 ·replace HV : Aside0 (R = ((nOfT t.f3 s : Int), oneL c t.f2 s)) := HV
  go_enter Tryz.func60, Tryz.ntmps60
  go_wp2
  go_loopw [9, 32] (fun v u wr => ∃ (i : Nat) (lim : Int), i ≤ t.f2.length ∧ v = .int .i64 lim ∧ u = .int .i64 i ∧ Aside0 (Kp w wr L) ∧ Aside0 (oneL c t.f2 s = oneL lim (t.f2.drop i) s)) (fun v u wr => t.f2.length - (intOf u).toNat)
  case atStart => exact ⟨0, c, by omega, by simp, by simp, K0, ⟨by rw [List.drop_zero]⟩⟩
  case round =>
   rename World => wo
   clear K0
   obtain ⟨i, lim, hi, rfl, rfl, K, HL⟩ := hrel
   obtain hi5 | hi6 : t.f2.length ≤ i ∨ i < t.f2.length := by omega
   ·obtain rfl : i = t.f2.length := by omega
    obtain ⟨_, _, _, y3⟩ := c4 (K.out.has _ hm0.out)
    have HLim : Aside0 (oneL c t.f2 s = lim) := ⟨HL.out.trans (by rw [List.drop_length]; rfl)⟩
    clear HL
    go_wp2
    clear y3
    go_loopw [12, 46] (fun v u wr => ∃ (i n : Nat), i ≤ t.f3.length ∧ n ≤ i ∧ v = .int .i64 n ∧ u = .int .i64 i ∧ Aside0 (Kp w wr L) ∧ Aside0 (n ≤ i ∧ n + nOfT (t.f3.drop i) s = nOfT t.f3 s)) (fun v u wr => t.f3.length - (intOf u).toNat)
    case atStart => exact ⟨0, 0, by omega, by omega, by simp, by simp, K, ⟨Nat.le_refl _, by rw [List.drop_zero, Nat.zero_add]⟩⟩
    case round =>
     rename World => wz
     clear K
     obtain ⟨i, n, hi, hni, rfl, rfl, K, HC⟩ := hrel
     obtain hi5 | hi6 : t.f3.length ≤ i ∨ i < t.f3.length := by omega
     ·obtain rfl : i = t.f3.length := by omega
      go_wp2
      go_ret2
      have e := HC.out.2
      rw [List.drop_length] at e
      replace e : n = nOfT t.f3 s := e
      have e2 := HV.out
      rw [HLim.out, ← e] at e2
      exact ⟨by rw [e2]; rfl, K.out.bel⟩
     ·obtain ⟨ad4, eA, x0, x1⟩ := at_T93 i3.out (i : Int) (by omega) (by omega)
      subst eA
      have hz := HS.out.2.2 _ (getD_mem t.f3 z93 i hi6)
      have hn2 := Aside0.mk HS.out.2.1
      obtain ⟨m, em⟩ : ∃ m, rd_T93 t.f3 (i : Int) = m := ⟨_, rfl⟩
      have em2 := Aside0.mk (show t.f3.getD i z93 = m from em)
      rw [em2.out] at hz
      rw [em] at x0 x1
      simp only [Int.toNat_natCast] at x0 x1
      replace x0 := (K.out.bel.cell (World.block_lt_of_cell? w _ x0)).trans x0
      replace x1 := (K.out.bel.cell (World.block_lt_of_cell? w _ x1)).trans x1
      replace hz := Aside0.mk hz
      clear em
      obtain ⟨q, hq2⟩ : ∃ q, ((metS m.f0).toList == s.toList) = q := ⟨_, rfl⟩
      have HC2 := Aside0.mk (cnt_step z93 hi6 em2.out hq2 HC.out)
      clear HC
      cases q
      ·go_wp2_with (go_at_call 81; refine (smetric_c m.f0 hz.out _).mono ?_; rintro x w1 ⟨rfl, hB⟩; have K2 := Aside0.mk ((K.out.alloc _).step hB); clear K hB; have K := K2; clear K2)
       go_roundw
       case rel => have hn3 := hn2.out; exact ⟨i + 1, n, by omega, by omega, rfl, by rw [St.sc i (by omega)], K, HC2⟩
       case measure => exact St.dec _ i hi6 (Nat.lt_of_lt_of_le hi6 hn2.out)
      ·go_wp2_with (go_at_call 81; refine (smetric_c m.f0 hz.out _).mono ?_; rintro x w1 ⟨rfl, hB⟩; have K2 := Aside0.mk ((K.out.alloc _).step hB); clear K hB; have K := K2; clear K2)
       go_roundw
       case rel => have hn3 := hn2.out; exact ⟨i + 1, n + 1, by omega, by omega, by rw [St.sc n (by omega)], by rw [St.sc i (by omega)], K, HC2⟩
       case measure => exact St.dec _ i hi6 (Nat.lt_of_lt_of_le hi6 hn2.out)
   ·obtain ⟨ad2, eA, x0, x1⟩ := at_T91 i2.out (i : Int) (by omega) (by omega)
    subst eA
    have hn2 := Aside0.mk HS.out.1
    obtain ⟨m, em⟩ : ∃ m, rd_T91 t.f2 (i : Int) = m := ⟨_, rfl⟩
    have em2 := Aside0.mk (show t.f2.getD i z91 = m from em)
    rw [em] at x0 x1
    simp only [Int.toNat_natCast] at x0 x1
    replace x0 := (K.out.bel.cell (World.block_lt_of_cell? w _ x0)).trans x0
    replace x1 := (K.out.bel.cell (World.block_lt_of_cell? w _ x1)).trans x1
    clear em
    obtain ⟨q, hq2⟩ : ∃ q, (m.f0.toList == s.toList) = q := ⟨_, rfl⟩
    have HL2 := Aside0.mk (lim_step HU.out z91 hi6 em2.out hq2 HL.out)
    have K2 := Aside0.mk (K.out.alloc (.cells #[.string m.f0, .int .i64 m.f1] 91 (0, 0)))
    obtain ⟨b0, b1⟩ := Bk.c2 (blk_new wo (.cells #[.string m.f0, .int .i64 m.f1] 91 (0, 0)))
    clear HL K
    cases q
    ·go_wp2
     go_roundw
     case rel => have hn3 := hn2.out; exact ⟨i + 1, lim, by omega, rfl, by rw [St.sc i (by omega)], K2, HL2⟩
     case measure => exact St.dec _ i hi6 (Nat.lt_of_lt_of_le hi6 hn2.out)
    ·go_wp2
     go_roundw
     case rel => have hn3 := hn2.out; exact ⟨i + 1, m.f1, by omega, rfl, by rw [St.sc i (by omega)], K2, HL2⟩
     case measure => exact St.dec _ i hi6 (Nat.lt_of_lt_of_le hi6 hn2.out)
 ·obtain ⟨q2, hq2⟩ : ∃ q, decide (t.f1 < 0) = q := ⟨_, rfl⟩
  have HA : Aside0 (allL b t.f1 = if q2 = true then b else t.f1) := ⟨by
   unfold allL
   rw [← hq2]
   by_cases h : t.f1 < 0
   ·rw [if_neg (by omega), if_pos (decide_eq_true h)]
   ·rw [if_pos (by omega), if_neg (by simpa using h)]⟩
  cases q2
  case' false => have HV2 : Aside0 (R = ((t.f3.length : Int), t.f1)) := ⟨HV.out.trans (congrArg (fun y => ((t.f3.length : Int), y)) HA.out)⟩
  case' true => have HV2 : Aside0 (R = ((t.f3.length : Int), b)) := ⟨HV.out.trans (congrArg (fun y => ((t.f3.length : Int), y)) HA.out)⟩
  all_goals
   clear HV HA
   go_enter Tryz.func60, Tryz.ntmps60
   go_wp2
   go_ret2
   exact ⟨by rw [HV2.out]; rfl, K0.out.bel⟩
theorem ten_ok {a b c d e f now : Int} {ts : List Tn} (h : stB a b c d e f now ts = true) (hs : ts.length ≤ 1048576 ∧ ∀ t ∈ ts, Sm t) (n : ByteArray) {t : Tn} (ht : t = tenOf n ts) : (t.f2.length ≤ 1048576 ∧ t.f3.length ≤ 1048576 ∧ ∀ m ∈ t.f3, m.f0.size ≤ 1048576) ∧ (t.f2.Pairwise fun x y => bef x.f0 y.f0) ∧ ∀ (b c : Int) (s : ByteArray), cntT b c (some t) s = cntT b c (gget (fun t : Tn => t.f0) n ts) s := by
 subst ht
 unfold tenOf
 cases hg : gget (fun t : Tn => t.f0) n ts with
 | none =>
  refine ⟨⟨Nat.zero_le _, Nat.zero_le _, fun m hm => by cases hm⟩, List.Pairwise.nil, fun b c s => ?_⟩
  unfold cntT
  show (if _ then _ else _) = if _ then _ else _
  by_cases h0 : s.toList = []
  ·rw [if_pos h0, if_pos h0]; rfl
  ·rw [if_neg h0, if_neg h0]; rfl
 | some x =>
  have hm := (gget_some hg).1
  have hx := hs.2 x hm
  exact ⟨⟨hx.n2, hx.n3, hx.z3⟩, ((good_of h hs).all x hm).m2, fun _ _ _ => rfl⟩
set_option maxHeartbeats 8000000 in
set_option maxRecDepth 100000 in
theorem scnt_c (w : World) (a b c d e f now : Int) (A : Option Addr) (cp : Nat) (ts : List Tn) (n s : ByteArray) (hr : Kd.C k87 w A ts.length ts) (hc : ts.length ≤ cp) (hS : ts.length ≤ 1048576 ∧ ∀ t ∈ ts, Sm t) (hs : s.size ≤ 1048576) :
  Calls Tryz.prog 18 #[.agg #[.int .i64 a, .int .i64 b, .int .i64 c, .int .i64 d, .int .i64 e, .int .i64 f], .agg #[.int .i64 now, .slice A ts.length cp], .string n, .string s] w fun x w' => x = .returned (.tuple #[.int .i64 (cntP b c (stB a b c d e f now ts) ts n s).1, .int .i64 (cntP b c (stB a b c d e f now ts) ts n s).2]) ∧ Below w.heap.size w w' := by
 have hu6 := Tryz.underlying29
 have hu7 := Tryz.underlying33
 obtain ⟨R, hR⟩ : ∃ R, R = cntP b c (stB a b c d e f now ts) ts n s := ⟨_, rfl⟩
 rw [← hR]
 obtain ⟨s1, h1⟩ : ∃ q, stB a b c d e f now ts = q := ⟨_, rfl⟩
 obtain ⟨s2, h2⟩ : ∃ q, TenN.ok n = q := ⟨_, rfl⟩
 obtain ⟨s3, h3⟩ : ∃ q, decide (s.toList = []) = q := ⟨_, rfl⟩
 obtain ⟨s4, h4⟩ : ∃ q, metB s = q := ⟨_, rfl⟩
 have e3 : (s.toList == ([] : List UInt8)) = s3 := by rw [← h3]; exact Bool.eq_iff_iff.2 (by simp)
 have HP : Aside0 (R = if (s1 && (s2 && (s3 || s4))) = true then cntT b c (gget (fun t : Tn => t.f0) n ts) s else (-1, -1)) := ⟨by rw [hR]; unfold cntP; rw [h1, h2, h3, h4]⟩
 have hst : spec_StateOK.f a b c d e f now ts = some s1 := by rw [← h1]; exact if_pos hS
 have HH := Aside0.mk (And.intro hst (And.intro h1 (And.intro h2 h4)))
 have HR := Aside0.mk (And.intro hr hc)
 have HS := Aside0.mk hS
 have HN := Aside0.mk hs
 obtain ⟨L, hL⟩ : ∃ L, L = [(w.heap.size + 1, cS now A ts.length cp), (w.heap.size, cC a b c d e f)] := ⟨_, rfl⟩
 have K0 : Aside0 (Kp w ((w.alloc (cC a b c d e f)).alloc (cS now A ts.length cp)) L) := ⟨hL ▸ St.two w (cC a b c d e f) (cS now A ts.length cp)⟩
 have hm0 : (w.heap.size + 1, cS now A ts.length cp) ∈ L ∧ (w.heap.size, cC a b c d e f) ∈ L := by rw [hL]; simp
 replace hm0 := Aside0.mk hm0
 clear hr hc hS hs h1 h2 h3 h4 hst hR hL
 go_enter Tryz.func18, Tryz.ntmps18
 cases s1
 case' true => cases s2
 case' true.true => cases s3
 case' true.true.false => cases s4
 all_goals
  go_upto_region 3 with (first
   | (go_at_call 13; refine (spec_StateOK.calls a b c d e f now A cp ts _ _ (Kd.C_below HR.out.1 K0.out.bel) HR.out.2 HH.out.1).mono ?_; rintro x w1 ⟨rfl, hB⟩; have K := Aside0.mk (K0.out.step hB); clear K0 hB)
   | (go_at_call 49; refine (ten_c n _).mono ?_; rintro x w2 ⟨bb, rfl, hb, hB⟩; obtain rfl := hb.symm.trans HH.out.2.2.1; have K2 := Aside0.mk (K.out.step (below_drawn0 hB)); clear K hB hb; have K := K2; clear K2)
   | (go_at_call 51; refine (met_c s HN.out _).mono ?_; rintro x w3 ⟨bb, rfl, hb, hB⟩; obtain rfl := hb.symm.trans HH.out.2.2.2; have K2 := Aside0.mk (K.out.step hB); clear K hB hb; have K := K2; clear K2))
 all_goals try (go_ret2; exact ⟨by rw [HP.out]; rfl, K.out.bel⟩)
 all_goals
  rename World => wz
  have HT := ten_ok HH.out.2.1 HS.out n rfl
  have HC : Aside0 (R = cntT b c (some (tenOf n ts)) s) := ⟨HP.out.trans ((if_pos rfl).trans (HT.2.2 b c s).symm)⟩
  replace HT := Aside0.mk HT
  have K2 := Aside0.mk K.out.drew
  clear K HP HH
  have KK := K2
  clear K2
  refine start_ (n := 10) (S := fun w' => (w'.cell? ⟨w.heap.size, 0, none⟩ = some (.int .i64 a) ∧ w'.cell? ⟨w.heap.size, 1, none⟩ = some (.int .i64 b) ∧ w'.cell? ⟨w.heap.size, 2, none⟩ = some (.int .i64 c) ∧ w'.cell? ⟨w.heap.size, 3, none⟩ = some (.int .i64 d) ∧ w'.cell? ⟨w.heap.size, 4, none⟩ = some (.int .i64 e) ∧ w'.cell? ⟨w.heap.size, 5, none⟩ = some (.int .i64 f)) ∧ w'.cell? ⟨w.heap.size + 1, 0, none⟩ = some (.int .i64 now) ∧ w'.cell? ⟨w.heap.size + 1, 1, none⟩ = some (.slice A ts.length cp)) (ds := []) #[false, false, false, false, false, false, false, false, false, false] (by kernel_rfl) rfl rfl ⟨c6 (KK.out.has _ hm0.out.2), c2 (KK.out.has _ hm0.out.1)⟩ (fun hHeld => ?_)
  generalize wz.drew = wy at KK hHeld ⊢
  refine tk_ 0 (some 28) (hy := by rintro w' ⟨⟨z0, z1, z2, z3, z4, z5⟩, y0, y1⟩; go_simp; with_reducible rfl) (hS := hHeld) (h := ?_)
  refine tk_ 1 (some 29) (hy := by rintro w' ⟨⟨z0, z1, z2, z3, z4, z5⟩, y0, y1⟩; go_simp; with_reducible rfl) (hS := hHeld) (h := ?_)
  refine pu_ 2 (some 30) (h := ?_)
  refine pu_ 4 (some 32) (h := ?_)
  refine on_ 3 (some 31) (h := fun K hK => ?_)
  refine goes_ Tryz.func61 (by kernel_rfl) rfl #[.agg #[.int .i64 now, .slice A ts.length cp], .string n] (by rfl) rfl rfl (by simp only [List.map_toArray, List.map_cons, List.map_nil]; rfl) ?_
  refine (lten_c _ now A cp ts n (Kd.C_below HR.out.1 KK.out.bel) HR.out.2 HS.out.1).mono ?_
  rintro x w4 ⟨t, A2, p2, A3, p3, rfl, ht, i2, l2, i3, l3, hb⟩
  refine ⟨_, rfl, ?_⟩
  have K2 := Aside0.mk (KK.out.step hb)
  have HI := Aside0.mk (And.intro i2 (And.intro l2 (And.intro i3 l3)))
  subst ht
  clear KK hb i2 l2 i3 l3
  have KK := K2
  clear K2
  refine hK.out _ _ ⟨c6 (KK.out.has _ hm0.out.2), c2 (KK.out.has _ hm0.out.1)⟩ (fun hHeld => ?_)
  clear hK K
  refine nm_ (some 31) _ (h := ?_)
  refine on_ 5 (some 33) (h := fun K hK => ?_)
  refine goes_ Tryz.func60 (by kernel_rfl) rfl #[.agg #[.int .i64 a, .int .i64 b, .int .i64 c, .int .i64 d, .int .i64 e, .int .i64 f], .agg #[.string (tenOf n ts).f0, .int .i64 (tenOf n ts).f1, .slice A2 (tenOf n ts).f2.length p2, .slice A3 (tenOf n ts).f3.length p3], .string s] (by rfl) rfl rfl (by simp only [List.map_toArray, List.map_cons, List.map_nil]; rfl) ?_
  refine (lcnt_c _ a b c d e f (tenOf n ts) s A2 p2 A3 p3 HI.out.1 HI.out.2.1 HI.out.2.2.1 HI.out.2.2.2 HT.out.1 HT.out.2.1).mono ?_
  rintro x w5 ⟨rfl, hb⟩
  refine ⟨_, rfl, ?_⟩
  rw [← HC.out]
  have K2 := Aside0.mk (KK.out.step hb)
  clear KK hb HI
  have KK := K2
  clear K2
  refine hK.out _ _ ⟨c6 (KK.out.has _ hm0.out.2), c2 (KK.out.has _ hm0.out.1)⟩ (fun hHeld => ?_)
  clear hK K
  refine nm_ (some 33) _ (h := ?_)
  refine pu_ 6 (some 34) (h := ?_)
  refine pu_ 7 (some 35) (h := ?_)
  refine pu_ 8 (some 8) (h := ?_)
  refine pu_ 9 (some 9) (h := ?_)
  refine done_ (by kernel_rfl) ?_
  go_wp2
  go_ret2
  exact ⟨rfl, KK.out.bel⟩
end Go.Proofs.YtikbfjnbhogihaaGreatDoor.Bk
namespace Go.Proofs.YtikbfjnbhogihaaGreatDoor.M
open Go.RowKit Go.Proofs.YtikbfjnbhogihaaGreatDoorW.PrintWords Go.Proofs.YtikbfjnbhogihaaGreatDoorW.PrintLast Go.Proofs.YtikbfjnbhogihaaGreatDoorW.PrintMore
noncomputable def spec_CountOf.f (a b c d e f now : Int) (ts : List S87) (n s : ByteArray) : Option (Int × Int) := @ite _ ((ts.length ≤ 1048576 ∧ ∀ t ∈ ts, StOK.Sm t) ∧ n.size ≤ 1048576 ∧ s.size ≤ 1048576) (Classical.propDecidable _) (some (Bk.cntP b c (StOK.stB a b c d e f now ts) ts n s)) none
noncomputable def impl_CountOf.f (a b c d e f now : Int) (ts : List S87) (n s : ByteArray) : Option (Int × Int) := spec_CountOf.f a b c d e f now ts n s
theorem CntOf.some_ {a b c d e f now : Int} {ts : List S87} {n s : ByteArray} {r : Int × Int} (h : spec_CountOf.f a b c d e f now ts n s = some r) : ((ts.length ≤ 1048576 ∧ ∀ t ∈ ts, StOK.Sm t) ∧ n.size ≤ 1048576 ∧ s.size ≤ 1048576) ∧ Bk.cntP b c (StOK.stB a b c d e f now ts) ts n s = r := by
 unfold spec_CountOf.f at h
 by_cases hs : (ts.length ≤ 1048576 ∧ ∀ t ∈ ts, StOK.Sm t) ∧ n.size ≤ 1048576 ∧ s.size ≤ 1048576
 ·rw [if_pos hs] at h; exact ⟨hs, Option.some.inj h⟩
 ·rw [if_neg hs] at h; cases h
theorem spec_CountOf.calls (a b c d e f now : Int) (A : Option Addr) (cp : Nat) (ts : List S87) (n s : ByteArray) (r1 : Int) (r2 : Int) (w : World) (hr : Kd.C k87 w A ts.length ts) (hc : ts.length ≤ cp) (h : spec_CountOf.f a b c d e f now ts n s = some (r1, r2)) :
  Calls Tryz.prog 18 #[.agg #[.int .i64 a, .int .i64 b, .int .i64 c, .int .i64 d, .int .i64 e, .int .i64 f], .agg #[.int .i64 now, .slice A ts.length cp], .string n, .string s] w fun e w' => e = .returned (.tuple #[.int .i64 r1, .int .i64 r2]) ∧ Below w.heap.size w w' := by
 obtain ⟨hs, h2⟩ := CntOf.some_ h
 have := Bk.scnt_c w a b c d e f now A cp ts n s hr hc hs.1 hs.2.2
 rw [h2] at this
 exact this
theorem impl_CountOf.calls (a b c d e f now : Int) (A : Option Addr) (cp : Nat) (ts : List S87) (n s : ByteArray) (r1 : Int) (r2 : Int) (w : World) (hr : Kd.C k87 w A ts.length ts) (hc : ts.length ≤ cp) (h : impl_CountOf.f a b c d e f now ts n s = some (r1, r2)) (hT : Tabs w) :
  Calls Tryz.prog 19 #[.agg #[.int .i64 a, .int .i64 b, .int .i64 c, .int .i64 d, .int .i64 e, .int .i64 f], .agg #[.int .i64 now, .slice A ts.length cp], .string n, .string s] w fun e w' => e = .returned (.tuple #[.int .i64 r1, .int .i64 r2]) ∧ Below w.heap.size w w' := by
 obtain ⟨hs, h2⟩ := CntOf.some_ h
 have := Bk.cnt_c w a b c d e f now A cp ts n s hr hc hT hs.1 hs.2.1 hs.2.2
 rw [h2] at this
 exact this
end Go.Proofs.YtikbfjnbhogihaaGreatDoor.M
