import Derived.Test.YtikbfjnbhogihaaGreatDoorShL
import Derived.Test.YtikbfjnbhogihaaGreatDoorCanSort
import Derived.Test.YtikbfjnbhogihaaGreatDoorSShelf
/- spec.Shards: walked by hand. -/
namespace Go.Proofs.YtikbfjnbhogihaaGreatDoor.Shd
open Go.RowKit Go.Proofs.YtikbfjnbhogihaaGreatDoor.M Go.Proofs.YtikbfjnbhogihaaGreatDoor.Loops Go.Proofs.YtikbfjnbhogihaaGreatDoor.StOK Go.Proofs.YtikbfjnbhogihaaGreatDoorW.PrintWords Go.Proofs.YtikbfjnbhogihaaGreatDoorW.PrintLast Go.Proofs.YtikbfjnbhogihaaGreatDoorW.PrintMore
open Bk (c2 c4 c6 cC cS tenOf lten_c pu_ tk_ on_ la_ nm_ va_ sk_)
set_option linter.unusedVariables false
set_option linter.unusedSimpArgs false
theorem kp_after {w W w1 : World} {L : List (Nat × Obj)} {v : Value} (h : Kp w W L) (hb : Below w.heap.size w w1) (hg : W.grownBy w1 v.ownBlock) (hn : ∀ p ∈ L, v.ownBlock ≠ some p.1) : Kp w w1 L := ⟨hb, fun p hp => (hg.block p.1 (blk_lt (h.has p hp)) (fun e => hn p hp e.symm)).trans (h.has p hp)⟩
theorem kp_after2 {w W w1 : World} {g1 g2 : Nat} {o1 o2 : Obj} {v : Value} (h : Kp w W [(g1, o1), (g2, o2)]) (hb : Below w.heap.size w w1) (hg : W.grownBy w1 v.ownBlock) (h1 : some g1 ≠ v.ownBlock) (h2 : some g2 ≠ v.ownBlock) : Kp w w1 [(g1, o1), (g2, o2)] := kp_after h hb hg fun p hp => by
 simp only [List.mem_cons, List.not_mem_nil, or_false] at hp
 rcases hp with rfl | rfl
 ·exact fun e => h1 e.symm
 ·exact fun e => h2 e.symm
noncomputable def upl (D : Int) (e : Int) (q : List Sr) (i : Nat) : List (List ByteArray) := (List.range i).map fun j : Nat => lst D e q (j : Int)
theorem upl_len (D e : Int) (q : List Sr) (i : Nat) : (upl D e q i).length = i := by simp [upl]
set_option maxHeartbeats 8000000 in
set_option maxRecDepth 100000 in
theorem sshards_c (w : World) (a b c d e f now : Int) (A : Option Addr) (cp : Nat) (ts : List Tn) (n : ByteArray) (hr : Kd.C k87 w A ts.length ts) (hc : ts.length ≤ cp) (hS : ts.length ≤ 1048576 ∧ ∀ t ∈ ts, Sm t) :
  Calls Tryz.prog 20 #[.agg #[.int .i64 a, .int .i64 b, .int .i64 c, .int .i64 d, .int .i64 e, .int .i64 f], .agg #[.int .i64 now, .slice A ts.length cp], .string n] w fun x w' => ∃ v : Value, x = .returned v ∧ Kd.S (Kd.slice 9 Kd.string) 117 w' w.heap.size (fun _ => True) v (shR a b c d e f now ts n) ∧ Below w.heap.size w w' := by
 have hu6 := Tryz.underlying29
 have hu7 := Tryz.underlying33
 have hu8 := Tryz.underlying87
 have hu9 := Tryz.underlying93
 have hfd : ∀ (a : ByteArray) (n : Int) (u v : Value) (W : World), Sem.run Tryz.prog (Instr.field 87 (.agg #[.string a, .int .i64 n, u, v]) 3) W = .ok v W := by intro a n u v W; kernel_rfl
 obtain ⟨R, hR⟩ : ∃ R, R = shR a b c d e f now ts n := ⟨_, rfl⟩
 rw [← hR]
 obtain ⟨s1, h1⟩ : ∃ q, stB a b c d e f now ts = q := ⟨_, rfl⟩
 obtain ⟨s2, h2⟩ : ∃ q, TenN.ok n = q := ⟨_, rfl⟩
 have HP : Aside0 (R = if (s1 && s2) = true then lsts d e (serOf n ts) else []) := ⟨by rw [hR]; unfold shR; rw [h1, h2]⟩
 have hst : spec_StateOK.f a b c d e f now ts = some s1 := by rw [← h1]; exact if_pos hS
 have HD : Aside0 (s1 = true → (1 ≤ d ∧ d ≤ 64) ∧ (serOf n ts).length ≤ 1048576 ∧ ∀ x ∈ serOf n ts, x.f0.size ≤ 1048576) := ⟨fun h => by
  have := facts (h1.trans h) hS n
  exact ⟨this.1, this.2.2.2⟩⟩
 have HH0 := Aside0.mk (And.intro hst h2)
 have HR := Aside0.mk (And.intro hr hc)
 have HS := Aside0.mk hS
 have K0 : Aside0 (Kp w ((w.alloc (cC a b c d e f)).alloc (cS now A ts.length cp)) [(w.heap.size + 1, cS now A ts.length cp), (w.heap.size, cC a b c d e f)]) := ⟨St.two w (cC a b c d e f) (cS now A ts.length cp)⟩
 clear hr hc hS h1 h2 hst hR
 go_enter Tryz.func20, Tryz.ntmps20
 cases s1
 case' true => cases s2
 all_goals
  go_wp2_with (first
   | ((with_reducible refine gate_dst (N := 13) rfl ?_); refine Kd.S_lit (Kd.slice 9 Kd.string) (w0 := w) w.heap.size 117 ?hg (N := 13) ?hd (xs := ([] : List (List ByteArray))) (inner := []) (ok := fun _ => True) (okp := fun _ => False) ?hr ?hp (fun _ hk => hk.elim) trivial K0.out.bel K0.out.bel.size (by simp) ?_; (case hd => rfl); (case hg => rfl); (case hr => first | (go_simp; done) | (go_simp; rfl)); (case hp => exact (Reps.none _ _)); intro v0 w1 ho hb hg hn; have HS7 := Aside0.mk ho; have KK := Aside0.mk (K0.out.step ⟨hg.os, hg.tape, hg.output, hg.size, fun i hi => hg.block i hi (by simp)⟩); obtain ⟨z0, z1, z2, z3, z4, z5⟩ := c6 KK.out.tl.fst; obtain ⟨y0, y1⟩ := c2 KK.out.fst; clear ho hb hg hn K0)
   | (go_at_call 13; refine (spec_StateOK.calls a b c d e f now A cp ts _ _ (Kd.C_below HR.out.1 KK.out.bel) HR.out.2 HH0.out.1).mono ?_; rintro x w2 ⟨rfl, hB⟩; have K2 := Aside0.mk (KK.out.step hB); have HS2 := Aside0.mk (Kd.S_below HS7.out hB); clear KK HS7 hB z0 z1 z2 z3 z4 z5 y0 y1; have KK := K2; have HS7 := HS2; clear K2 HS2)
   | (go_at_call 49; refine (ten_c n _).mono ?_; rintro x w3 ⟨bb, rfl, hb, hB⟩; obtain rfl := hb.symm.trans HH0.out.2; have K2 := Aside0.mk (KK.out.step (below_drawn0 hB)); have HS2 := Aside0.mk (Kd.S_below HS7.out (below_drawn0 hB)); clear KK HS7 hB hb; have KK := K2; have HS7 := HS2; clear K2 HS2))
 all_goals try (go_ret; exact ⟨_, rfl, by rw [HP.out]; exact HS7.out, KK.out.bel⟩)
 have HD1 := HD.out (by trivial)
 obtain ⟨D, rfl⟩ : ∃ D : Nat, d = (D : Int) := ⟨d.toNat, by omega⟩
 obtain ⟨q, hq⟩ : ∃ q, q = serOf n ts := ⟨_, rfl⟩
 rw [← hq] at HD1
 have HD2 := Aside0.mk HD1
 have HP2 : Aside0 (R = upl (D : Int) e q D) := ⟨by rw [HP.out, if_pos (show (true && true) = true from rfl), ← hq]; unfold lsts upl; rw [Int.toNat_natCast]⟩
 have HS8 : Aside0 (Kd.S (Kd.slice 9 Kd.string) 117 w3 w.heap.size (fun _ => True) v0 (upl (D : Int) e q 0)) := ⟨HS7.out⟩
 have hD : D ≤ 64 := by omega
 have HQ := Aside0.mk hq
 clear HP HD HD1 HH0 HS7 hq
 go_loopw [7, 8] (fun v7 v8 wr => ∃ (i : Nat) (u7 : Value), i ≤ D ∧ v7 = u7 ∧ v8 = .int .i64 i ∧ Aside0 (Kd.S (Kd.slice 9 Kd.string) 117 wr w.heap.size (fun _ => True) u7 (upl (D : Int) e q i)) ∧ Aside0 (Kp w wr [(w.heap.size + 1, cS now A ts.length cp), (w.heap.size, cC a b c (D : Int) e f)])) (fun v7 v8 wr => D - (intOf v8).toNat)
 case atStart => exact ⟨0, _, Nat.zero_le _, rfl, rfl, HS8, KK⟩
 case round =>
  rename World => wo
  clear HS8 KK
  obtain ⟨i, u7, hi, rfl, rfl, HS7, KK⟩ := hrel
  obtain ⟨z0, z1, z2, z3, z4, z5⟩ := c6 KK.out.tl.fst
  obtain ⟨y0, y1⟩ := c2 KK.out.fst
  rcases Nat.lt_or_ge i D with hiD | hiD
  ·have HSb : Aside0 (Kd.S (Kd.slice 9 Kd.string) 117 wo w.heap.size (fun k => k < wo.heap.size) u7 (upl (D : Int) e q i)) := ⟨Kd.S_mono (Kd.S_bound HS7.out) (fun k hk => hk.2.2.1)⟩
   clear HS7
   have HS7 := HSb
   clear HSb
   have HWo := Aside0.mk KK.out.bel.size
   go_wp2_with (first
    | ((with_reducible refine gate_dst (N := 30) rfl ?_); refine Kd.R_lit Kd.string (w0 := wo) wo.heap.size 9 ?hg (N := 30) ?hd (xs := ([] : List ByteArray)) (inner := []) (ok := fun _ => True) (okp := fun _ => True) ?hr ?hp (fun _ hk => hk) trivial (Below.refl _ _) (Nat.le_refl _) (by simp) ?_; (case hd => rfl); (case hg => rfl); (case hr => first | (go_simp; done) | (go_simp; rfl)); (case hp => exact (Reps.none _ _)); intro v9 w1 ho hb hg hn; have HR9 := Aside0.mk (Kd.R_lower (Kd.R_mono (ok' := fun k => wo.heap.size ≤ k) (Kd.R_bound ho) (fun k hk => hk.2.1)) HWo.out); have HSz := Aside0.mk hb.size; have n1 := Aside0.mk (KK.out.step hb); have n3 := Aside0.mk (Kd.S_below HS7.out hb); clear ho hb hg hn KK HS7 z0 z1 z2 z3 z4 z5 y0 y1; have KK := n1; have HS7 := n3; clear n1 n3; obtain ⟨y0, y1⟩ := c2 KK.out.fst)
    | (go_at_call 61; refine (lten_c w _ now A cp ts n HR.out.1 KK.out.bel HR.out.2 HS.out.1).mono ?_; rintro x w2 ⟨t, A2, p2, A3, p3, rfl, ht, i2, l2, i3, l3, hd⟩; have h4 := (congrArg (fun t : Tn => t.f3) ht).trans ((ser_ten n ts).trans HQ.out.symm); clear ht; obtain ⟨t0, t1, t2, t3⟩ := t; replace h4 : q = t3 := h4.symm; subst h4; dsimp only at i3 l3 ⊢; have HI := Aside0.mk (And.intro i3 l3); have n1 := Aside0.mk (KK.out.step hd); have n2 := Aside0.mk (Kd.R_below HR9.out hd); have n3 := Aside0.mk (Kd.S_below HS7.out hd); have hd2 := hd.size; clear KK HR9 HS7 hd y0 y1 i2 l2 i3 l3; have KK := n1; have HR9 := n2; have HS7 := n3; have n4 := Aside0.mk (Nat.le_trans HSz.out hd2); clear HSz; have HSz := n4; clear n1 n2 n3 n4 hd2))
   have hql := HD2.out.2.1
   go_loopw [9, 36] (fun v9 v36 wr => ∃ (j : Nat) (u9 : Value), j ≤ q.length ∧ v9 = u9 ∧ v36 = .int .i64 j ∧ Aside0 (wo.heap.size ≤ wr.heap.size) ∧ Aside0 (Kd.R Kd.string 9 wr w.heap.size (fun k => wo.heap.size ≤ k) u9 (lst (D : Int) e (q.take j) i)) ∧ Aside0 (Kd.S (Kd.slice 9 Kd.string) 117 wr w.heap.size (fun k => k < wo.heap.size) u7 (upl (D : Int) e q i)) ∧ Aside0 (Kp w wr [(w.heap.size + 1, cS now A ts.length cp), (w.heap.size, cC a b c (D : Int) e f)])) (fun v9 v36 wr => q.length - (intOf v36).toNat)
   case atStart => exact ⟨0, _, Nat.zero_le _, rfl, rfl, HSz, HR9, HS7, KK⟩
   case round =>
    rename World => wp
    clear HR9 HS7 KK HSz
    obtain ⟨j, u9, hj, rfl, rfl, HSz, HR9, HS7, KK⟩ := hrel
    rcases Nat.lt_or_ge j q.length with hjl | hjl
    ·obtain ⟨ad, eA, x0, x1⟩ := at_T93 HI.out.1 (j : Int) (by omega) (by omega)
     subst eA
     obtain ⟨m, em⟩ : ∃ m, rd_T93 q (j : Int) = m := ⟨_, rfl⟩
     have em2 := Aside0.mk (show q.getD j z93 = m from em)
     rw [em] at x0 x1
     simp only [Int.toNat_natCast] at x0 x1
     replace x0 := (KK.out.bel.cell (World.block_lt_of_cell? w _ x0)).trans x0
     replace x1 := (KK.out.bel.cell (World.block_lt_of_cell? w _ x1)).trans x1
     have hz := HD2.out.2.2 m (em2.out ▸ getD_mem q z93 j hjl)
     obtain ⟨hh0, ⟨kh, hh1⟩, _⟩ := hsh_is m.f0 hz
     obtain ⟨g, hg⟩ : ∃ g, shd (D : Int) e m.f0 = g := ⟨_, rfl⟩
     have HH : Aside0 (spec_Hash64.f kh m.f0 = some (hsh m.f0) ∧ ((e == 0) = true → spec_l4Unsigned.f (hsh m.f0) (D : Int) = some g) ∧ ((e == 0) = false → (e == 2) = true → Int.tmod (m.f0.size : Int) (D : Int) = g) ∧ ((e == 0) = false → (e == 2) = false → g = 0)) := ⟨by
      refine ⟨hh1 kh (Nat.le_refl _), fun h => ?_, fun h h2 => ?_, fun h h2 => ?_⟩ <;> unfold shd at hg
      ·rw [if_pos (beq_iff_eq.1 h)] at hg
       rw [← hg]
       exact (uns (hsh m.f0) (D : Int) hh0 HD2.out.1).1
      ·rw [if_neg (beq_eq_false_iff_ne.1 h), if_pos (beq_iff_eq.1 h2)] at hg
       rw [← hg]
       exact Int.tmod_eq_emod_of_nonneg (Int.natCast_nonneg _)
      ·rw [if_neg (beq_eq_false_iff_ne.1 h), if_neg (beq_eq_false_iff_ne.1 h2)] at hg
       exact hg.symm⟩
     have hnz : ¬ ((D : Int) = 0) := by have := HD2.out.1.1; omega
     have HTk := Aside0.mk (show lst (D : Int) e (q.take (j + 1)) i = if shd (D : Int) e m.f0 = (i : Int) then lst (D : Int) e (q.take j) i ++ [m.f0] else lst (D : Int) e (q.take j) i by rw [take_at q z93 j hjl, em2.out, lst_snoc])
     rw [hg] at HTk
     obtain ⟨q0, hq0⟩ : ∃ b, (e == 0) = b := ⟨_, rfl⟩
     obtain ⟨q2, hq2⟩ : ∃ b, (e == 2) = b := ⟨_, rfl⟩
     obtain ⟨q3, hq3⟩ : ∃ b, (g == (i : Int)) = b := ⟨_, rfl⟩
     have HQ0 := Aside0.mk (And.intro hq0 hq2)
     have HQ3 := Aside0.mk hq3
     obtain ⟨W1, hW1⟩ : ∃ W, wp.alloc (.cells #[.string m.f0, .int .i64 m.f1] 93) = W := ⟨_, rfl⟩
     have K1 : Aside0 (Kp w W1 [(wp.heap.size, .cells #[.string m.f0, .int .i64 m.f1] 93), (w.heap.size + 1, cS now A ts.length cp), (w.heap.size, cC a b c (D : Int) e f)]) := ⟨by rw [← hW1]; exact KK.out.new _⟩
     have HR9n : Aside0 (Kd.R Kd.string 9 W1 w.heap.size (fun k => wo.heap.size ≤ k) u9 (lst (D : Int) e (q.take j) i)) := ⟨by rw [← hW1]; exact Kd.R_alloc HR9.out _⟩
     have HS7n : Aside0 (Kd.S (Kd.slice 9 Kd.string) 117 W1 w.heap.size (fun k => k < wo.heap.size) u7 (upl (D : Int) e q i)) := ⟨by rw [← hW1]; exact Kd.S_alloc HS7.out _⟩
     have HSy : Aside0 (wo.heap.size ≤ W1.heap.size) := ⟨Nat.le_trans HSz.out (by rw [← hW1, World.size_alloc]; exact Nat.le_succ _)⟩
     have b0 := (c2 K1.out.fst).1
     have z4 := (c6 K1.out.tl.tl.fst).2.2.2.2.1
     have z3 := (c6 K1.out.tl.tl.fst).2.2.2.1
     clear hh0 hh1 em hg KK HR9 HS7 HSz
     have HSz := HSy
     clear HSy
     have KK := K1
     have HR9 := HR9n
     have HS7 := HS7n
     clear K1 HR9n HS7n
     cases q0
     case' true =>
      have HU := Aside0.mk (HH.out.2.1 HQ0.out.1)
      go_upto_region 14 with fail
      clear b0 z3 z4 hW1
      have n1 := Aside0.mk KK.out.drew
      have n2 := Aside0.mk (Kd.R_drew HR9.out)
      have n3 := Aside0.mk (Kd.S_drew HS7.out)
      have n4 : Aside0 (wo.heap.size ≤ W1.drew.heap.size) := ⟨HSz.out⟩
      clear KK HR9 HS7 HSz
      have KK := n1
      have HR9 := n2
      have HS7 := n3
      have HSz := n4
      clear n1 n2 n3 n4
      refine start_ (n := 7) (S := fun w' => (w'.cell? ⟨w.heap.size, 0, none⟩ = some (.int .i64 a) ∧ w'.cell? ⟨w.heap.size, 1, none⟩ = some (.int .i64 b) ∧ w'.cell? ⟨w.heap.size, 2, none⟩ = some (.int .i64 c) ∧ w'.cell? ⟨w.heap.size, 3, none⟩ = some (.int .i64 (D : Int)) ∧ w'.cell? ⟨w.heap.size, 4, none⟩ = some (.int .i64 e) ∧ w'.cell? ⟨w.heap.size, 5, none⟩ = some (.int .i64 f)) ∧ w'.cell? ⟨wp.heap.size, 0, none⟩ = some (.string m.f0) ∧ w'.cell? ⟨wp.heap.size, 1, none⟩ = some (.int .i64 m.f1)) (ds := []) #[false, false, false, false, false, false, false] (by kernel_rfl) rfl rfl ⟨c6 KK.out.tl.tl.fst, c2 KK.out.fst⟩ (fun hHeld => ?_)
      generalize W1.drew = wb at KK HR9 HS7 HSz hHeld ⊢
      refine pu_ 0 (some 44) (h := ?_)
      refine tk_ 1 (some 45) (hy := by rintro w' ⟨⟨z0, z1, z2, z3, z4, z5⟩, y0, y1⟩; go_simp; with_reducible rfl) (hS := hHeld) (h := ?_)
      refine pu_ 3 (some 47) (h := ?_)
      refine tk_ 4 (some 48) (hy := by rintro w' ⟨⟨z0, z1, z2, z3, z4, z5⟩, y0, y1⟩; go_simp; with_reducible rfl) (hS := hHeld) (h := ?_)
      refine on_ 2 (some 46) (h := fun K hK => ?_)
      refine goes_ Tryz.func68 (by kernel_rfl) rfl #[.string m.f0] (by rfl) rfl rfl (by simp only [List.map_toArray, List.map_cons, List.map_nil]; rfl) ?_
      refine (spec_Hash64.calls kh m.f0 (hsh m.f0) _ HH.out.1).mono ?_
      rintro x_ w_ ⟨rfl, hd⟩
      refine ⟨_, rfl, ?_⟩
      have n1 := Aside0.mk (KK.out.step hd.below)
      have n2 := Aside0.mk (Kd.R_below HR9.out hd.below)
      have n3 := Aside0.mk (Kd.S_below HS7.out hd.below)
      have n4 := Aside0.mk (Nat.le_trans HSz.out hd.below.size)
      clear KK HR9 HS7 HSz hd
      have KK := n1
      have HR9 := n2
      have HS7 := n3
      have HSz := n4
      clear n1 n2 n3 n4
      refine hK.out _ _ ⟨c6 KK.out.tl.tl.fst, c2 KK.out.fst⟩ (fun hHeld => ?_)
      clear hK K
      refine nm_ (some 46) _ (h := ?_)
      refine on_ 5 (some 49) (h := fun K hK => ?_)
      refine goes_ Tryz.func67 (by kernel_rfl) rfl #[.int .i64 (hsh m.f0), .int .i64 (D : Int)] (by rfl) rfl rfl (by simp only [List.map_toArray, List.map_cons, List.map_nil]; rfl) ?_
      refine (spec_l4Unsigned.calls (hsh m.f0) (D : Int) g _ HU.out).mono ?_
      rintro x_ w_ ⟨rfl, hd⟩
      refine ⟨_, rfl, ?_⟩
      have n1 := Aside0.mk (KK.out.step hd.below)
      have n2 := Aside0.mk (Kd.R_below HR9.out hd.below)
      have n3 := Aside0.mk (Kd.S_below HS7.out hd.below)
      have n4 := Aside0.mk (Nat.le_trans HSz.out hd.below.size)
      clear KK HR9 HS7 HSz hd
      have KK := n1
      have HR9 := n2
      have HS7 := n3
      have HSz := n4
      clear n1 n2 n3 n4
      refine hK.out _ _ ⟨c6 KK.out.tl.tl.fst, c2 KK.out.fst⟩ (fun hHeld => ?_)
      clear hK K
      refine nm_ (some 49) _ (h := ?_)
      refine pu_ 6 (some 12) (h := ?_)
      refine done_ (by kernel_rfl) ?_
      have b0 := (c2 KK.out.fst).1
     case' false => cases q2
     case' false.false => obtain rfl := HH.out.2.2.2 HQ0.out.1 HQ0.out.2
     case' false.true => have ht := HH.out.2.2.1 HQ0.out.1 HQ0.out.2
     all_goals
      cases q3
      case' false =>
       go_wp2
       go_roundw
       case rel => exact ⟨j + 1, _, hjl, rfl, rfl, HSz, ⟨by rw [HTk.out, if_neg (beq_eq_false_iff_ne.1 HQ3.out)]; exact HR9.out⟩, HS7, ⟨KK.out.tl⟩⟩
       case measure => exact Bk.dec1 _ j hjl (Nat.lt_of_lt_of_le hjl hql)
      case' true =>
       go_wp2_with ((with_reducible refine gate_dst (N := 65) rfl ?_); refine Kd.R_append Kd.string (w0 := w) w.heap.size rfl (.tmp 61) (.tmp 64) 117 9 (.string ⟨#[]⟩) 16 rfl Tryz.underlying117 info9 rfl (by decide) (by omega) u9 (lst (D : Int) e (q.take j) i) m.f0 [.string m.f0] (fun k => wo.heap.size ≤ k) (fun _ => False) rfl rfl rfl (fun _ hk => hk.elim) (fun k hk => Nat.le_trans HSz.out hk) HR9.out KK.out.bel KK.out.bel.size (by have := lst_len (D : Int) e (q.take j) (i : Int); have := List.length_take_le j q; omega) ?_; intro u10 w5 ho hb hg hat; have n1 : Aside0 (Kp w w5 [(w.heap.size + 1, cS now A ts.length cp), (w.heap.size, cC a b c (D : Int) e f)]) := ⟨kp_after2 KK.out.tl hb hg (Kd.R_ne HR9.out KK.out.tl.fst (by decide)) (Kd.R_ne HR9.out KK.out.tl.tl.fst (by decide))⟩; have n2 := Aside0.mk ho; have n3 := Aside0.mk (Kd.S_step HS7.out (fun k hk hlt => hg.block k hlt (fun e2 => by have := HR9.out.1 k e2.symm; omega))); have n4 := Aside0.mk (Nat.le_trans HSz.out hg.size); clear KK HR9 HS7 HSz ho hb hg hat)
       go_roundw
       case rel => exact ⟨j + 1, _, hjl, rfl, rfl, n4, ⟨by rw [HTk.out, if_pos (beq_iff_eq.1 HQ3.out)]; exact n2.out⟩, n3, n1⟩
       case measure => exact Bk.dec1 _ j hjl (Nat.lt_of_lt_of_le hjl hql)
    ·obtain rfl : j = q.length := by omega
     have HR9b : Aside0 (Kd.R Kd.string 9 wp w.heap.size (fun k => wo.heap.size ≤ k) u9 (lst (D : Int) e q i)) := ⟨by have := HR9.out; rwa [List.take_length] at this⟩
     clear HR9
     obtain ⟨A9, c9, rfl⟩ := Kd.R_slice HR9b.out
     go_wp2_with (first
      | ((with_reducible refine gate_dst (N := 70) rfl ?_); refine Kd.S_append (Kd.slice 9 Kd.string) (w0 := w) w.heap.size rfl (.tmp 67) (.tmp 69) 40 117 (.slice none 0 0) 24 rfl Tryz.underlying40 info117 rfl (by decide) (by omega) u7 (upl (D : Int) e q i) (lst (D : Int) e q i) [.slice A9 (lst (D : Int) e q i).length c9] (fun _ => True) (fun k => some k = (Value.slice A9 (lst (D : Int) e q i).length c9).ownBlock) rfl rfl (Kd.M_row (Kd.R_tight rfl HR9b.out)) (fun k hk => ⟨trivial, fun e => by have h1 := HR9b.out.1 k hk.symm; have h2 := (Kd.S_R HS7.out).1 k e.symm; omega⟩) (fun _ _ => trivial) (Kd.S_mono HS7.out (fun k hk => ⟨trivial, fun e => by have h1 := HR9b.out.1 k e.symm; omega⟩)) KK.out.bel KK.out.bel.size (by rw [upl_len]; omega) ?_; intro u1 w4 ho hb hg hat; have n1 := Aside0.mk (kp_after2 KK.out hb hg (Kd.S_ne HS7.out KK.out.fst (by decide)) (Kd.S_ne HS7.out KK.out.tl.fst (by decide))); have n2 := Aside0.mk ho; clear KK HS7 HR9b ho hb hg hat))
     go_roundw
     case rel => exact ⟨i + 1, _, hiD, rfl, rfl, ⟨by have := n2.out; rwa [show upl (D : Int) e q i ++ [lst (D : Int) e q i] = upl (D : Int) e q (i + 1) from range_snoc (D : Int) e q i] at this⟩, n1⟩
     case measure => exact Bk.dec1 _ i hiD (Nat.lt_of_lt_of_le hiD (Nat.le_trans hD (by decide)))
  ·obtain rfl : i = D := by omega
   go_wp2
   go_ret
   exact ⟨_, rfl, by rw [HP2.out]; exact HS7.out, KK.out.bel⟩
end Go.Proofs.YtikbfjnbhogihaaGreatDoor.Shd
/- impl.Shards: walked by hand. -/
namespace Go.Proofs.YtikbfjnbhogihaaGreatDoor.Shd
open Go.RowKit Go.Proofs.YtikbfjnbhogihaaGreatDoor.M Go.Proofs.YtikbfjnbhogihaaGreatDoor.Loops Go.Proofs.YtikbfjnbhogihaaGreatDoor.StOK Go.Proofs.YtikbfjnbhogihaaGreatDoorW.PrintWords Go.Proofs.YtikbfjnbhogihaaGreatDoorW.PrintLast Go.Proofs.YtikbfjnbhogihaaGreatDoorW.PrintMore
open Bk (c2 c4 c6 cC cS cT pu_ tk_ on_ la_ nm_ va_ sk_)
set_option linter.unusedVariables false
set_option linter.unusedSimpArgs false
theorem kp_after3 {w W w1 : World} {g1 g2 g3 : Nat} {o1 o2 o3 : Obj} {v : Value} (h : Kp w W [(g1, o1), (g2, o2), (g3, o3)]) (hb : Below w.heap.size w w1) (hg : W.grownBy w1 v.ownBlock) (h1 : some g1 ≠ v.ownBlock) (h2 : some g2 ≠ v.ownBlock) (h3 : some g3 ≠ v.ownBlock) : Kp w w1 [(g1, o1), (g2, o2), (g3, o3)] := kp_after h hb hg fun p hp => by
 simp only [List.mem_cons, List.not_mem_nil, or_false] at hp
 rcases hp with rfl | rfl | rfl
 ·exact fun e => h1 e.symm
 ·exact fun e => h2 e.symm
 ·exact fun e => h3 e.symm
theorem ser_ne {l : List Tn} {t : Tn} {n : ByteArray} (h : (t.f0.toList == n.toList) = false) : serOf n (l ++ [t]) = serOf n l := by
 unfold serOf
 rw [List.find?_append]
 simp [h]
theorem ser_eq {l : List Tn} {t : Tn} {n : ByteArray} (h : (t.f0.toList == n.toList) = true) (hn : ∀ x ∈ l, x.f0.toList ≠ t.f0.toList) : serOf n (l ++ [t]) = t.f3 ∧ serOf n l = [] := by
 have h0 : l.find? (fun t => t.f0.toList == n.toList) = none := List.find?_eq_none.2 fun x hx e => hn x hx ((eq_of_beq e).trans (eq_of_beq h).symm)
 unfold serOf
 rw [List.find?_append, h0]
 simp [h]
theorem lsts_at (d e : Int) (q : List Sr) (H : Nat) : ((lsts d e q).getD H []).length ≤ q.length := by
 unfold lsts
 rw [List.getD_eq_getElem?_getD, List.getElem?_map]
 cases (List.range d.toNat)[H]? with
 | none => exact Nat.zero_le _
 | some i => exact lst_len d e q (i : Int)
set_option maxHeartbeats 8000000 in
set_option maxRecDepth 100000 in
theorem ishards_c (w : World) (a b c d e f now : Int) (A : Option Addr) (cp : Nat) (ts : List Tn) (n : ByteArray) (hr : Kd.C k87 w A ts.length ts) (hc : ts.length ≤ cp) (hS : ts.length ≤ 1048576 ∧ ∀ t ∈ ts, Sm t) (hT : Tabs w) :
  Calls Tryz.prog 21 #[.agg #[.int .i64 a, .int .i64 b, .int .i64 c, .int .i64 d, .int .i64 e, .int .i64 f], .agg #[.int .i64 now, .slice A ts.length cp], .string n] w fun x w' => ∃ v : Value, x = .returned v ∧ Kd.S (Kd.slice 9 Kd.string) 117 w' w.heap.size (fun _ => True) v (shR a b c d e f now ts n) ∧ Below w.heap.size w w' := by
 have hu6 := Tryz.underlying29
 have hu7 := Tryz.underlying33
 have hu8 := Tryz.underlying87
 have hu9 := Tryz.underlying93
 obtain ⟨R, hR⟩ : ∃ R, R = shR a b c d e f now ts n := ⟨_, rfl⟩
 rw [← hR]
 obtain ⟨s1, h1⟩ : ∃ q, stB a b c d e f now ts = q := ⟨_, rfl⟩
 obtain ⟨s2, h2⟩ : ∃ q, TenN.ok n = q := ⟨_, rfl⟩
 have HP : Aside0 (R = if (s1 && s2) = true then lsts d e (serOf n ts) else []) := ⟨by rw [hR]; unfold shR; rw [h1, h2]⟩
 have hst : impl_StateOK.f a b c d e f now ts = some s1 := by rw [← h1]; exact if_pos hS
 have HD : Aside0 (s1 = true → (1 ≤ d ∧ d ≤ 64) ∧ (ts.Pairwise fun x y => x.f0.toList ≠ y.f0.toList) ∧ ∀ t ∈ ts, t.f3.length ≤ 1048576 ∧ ∀ x ∈ t.f3, x.f0.size ≤ 1048576) := ⟨fun h => by
  have := facts (h1.trans h) hS n
  exact ⟨this.1, this.2.1, this.2.2.1⟩⟩
 have HH0 := Aside0.mk (And.intro hst h2)
 have HR := Aside0.mk (And.intro hr hc)
 have HS := Aside0.mk hS
 have HT := Aside0.mk hT
 have K0 : Aside0 (Kp w ((w.alloc (cC a b c d e f)).alloc (cS now A ts.length cp)) [(w.heap.size + 1, cS now A ts.length cp), (w.heap.size, cC a b c d e f)]) := ⟨St.two w (cC a b c d e f) (cS now A ts.length cp)⟩
 clear hr hc hS h1 h2 hst hR hT
 go_enter Tryz.func21, Tryz.ntmps21
 cases s1
 case' true => cases s2
 case' true.true => have hd := (HD.out (by trivial)).1
 all_goals
  go_wp2_with (first
   | (go_at_call 16; refine (impl_StateOK.calls a b c d e f now A cp ts _ _ (Kd.C_below HR.out.1 K0.out.bel) HR.out.2 HH0.out.1 (HT.out.below K0.out.bel)).mono ?_; rintro x w2 ⟨rfl, hB⟩; have KK := Aside0.mk (K0.out.step hB); clear K0 hB)
   | (go_at_call 62; refine (impl_isTenant.calls n _ _ (congrArg some HH0.out.2)).mono ?_; rintro x w3 ⟨rfl, hB⟩; have K2 := Aside0.mk (KK.out.step hB); clear KK hB; have KK := K2; clear K2; obtain ⟨z0, z1, z2, z3, z4, z5⟩ := c6 KK.out.tl.fst; obtain ⟨y0, y1⟩ := c2 KK.out.fst)
   | ((with_reducible refine gate_dst (N := 24) rfl ?_); refine Kd.S_make (Kd.slice 9 Kd.string) (w0 := w) w.heap.size 117 rfl (N := 24) rfl 40 (.tmp 23) (.tmp 23) rfl d rfl rfl Tryz.underlying40 (.slice none 0 0) 24 info117 rfl (by decide) (by omega) ([] : List ByteArray) (ok := fun _ => True) (okp := fun _ => False) ⟨_, rfl, Kd.R_nil _ _ _ _ _⟩ (fun _ hk => hk.elim) trivial (by omega) (by omega) KK.out.bel KK.out.bel.size ?_; intro v w4 ho hb hg hn; have n1 := Aside0.mk (KK.out.step ⟨hg.os, hg.tape, hg.output, hg.size, fun i hi => hg.block i hi (by simp)⟩); obtain ⟨g, cap, hv, hgb, hgl, hgc⟩ := Kd.S_form ho (by simp; omega); rw [List.length_replicate] at hv; obtain ⟨N, hN⟩ : ∃ N : Nat, d.toNat = N := ⟨_, rfl⟩; rw [hN] at hv; subst hv; have hg2 : w.heap.size + 1 < g := (by obtain ⟨b, e1, e2⟩ := hn; have e3 := blk_lt KK.out.fst; have e4 : g = b := (by simpa [Value.ownBlock] using e1); omega); rw [← lsts_nil d e] at ho; have HS7 := Aside0.mk ho; clear KK ho hb hg hn z0 z1 z2 z3 z4 z5 y0 y1; have KK := n1; clear n1; obtain ⟨y0, y1⟩ := c2 KK.out.fst))
 all_goals try (go_ret; exact ⟨_, rfl, by rw [HP.out]; exact Kd.S_nil _ _ _ _ _, KK.out.bel⟩)
 have HG := Aside0.mk (And.intro hgb hg2)
 have HN := Aside0.mk hN
 have HD2 := Aside0.mk (HD.out (by trivial))
 have hn1 := HS.out.1
 have HSa : Aside0 (Kd.S (Kd.slice 9 Kd.string) 117 w4 w.heap.size (fun _ => True) (.slice (some ⟨g, 0, none⟩) N cap) (lsts d e (serOf n (ts.take 0)))) := ⟨HS7.out⟩
 clear y0 y1 HD HS7 hgb hgl hgc hN hg2
 go_loopw [28] (fun v28 wr => ∃ j : Nat, v28 = .int .i64 j ∧ j ≤ ts.length ∧ Aside0 (Kd.S (Kd.slice 9 Kd.string) 117 wr w.heap.size (fun _ => True) (.slice (some ⟨g, 0, none⟩) N cap) (lsts d e (serOf n (ts.take j)))) ∧ Aside0 (Kp w wr [(w.heap.size + 1, cS now A ts.length cp), (w.heap.size, cC a b c d e f)])) (fun v28 wr => ts.length - (intOf v28).toNat)
 case atStart => exact ⟨0, rfl, Nat.zero_le _, HSa, KK⟩
 case round =>
  rename World => wo
  clear HSa KK
  obtain ⟨j, rfl, hj, HS7, KK⟩ := hrel
  rcases Nat.lt_or_ge j ts.length with hjl | hjl
  ·obtain ⟨ad, A2, c2', A3, c3', rfl, x0, x1, x2, x3, l2, i2, l3, i3⟩ := at_T87 HR.out.1 (j : Int) (by omega) (by omega)
   obtain ⟨t, et⟩ : ∃ t, rd_T87 ts (j : Int) = t := ⟨_, rfl⟩
   have et2 := Aside0.mk (show ts.getD j z87 = t from et)
   rw [et] at x0 x1 x2 x3 l2 i2 l3 i3
   simp only [Int.toNat_natCast] at x0 x1 x2 x3
   replace x0 := (KK.out.bel.cell (World.block_lt_of_cell? w _ x0)).trans x0
   replace x1 := (KK.out.bel.cell (World.block_lt_of_cell? w _ x1)).trans x1
   replace x2 := (KK.out.bel.cell (World.block_lt_of_cell? w _ x2)).trans x2
   replace x3 := (KK.out.bel.cell (World.block_lt_of_cell? w _ x3)).trans x3
   have HI := Aside0.mk (And.intro i3 l3)
   have HTk := Aside0.mk (take_at ts z87 j hjl)
   rw [et2.out] at HTk
   have HQ := Aside0.mk (HD2.out.2.2 t (et2.out ▸ getD_mem ts z87 j hjl))
   obtain ⟨q, hq⟩ : ∃ q, (t.f0.toList == n.toList) = q := ⟨_, rfl⟩
   have HQn := Aside0.mk hq
   obtain ⟨W1, hW1⟩ : ∃ W, wo.alloc (cT t.f0 t.f1 (.slice A2 t.f2.length c2') (.slice A3 t.f3.length c3')) = W := ⟨_, rfl⟩
   have K1 : Aside0 (Kp w W1 [(wo.heap.size, cT t.f0 t.f1 (.slice A2 t.f2.length c2') (.slice A3 t.f3.length c3')), (w.heap.size + 1, cS now (some ad) ts.length cp), (w.heap.size, cC a b c d e f)]) := ⟨by rw [← hW1]; exact KK.out.new _⟩
   have HS7n : Aside0 (Kd.S (Kd.slice 9 Kd.string) 117 W1 w.heap.size (fun _ => True) (.slice (some ⟨g, 0, none⟩) N cap) (lsts d e (serOf n (ts.take j)))) := ⟨by rw [← hW1]; exact Kd.S_alloc HS7.out _⟩
   obtain ⟨b0, b1, b2, b3⟩ := c4 K1.out.fst
   clear et i2 l2 i3 l3 KK HS7
   have KK := K1
   have HS7 := HS7n
   clear K1 HS7n
   cases q
   case false =>
    go_wp2
    go_roundw
    case rel => exact ⟨j + 1, rfl, hjl, ⟨by rw [HTk.out, ser_ne HQn.out]; exact HS7.out⟩, ⟨KK.out.tl⟩⟩
    case measure => exact Bk.dec1 _ j hjl (Nat.lt_of_lt_of_le hjl hn1)
   case true =>
    have hse := ser_eq (l := ts.take j) HQn.out (fun x hx e2 => by
     obtain ⟨i, hi, rfl⟩ := List.getElem_of_mem hx
     rw [List.length_take] at hi
     rw [← et2.out, List.getElem_take, List.getD_eq_getElem?_getD, List.getElem?_eq_getElem hjl] at e2
     exact List.pairwise_iff_getElem.1 HD2.out.2.1 i j (by omega) hjl (by omega) e2)
    have HSE := Aside0.mk hse
    have HSb : Aside0 (Kd.S (Kd.slice 9 Kd.string) 117 W1 w.heap.size (fun _ => True) (.slice (some ⟨g, 0, none⟩) N cap) (lsts d e (t.f3.take 0))) := ⟨by have := HS7.out; rw [hse.2] at this; exact this⟩
    clear hse HS7
    go_wp2
    clear b0 b1 b2 b3 x0 x1 x2 x3 hW1
    have hql := HQ.out.1
    have K2 : Aside0 (Kp w W1 [(w.heap.size + 1, cS now (some ad) ts.length cp), (w.heap.size, cC a b c d e f)]) := ⟨KK.out.tl⟩
    clear KK
    go_loopw [39] (fun v39 wr => ∃ i : Nat, v39 = .int .i64 i ∧ i ≤ t.f3.length ∧ Aside0 (Kd.S (Kd.slice 9 Kd.string) 117 wr w.heap.size (fun _ => True) (.slice (some ⟨g, 0, none⟩) N cap) (lsts d e (t.f3.take i))) ∧ Aside0 (Kp w wr [(w.heap.size + 1, cS now (some ad) ts.length cp), (w.heap.size, cC a b c d e f)])) (fun v39 wr => t.f3.length - (intOf v39).toNat)
    case atStart => exact ⟨0, rfl, Nat.zero_le _, HSb, K2⟩
    case round =>
     rename World => wq
     clear HSb K2
     obtain ⟨i, rfl, hi, HS7, KK⟩ := hrel
     rcases Nat.lt_or_ge i t.f3.length with hil | hil
     ·obtain ⟨ad2, eA, x0, x1⟩ := at_T93 HI.out.1 (i : Int) (by omega) (by omega)
      subst eA
      obtain ⟨m, em⟩ : ∃ m, rd_T93 t.f3 (i : Int) = m := ⟨_, rfl⟩
      have em2 := Aside0.mk (show t.f3.getD i z93 = m from em)
      rw [em] at x0 x1
      simp only [Int.toNat_natCast] at x0 x1
      replace x0 := (KK.out.bel.cell (World.block_lt_of_cell? w _ x0)).trans x0
      replace x1 := (KK.out.bel.cell (World.block_lt_of_cell? w _ x1)).trans x1
      have hz := HQ.out.2 m (em2.out ▸ getD_mem t.f3 z93 i hil)
      obtain ⟨kh, hh⟩ := impl_shard a b c d e f m.f0 HD2.out.1 hz
      obtain ⟨H, hH⟩ : ∃ H : Nat, shd d e m.f0 = (H : Int) := ⟨(shd d e m.f0).toNat, by have := shd_lt d e m.f0 HD2.out.1.1; omega⟩
      have hHd : H < N := by have h9 := HN.out; have := shd_lt d e m.f0 HD2.out.1.1; omega
      have HSh : Aside0 (impl_Config_shard.f kh a b c d e f m.f0 = some (H : Int)) := ⟨by rw [← hH]; exact hh kh (Nat.le_refl _)⟩
      have HTk2 := Aside0.mk (show lsts d e (t.f3.take (i + 1)) = (lsts d e (t.f3.take i)).set H (((lsts d e (t.f3.take i)).getD H []) ++ [m.f0]) by
       rw [take_at t.f3 z93 i hil, em2.out, ← lsts_snoc d e HD2.out.1.1, hH]; rfl)
      have hHi : (H : Int) < (N : Int) := by omega
      clear em hh hz hH
      have K1 := Aside0.mk (KK.out.new (.cells #[.string m.f0, .int .i64 m.f1] 93))
      have HS7n := Aside0.mk (Kd.S_alloc HS7.out (.cells #[.string m.f0, .int .i64 m.f1] 93))
      obtain ⟨W2, hW2⟩ : ∃ W, wq.alloc (.cells #[.string m.f0, .int .i64 m.f1] 93) = W := ⟨_, rfl⟩
      rw [hW2] at K1 HS7n
      obtain ⟨z0, z1, z2, z3, z4, z5⟩ := c6 K1.out.tl.tl.fst
      obtain ⟨b0, b1⟩ := c2 K1.out.fst
      clear KK HS7
      have KK := K1
      have HS7 := HS7n
      clear K1 HS7n
      go_upto_region 12 with (go_at_call 69; refine (impl_Config_shard.calls kh a b c d e f m.f0 (H : Int) _ HSh.out).mono ?_; rintro x_ wx ⟨rfl, hb⟩; have n1 := Aside0.mk (KK.out.step hb); have n2 := Aside0.mk (Kd.S_below HS7.out hb); clear KK HS7 hb z0 z1 z2 z3 z4 z5 b0 b1 hW2; have KK := n1; have HS7 := n2; clear n1 n2)
      have n1 := Aside0.mk KK.out.drew
      obtain ⟨oki, cs, hcl, hM, hcc, hfr, hoki, hH2⟩ := Kd.S_elem (Kd.S_drew HS7.out) ([] : List ByteArray) (H : Int) (by omega) (by omega)
      rw [Int.toNat_natCast] at hcc hM
      obtain ⟨x, hx⟩ : ∃ x, (lsts d e (t.f3.take i)).getD H [] = x := ⟨_, rfl⟩
      rw [hx] at hM
      obtain ⟨v0, rfl, hR0⟩ : ∃ v, cs = [v] ∧ Kd.string.R 9 wx.drew w.heap.size oki v x := hM
      obtain ⟨A0, c0, rfl⟩ := Kd.R_slice hR0
      have y0 : wx.drew.cell? ⟨g, H, none⟩ = some (.slice A0 x.length c0) := by have := hcc 0 _ rfl; rw [show H * (Kd.slice 9 Kd.string).sz + 0 = H from Nat.mul_one _] at this; exact this
      obtain ⟨Y, hY⟩ : ∃ Y, Y = x ++ [m.f0] := ⟨_, rfl⟩
      have HY := Aside0.mk hY
      have HX := Aside0.mk hx
      have HO := Aside0.mk hoki
      have HR0 := Aside0.mk hR0
      have HH := Aside0.mk hH2
      have HXl : Aside0 (x.length ≤ 1048576) := ⟨by rw [← hx]; have h1 := lsts_at d e (t.f3.take i) H; have h2 := List.length_take_le i t.f3; omega⟩
      have HS0 := Aside0.mk (And.intro y0 (c2 n1.out.fst).1)
      clear KK HS7 hcl hcc hfr hoki hH2 hR0 y0 hx hY
      have KK := n1
      clear n1
      refine start_ (n := 12) (S := fun w' => w'.cell? ⟨g, H, none⟩ = some (.slice A0 x.length c0) ∧ w'.cell? ⟨wq.heap.size, 0, none⟩ = some (.string m.f0)) (ds := [11]) #[false, false, false, false, false, false, false, false, false, false, false, false] (by kernel_rfl) rfl rfl HS0.out (fun hHeld => ?_)
      generalize wx.drew = wy at KK HR0 HH HS0 hHeld ⊢
      refine pu_ 0 (some 47) (h := ?_)
      refine pu_ 1 (some 48) (h := ?_)
      refine pu_ 2 (some 49) (h := ?_)
      refine pu_ 3 (some 50) (h := ?_)
      refine pu_ 4 (some 51) (h := ?_)
      refine tk_ 5 (some 52) (hy := by rintro w' ⟨s0, s1⟩; go_simp; with_reducible rfl) (hS := hHeld) (h := ?_)
      refine pu_ 6 (some 53) (h := ?_)
      refine tk_ 7 (some 54) (hy := by rintro w' ⟨s0, s1⟩; go_simp; with_reducible rfl) (hS := hHeld) (h := ?_)
      refine on_ 8 (some 55) (h := fun K hK => ?_)
      refine va_ (h := ?_)
      refine hK.out _ _ ⟨Lib.cell?_alloc_some _ hHeld.1, Lib.cell?_alloc_some _ hHeld.2⟩ (fun hHeld => ?_)
      clear hK K
      refine nm_ (some 55) _ (h := ?_)
      refine on_ 9 (some 56) (h := fun K hK => ?_)
      refine Kd.R_append_step Kd.string (w0 := w) w.heap.size (by rfl) (.tmp 52) (.tmp 55) 117 9 (.string ⟨#[]⟩) 16 rfl Tryz.underlying117 info9 rfl (by decide) (by omega) (.slice A0 x.length c0) x m.f0 [.string m.f0] (fun k => oki k ∨ wy.heap.size ≤ k) (fun _ => False) rfl rfl rfl (fun _ hk => hk.elim) (fun k hk => .inr hk) (Kd.R_mono HR0.out (fun _ hk => .inl hk)) KK.out.bel KK.out.bel.size (by have := HXl.out; omega) ?_
      intro v1 wz ho hb hg hat
      have y1 := Go.Proofs.YtikbfjnbhogihaaGreatDoorW.PrintWords.cell_grown (a := ⟨g, H, none⟩) hg HS0.out.1 (fun e2 => (HO.out _ (HR0.out.1 _ e2.symm)).2 rfl)
      have n1 := Aside0.mk (kp_after3 KK.out hb hg (Kd.R_ne HR0.out KK.out.fst (by decide)) (Kd.R_ne HR0.out KK.out.tl.fst (by decide)) (Kd.R_ne HR0.out KK.out.tl.tl.fst (by decide)))
      have n2 := Aside0.mk (Kd.H_grown (Kd.H_widen HH.out) hg (fun k e2 => .inl (HR0.out.1 k e2)))
      rw [← HY.out] at ho
      obtain ⟨A1, c1, rfl⟩ := Kd.R_slice ho
      have n3 := Aside0.mk ho
      clear KK HH ho hb hg hat HS0
      have KK := n1
      have HH := n2
      have HR1 := n3
      clear n1 n2 n3
      refine hK.out _ _ ⟨y1, (c2 KK.out.fst).1⟩ (fun hHeld => ?_)
      clear hK K
      refine nm_ (some 56) _ (h := ?_)
      refine pu_ 10 (some 57) (h := ?_)
      refine la_ 11 none (h := fun K hK => ?_)
      have HP := Kd.S_seg0 HH.out (i := (H : Int)) (by omega) (by omega) (seg := [.slice A1 Y.length c1]) (j := 0) (show 1 ≤ 1 from by decide) (x' := Y) (Kd.M_row HR1.out) (fun _ hk => hk.imp_right fun h => ⟨trivial, h⟩)
      have hf0 := (Kd.H_at HH.out (i := (H : Int)) (by omega) (by omega)).2 0
      simp only [Int.toNat_natCast, show (Kd.slice 9 Kd.string).sz = 1 from rfl, Nat.mul_one, Nat.add_zero] at HP hf0
      refine sk_ (h := ?_)
      refine hK.out _ _ ?_
      clear hK K
      refine done_ (by kernel_rfl) ?_
      have HS9 := Aside0.mk HP.1
      have n1 : Aside0 (Kp w (wz.setCells g H [.slice A1 Y.length c1]) [(w.heap.size + 1, cS now (some ad) ts.length cp), (w.heap.size, cC a b c d e f)]) := ⟨kp_after2 (v := .slice (some ⟨g, 0, none⟩) N cap) KK.out.tl (below_set KK.out.bel HG.out.1) HP.2 (fun e2 => by have e3 : w.heap.size + 1 = g := Option.some.inj e2; have := HG.out.2; omega) (fun e2 => by have e3 : w.heap.size = g := Option.some.inj e2; have := HG.out.2; omega)⟩
      clear HP KK
      go_wp2
      go_roundw
      case rel => exact ⟨i + 1, rfl, hil, ⟨by rw [HTk2.out, HX.out, ← HY.out]; exact HS9.out⟩, n1⟩
      case measure => exact Bk.dec1 _ i hil (Nat.lt_of_lt_of_le hil hql)
     ·obtain rfl : i = t.f3.length := by omega
      go_wp2
      go_roundw
      case rel => exact ⟨j + 1, rfl, hjl, ⟨by rw [HTk.out, HSE.out.1]; have := HS7.out; rw [List.take_length] at this; exact this⟩, KK⟩
      case measure => exact Bk.dec1 _ j hjl (Nat.lt_of_lt_of_le hjl hn1)
  ·obtain rfl : j = ts.length := by omega
   go_wp2
   go_ret
   exact ⟨_, rfl, by rw [HP.out, if_pos (show (true && true) = true from rfl)]; have := HS7.out; rw [List.take_length] at this; exact this, KK.out.bel⟩
theorem sshards_r (w : World) (a b c d e f now : Int) (A : Option Addr) (cp : Nat) (ts : List Tn) (n : ByteArray) (hr : Kd.C k87 w A ts.length ts) (hc : ts.length ≤ cp) (hS : ts.length ≤ 1048576 ∧ ∀ t ∈ ts, Sm t) (R : List (List ByteArray)) (hR : R = shR a b c d e f now ts n) :
  Calls Tryz.prog 20 #[.agg #[.int .i64 a, .int .i64 b, .int .i64 c, .int .i64 d, .int .i64 e, .int .i64 f], .agg #[.int .i64 now, .slice A ts.length cp], .string n] w fun x w' => ∃ v : Value, x = .returned v ∧ Kd.S (Kd.slice 9 Kd.string) 117 w' w.heap.size (fun _ => True) v R ∧ Below w.heap.size w w' := by
 rw [hR]; exact sshards_c w a b c d e f now A cp ts n hr hc hS
theorem ishards_r (w : World) (a b c d e f now : Int) (A : Option Addr) (cp : Nat) (ts : List Tn) (n : ByteArray) (hr : Kd.C k87 w A ts.length ts) (hc : ts.length ≤ cp) (hS : ts.length ≤ 1048576 ∧ ∀ t ∈ ts, Sm t) (hT : Tabs w) (R : List (List ByteArray)) (hR : R = shR a b c d e f now ts n) :
  Calls Tryz.prog 21 #[.agg #[.int .i64 a, .int .i64 b, .int .i64 c, .int .i64 d, .int .i64 e, .int .i64 f], .agg #[.int .i64 now, .slice A ts.length cp], .string n] w fun x w' => ∃ v : Value, x = .returned v ∧ Kd.S (Kd.slice 9 Kd.string) 117 w' w.heap.size (fun _ => True) v R ∧ Below w.heap.size w w' := by
 rw [hR]; exact ishards_c w a b c d e f now A cp ts n hr hc hS hT
end Go.Proofs.YtikbfjnbhogihaaGreatDoor.Shd
