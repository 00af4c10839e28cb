/- impl.ParseConfig, walked by hand. -/
import Derived.Deep.RegionHeld3
import Derived.StillTailTactics
import Derived.Deep.DeepCutAuto
import Derived.BigQuiet
import Derived.BigCall
import Derived.Lib.SliceRun
import Derived.BigGuard
import Derived.Test.YtogoblkehdmapaaDoorXSplit
import Derived.Test.YtogoblkehdmapaaDoorPrs
import Derived.Test.YtogoblkehdmapaaDoorF38
import Derived.Test.YtogoblkehdmapaaDoorF39
namespace Go.Proofs.YtogoblkehdmapaaDoor.M
open Go.RowKit Go.Proofs.YtogoblkehdmapaaDoorW.PrintWords Go.Proofs.YtogoblkehdmapaaDoorW.PrintLast Go.Proofs.YtogoblkehdmapaaDoorW.PrintMore
set_option linter.unusedVariables false
set_option linter.unusedSimpArgs false
def impl_ParseConfig.f (k : Nat) (a0 : ByteArray) : Option (Int × Int × Int × Int × Int × Int × Int × Bool) :=
  (strings_Split.f a0 ⟨#[32]⟩).bind fun t =>
    if (t.length : Int) = 8 then
      if (rdOf ByteArray.empty t 0).toList = ([99, 111, 110, 102, 105, 103] : List UInt8) then
        (impl_numbers.f k (t.drop 1)).bind fun n =>
          if n.2 = true then
            if n.1.length = 7 then
              (impl_ConfigOK.f (rd n.1 0) (rd n.1 1) (rd n.1 2) (rd n.1 3) (rd n.1 4) (rd n.1 5)).bind fun ok =>
                if ok = true then
                  if rd n.1 6 > 1000000000 then some (0, 0, 0, 0, 0, 0, 0, false)
                  else some (rd n.1 0, rd n.1 1, rd n.1 2, rd n.1 3, rd n.1 4, rd n.1 5, rd n.1 6, true)
                else some (0, 0, 0, 0, 0, 0, 0, false)
            else none
          else some (0, 0, 0, 0, 0, 0, 0, false)
      else some (0, 0, 0, 0, 0, 0, 0, false)
    else some (0, 0, 0, 0, 0, 0, 0, false)
theorem impl_ParseConfig.mono : ∀ a0 k, LeO (impl_ParseConfig.f k a0) (impl_ParseConfig.f (k + 1) a0) := by
  intro a0 k
  unfold impl_ParseConfig.f
  refine LeO.bind (LeO.refl _) fun t => LeO.ite (LeO.ite (LeO.bind (impl_numbers.mono _ _) fun n => LeO.refl _) (LeO.refl _)) (LeO.refl _)
set_option maxHeartbeats 4000000 in
set_option maxRecDepth 100000 in
theorem impl_ParseConfig.calls (k : Nat) (a0 : ByteArray) (r1 : Int) (r2 : Int) (r3 : Int) (r4 : Int) (r5 : Int) (r6 : Int) (r7 : Int) (r8 : Bool) (w : World) (h : impl_ParseConfig.f k a0 = some (r1, r2, r3, r4, r5, r6, r7, r8)) (hT : Tabs w) :
    Calls Tryd.prog 16 #[.string a0] w fun e w' => e = .returned (.tuple #[.agg #[.int .i64 r1, .int .i64 r2, .int .i64 r3, .int .i64 r4, .int .i64 r5, .int .i64 r6], .int .i64 r7, .bool r8]) ∧ Below w.heap.size w w' := by
  have hu38 := Tryd.underlying38
  unfold impl_ParseConfig.f at h
  obtain ⟨t, ht, h⟩ := Option.bind_eq_some_iff.1 h
  have hS := fun W hW => strings_Split.calls a0 ⟨#[32]⟩ t W ht hW
  have hTa := hT.below (below_alloc (Below.refl _ w) (.cells (Prs.six 0 0 0 0 0 0) 38))
  clear ht
  by_cases c8 : (t.length : Int) = 8
  · rw [if_pos c8] at h
    have t8 : Aside0 ((t.length : Int) = 8) := ⟨c8⟩
    have c8b : ((t.length : Int) != 8) = false := bne_eq_false_iff_eq.2 c8
    have c8c : ((t.length : Int) == 8) = true := beq_iff_eq.2 c8
    have q0 : (0 < t.length) = True := eq_true (by omega)
    clear c8
    by_cases c9 : (rdOf ByteArray.empty t 0).toList = ([99, 111, 110, 102, 105, 103] : List UInt8)
    · rw [if_pos c9] at h
      obtain ⟨n, hn, h⟩ := Option.bind_eq_some_iff.1 h
      have c9b : ((rdOf ByteArray.empty t 0).toList != ([99, 111, 110, 102, 105, 103] : List UInt8)) = false := bne_eq_false_iff_eq.2 c9
      have c9c : ((rdOf ByteArray.empty t 0).toList == ([99, 111, 110, 102, 105, 103] : List UInt8)) = true := beq_iff_eq.2 c9
      clear c9
      generalize hrt : rdOf ByteArray.empty t 0 = rt at c9b c9c
      obtain ⟨nl, nb⟩ := n
      have q1 : (1 ≤ (t.length : Int)) = True := eq_true (by have := t8.out; omega)
      replace hn := Aside0.mk hn
      cases nb with
      | false =>
        simp only [Bool.false_eq_true, if_false, Option.some.injEq, Prod.mk.injEq] at h
        obtain ⟨rfl, rfl, rfl, rfl, rfl, rfl, rfl, rfl⟩ := h
        go_enter Tryd.func16, Tryd.ntmps16
        go_wp2_with (first | (go_at_call 37; refine (hS _ hTa).mono ?_; rintro e w1 ⟨v0, rfl, hR, hB⟩; have hRa := Aside0.mk hR; obtain ⟨A, c, rfl⟩ := Kd.R_slice hR; have hx := Kd.at_string (Kd.R_reads' hR).2.2 0 (by omega) (by have := t8.out; omega); obtain ⟨ad, rfl, hx⟩ := hx; rw [show ((0 : Int)).toNat = 0 from rfl, Addr.add_zero'] at hx; rw [hrt] at hx; have hc := (Kd.R_reads' hR).2.1; clear hR; have hc1 : (c = 1) = False := eq_false (by have := t8.out; omega); have BKa := Aside0.mk ((hB.block w.heap.size (by simp)).trans (blk_new w (.cells (Prs.six 0 0 0 0 0 0) 38))); have HBa := Aside0.mk (below_step (below_alloc (Below.refl _ _) _) hB); have hN := impl_numbers.calls k _ (c - 1) (t.drop 1) nl false w1 (if_neg (of_eq_false hc1) ▸ Kd.C_drop (m := 1) (Kd.R_reads' hRa.out).2.2 (by have := t8.out; omega) hc) (by rw [List.length_drop]; omega) hn.out; rw [List.length_drop] at hN; have hNa := Aside0.mk hN; clear hB hN) | (go_at_call 38; refine hNa.out.mono ?_; rintro e w2 ⟨v1, rfl, hR1, hB1⟩; have BK := (hB1.block w.heap.size (blk_lt BKa.out)).trans BKa.out; have z0 : w2.cell? ⟨w.heap.size, 0, none⟩ = some (.int .i64 0) := (blk_cell BK 0).trans rfl; have f0 := blk_frozen BK 0; have z1 : w2.cell? ⟨w.heap.size, 1, none⟩ = some (.int .i64 0) := (blk_cell BK 1).trans rfl; have f1 := blk_frozen BK 1; have z2 : w2.cell? ⟨w.heap.size, 2, none⟩ = some (.int .i64 0) := (blk_cell BK 2).trans rfl; have f2 := blk_frozen BK 2; have z3 : w2.cell? ⟨w.heap.size, 3, none⟩ = some (.int .i64 0) := (blk_cell BK 3).trans rfl; have f3 := blk_frozen BK 3; have z4 : w2.cell? ⟨w.heap.size, 4, none⟩ = some (.int .i64 0) := (blk_cell BK 4).trans rfl; have f4 := blk_frozen BK 4; have z5 : w2.cell? ⟨w.heap.size, 5, none⟩ = some (.int .i64 0) := (blk_cell BK 5).trans rfl; have f5 := blk_frozen BK 5; have BKb := Aside0.mk BK; have HBb := Aside0.mk (below_step HBa.out hB1); clear BK hB1))
        refine bodyPost_ret (results_ctt rfl _ _ w.heap.size 38 (Prs.six 0 0 0 0 0 0) (0, 0) _ rfl (Prs.put BKb.out 0 0 0 0 0 0) Tryd.underlying38 rfl (by kernel_rfl)) rfl ?_
        exact ⟨rfl, Prs.belowP HBb.out⟩
      | true =>
        simp only [if_true] at h
        by_cases c7 : nl.length = 7
        · rw [if_pos c7] at h
          obtain ⟨ok, hok, h⟩ := Option.bind_eq_some_iff.1 h
          obtain ⟨b0, hb0⟩ : ∃ x, rd nl 0 = x := ⟨_, rfl⟩
          obtain ⟨b1, hb1⟩ : ∃ x, rd nl 1 = x := ⟨_, rfl⟩
          obtain ⟨b2, hb2⟩ : ∃ x, rd nl 2 = x := ⟨_, rfl⟩
          obtain ⟨b3, hb3⟩ : ∃ x, rd nl 3 = x := ⟨_, rfl⟩
          obtain ⟨b4, hb4⟩ : ∃ x, rd nl 4 = x := ⟨_, rfl⟩
          obtain ⟨b5, hb5⟩ : ∃ x, rd nl 5 = x := ⟨_, rfl⟩
          obtain ⟨b6, hb6⟩ : ∃ x, rd nl 6 = x := ⟨_, rfl⟩
          rw [hb0, hb1, hb2, hb3, hb4, hb5, hb6] at h
          rw [hb0, hb1, hb2, hb3, hb4, hb5] at hok
          replace hok := Aside0.mk hok
          replace hb0 := Aside0.mk hb0
          replace hb1 := Aside0.mk hb1
          replace hb2 := Aside0.mk hb2
          replace hb3 := Aside0.mk hb3
          replace hb4 := Aside0.mk hb4
          replace hb5 := Aside0.mk hb5
          replace hb6 := Aside0.mk hb6
          have t7 : Aside0 (nl.length = 7) := ⟨c7⟩
          have l0 : (0 < nl.length) = True := eq_true (by omega)
          have l1 : (1 < nl.length) = True := eq_true (by omega)
          have m1 : ((1 : Int) < (nl.length : Int)) = True := eq_true (by omega)
          have l2 : (2 < nl.length) = True := eq_true (by omega)
          have m2 : ((2 : Int) < (nl.length : Int)) = True := eq_true (by omega)
          have l3 : (3 < nl.length) = True := eq_true (by omega)
          have m3 : ((3 : Int) < (nl.length : Int)) = True := eq_true (by omega)
          have l4 : (4 < nl.length) = True := eq_true (by omega)
          have m4 : ((4 : Int) < (nl.length : Int)) = True := eq_true (by omega)
          have l5 : (5 < nl.length) = True := eq_true (by omega)
          have m5 : ((5 : Int) < (nl.length : Int)) = True := eq_true (by omega)
          have l6 : (6 < nl.length) = True := eq_true (by omega)
          have m6 : ((6 : Int) < (nl.length : Int)) = True := eq_true (by omega)
          clear c7
          go_enter Tryd.func16, Tryd.ntmps16
          go_wp2_with (first | (go_at_call 37; refine (hS _ hTa).mono ?_; rintro e w1 ⟨v0, rfl, hR, hB⟩; have hRa := Aside0.mk hR; obtain ⟨A, c, rfl⟩ := Kd.R_slice hR; have hx := Kd.at_string (Kd.R_reads' hR).2.2 0 (by omega) (by have := t8.out; omega); obtain ⟨ad, rfl, hx⟩ := hx; rw [show ((0 : Int)).toNat = 0 from rfl, Addr.add_zero'] at hx; rw [hrt] at hx; have hc := (Kd.R_reads' hR).2.1; clear hR; have hc1 : (c = 1) = False := eq_false (by have := t8.out; omega); have BKa := Aside0.mk ((hB.block w.heap.size (by simp)).trans (blk_new w (.cells (Prs.six 0 0 0 0 0 0) 38))); have HBa := Aside0.mk (below_step (below_alloc (Below.refl _ _) _) hB); have hN := impl_numbers.calls k _ (c - 1) (t.drop 1) nl true w1 (if_neg (of_eq_false hc1) ▸ Kd.C_drop (m := 1) (Kd.R_reads' hRa.out).2.2 (by have := t8.out; omega) hc) (by rw [List.length_drop]; omega) hn.out; rw [List.length_drop] at hN; have hNa := Aside0.mk hN; clear hB hN) | (go_at_call 38; refine hNa.out.mono ?_; rintro e w2 ⟨v1, rfl, hR1, hB1⟩; obtain ⟨g, cap, rfl, hgb, hgl, _⟩ := Kd.R_form hR1 (by have := t7.out; omega); have e0 : w2.cell? ⟨g, 0, none⟩ = some (.int .i64 b0) := (Kd.R_cell 0 hR1 0 (by omega) (by have := t7.out; omega)).1.trans (congrArg (fun x => some (Value.int .i64 x)) hb0.out); have e1 : w2.cell? ⟨g, 1, none⟩ = some (.int .i64 b1) := (Kd.R_cell 0 hR1 1 (by omega) (by have := t7.out; omega)).1.trans (congrArg (fun x => some (Value.int .i64 x)) hb1.out); have e2 : w2.cell? ⟨g, 2, none⟩ = some (.int .i64 b2) := (Kd.R_cell 0 hR1 2 (by omega) (by have := t7.out; omega)).1.trans (congrArg (fun x => some (Value.int .i64 x)) hb2.out); have e3 : w2.cell? ⟨g, 3, none⟩ = some (.int .i64 b3) := (Kd.R_cell 0 hR1 3 (by omega) (by have := t7.out; omega)).1.trans (congrArg (fun x => some (Value.int .i64 x)) hb3.out); have e4 : w2.cell? ⟨g, 4, none⟩ = some (.int .i64 b4) := (Kd.R_cell 0 hR1 4 (by omega) (by have := t7.out; omega)).1.trans (congrArg (fun x => some (Value.int .i64 x)) hb4.out); have e5 : w2.cell? ⟨g, 5, none⟩ = some (.int .i64 b5) := (Kd.R_cell 0 hR1 5 (by omega) (by have := t7.out; omega)).1.trans (congrArg (fun x => some (Value.int .i64 x)) hb5.out); have e6 : w2.cell? ⟨g, 6, none⟩ = some (.int .i64 b6) := (Kd.R_cell 0 hR1 6 (by omega) (by have := t7.out; omega)).1.trans (congrArg (fun x => some (Value.int .i64 x)) hb6.out); have BK := (hB1.block w.heap.size (blk_lt BKa.out)).trans BKa.out; have BKb := Aside0.mk BK; have HBb := Aside0.mk (below_step HBa.out hB1); have hR2 := Aside0.mk hR1; have hgl2 := Aside0.mk hgl; have hgb2 := Aside0.mk hgb; clear BK hB1 hR1 hgl hgb))
          go_region_held3 (fun W' => W'.cell? ⟨g, 0, none⟩ = some (.int .i64 b0) ∧ W'.cell? ⟨g, 1, none⟩ = some (.int .i64 b1) ∧ W'.cell? ⟨g, 2, none⟩ = some (.int .i64 b2) ∧ W'.cell? ⟨g, 3, none⟩ = some (.int .i64 b3) ∧ W'.cell? ⟨g, 4, none⟩ = some (.int .i64 b4) ∧ W'.cell? ⟨g, 5, none⟩ = some (.int .i64 b5) ∧ W'.cell? ⟨g, 6, none⟩ = some (.int .i64 b6)) (first | exact ⟨e0, e1, e2, e3, e4, e5, e6⟩ | exact ⟨Lib.cell?_alloc_some _ e0, Lib.cell?_alloc_some _ e1, Lib.cell?_alloc_some _ e2, Lib.cell?_alloc_some _ e3, Lib.cell?_alloc_some _ e4, Lib.cell?_alloc_some _ e5, Lib.cell?_alloc_some _ e6⟩) (fail)
          have hg : g ≠ w.heap.size := by have h1 := blk_lt BKa.out; have h2 := hgb2.out; omega
          have hq : w2.heap.size ≠ w.heap.size := Nat.ne_of_gt (blk_lt BKb.out)
          refine Prs.hideX (R := fun W => W.heap[w2.heap.size]? = some (.cells (Prs.six b0 b1 b2 b3 b4 b5) 38 (0, 0)) ∧ W.heap[w.heap.size]? = some (.cells (Prs.six 0 0 0 0 0 0) 38 (0, 0)) ∧ (Kd.int .i64).R 3 W w1.heap.size (fun _ => True) (.slice (some ⟨g, 0, none⟩) nl.length cap) nl ∧ Below w.heap.size w W) (G := fun W => Exit.then _ _ _ _ W) ⟨blk_drew (blk_new w2 _), blk_drew (blk_alloc BKb.out _), Kd.R_drew (Kd.R_alloc hR2.out _), below_drew1 (below_alloc HBb.out _)⟩ ?_
          rintro w3 ⟨N3, Z3, L3, B3⟩
          replace N3 := Aside0.mk N3
          replace Z3 := Aside0.mk Z3
          replace L3 := Aside0.mk L3
          replace B3 := Aside0.mk B3
          clear e0 e1 e2 e3 e4 e5 e6 BKb HBb hR2 hgl2 hgb2
          have n0 : w3.cell? ⟨w2.heap.size, 0, none⟩ = some (.int .i64 b0) := (blk_cell N3.out 0).trans rfl
          have n1 : w3.cell? ⟨w2.heap.size, 1, none⟩ = some (.int .i64 b1) := (blk_cell N3.out 1).trans rfl
          have n2 : w3.cell? ⟨w2.heap.size, 2, none⟩ = some (.int .i64 b2) := (blk_cell N3.out 2).trans rfl
          have n3 : w3.cell? ⟨w2.heap.size, 3, none⟩ = some (.int .i64 b3) := (blk_cell N3.out 3).trans rfl
          have n4 : w3.cell? ⟨w2.heap.size, 4, none⟩ = some (.int .i64 b4) := (blk_cell N3.out 4).trans rfl
          have n5 : w3.cell? ⟨w2.heap.size, 5, none⟩ = some (.int .i64 b5) := (blk_cell N3.out 5).trans rfl
          cases ok with
          | false =>
            simp only [Bool.false_eq_true, if_false, Option.some.injEq, Prod.mk.injEq] at h
            obtain ⟨rfl, rfl, rfl, rfl, rfl, rfl, rfl, rfl⟩ := h
            go_wp2_with (first | (go_at_call 39; refine (impl_ConfigOK.calls b0 b1 b2 b3 b4 b5 false w3 hok.out).mono ?_; rintro e w4 ⟨rfl, hB4⟩; have N4 := Aside0.mk ((hB4.block _ (blk_lt N3.out)).trans N3.out); have Z4 := Aside0.mk ((hB4.block _ (blk_lt Z3.out)).trans Z3.out); have L4 := Aside0.mk (Kd.R_below L3.out hB4); have B4 := Aside0.mk (below_step B3.out hB4); clear hB4 n0 n1 n2 n3 n4 n5; have n0 : w4.cell? ⟨w2.heap.size, 0, none⟩ = some (.int .i64 b0) := (blk_cell N4.out 0).trans rfl; have n1 : w4.cell? ⟨w2.heap.size, 1, none⟩ = some (.int .i64 b1) := (blk_cell N4.out 1).trans rfl; have n2 : w4.cell? ⟨w2.heap.size, 2, none⟩ = some (.int .i64 b2) := (blk_cell N4.out 2).trans rfl; have n3 : w4.cell? ⟨w2.heap.size, 3, none⟩ = some (.int .i64 b3) := (blk_cell N4.out 3).trans rfl; have n4 : w4.cell? ⟨w2.heap.size, 4, none⟩ = some (.int .i64 b4) := (blk_cell N4.out 4).trans rfl; have n5 : w4.cell? ⟨w2.heap.size, 5, none⟩ = some (.int .i64 b5) := (blk_cell N4.out 5).trans rfl; have z0 : w4.cell? ⟨w.heap.size, 0, none⟩ = some (.int .i64 0) := (blk_cell Z4.out 0).trans rfl; have f0 := blk_frozen Z4.out 0; have z1 : w4.cell? ⟨w.heap.size, 1, none⟩ = some (.int .i64 0) := (blk_cell Z4.out 1).trans rfl; have f1 := blk_frozen Z4.out 1; have z2 : w4.cell? ⟨w.heap.size, 2, none⟩ = some (.int .i64 0) := (blk_cell Z4.out 2).trans rfl; have f2 := blk_frozen Z4.out 2; have z3 : w4.cell? ⟨w.heap.size, 3, none⟩ = some (.int .i64 0) := (blk_cell Z4.out 3).trans rfl; have f3 := blk_frozen Z4.out 3; have z4 : w4.cell? ⟨w.heap.size, 4, none⟩ = some (.int .i64 0) := (blk_cell Z4.out 4).trans rfl; have f4 := blk_frozen Z4.out 4; have z5 : w4.cell? ⟨w.heap.size, 5, none⟩ = some (.int .i64 0) := (blk_cell Z4.out 5).trans rfl; have f5 := blk_frozen Z4.out 5; have e6 : w4.cell? ⟨g, 6, none⟩ = some (.int .i64 b6) := (Kd.R_cell 0 L4.out 6 (by omega) (by have := t7.out; omega)).1.trans (congrArg (fun x => some (Value.int .i64 x)) hb6.out)))
            refine bodyPost_ret (results_ctt rfl _ _ w.heap.size 38 (Prs.six 0 0 0 0 0 0) (0, 0) _ rfl (Prs.put Z4.out 0 0 0 0 0 0) Tryd.underlying38 rfl (by kernel_rfl)) rfl ?_
            exact ⟨rfl, Prs.belowP B4.out⟩
          | true =>
            simp only [if_true] at h
            by_cases c1 : b6 > 1000000000
            · rw [if_pos c1] at h
              simp only [Option.some.injEq, Prod.mk.injEq] at h
              obtain ⟨rfl, rfl, rfl, rfl, rfl, rfl, rfl, rfl⟩ := h
              have c1b : decide (b6 > 1000000000) = true := decide_eq_true c1
              clear c1
              go_wp2_with (first | (go_at_call 39; refine (impl_ConfigOK.calls b0 b1 b2 b3 b4 b5 true w3 hok.out).mono ?_; rintro e w4 ⟨rfl, hB4⟩; have N4 := Aside0.mk ((hB4.block _ (blk_lt N3.out)).trans N3.out); have Z4 := Aside0.mk ((hB4.block _ (blk_lt Z3.out)).trans Z3.out); have L4 := Aside0.mk (Kd.R_below L3.out hB4); have B4 := Aside0.mk (below_step B3.out hB4); clear hB4 n0 n1 n2 n3 n4 n5; have n0 : w4.cell? ⟨w2.heap.size, 0, none⟩ = some (.int .i64 b0) := (blk_cell N4.out 0).trans rfl; have n1 : w4.cell? ⟨w2.heap.size, 1, none⟩ = some (.int .i64 b1) := (blk_cell N4.out 1).trans rfl; have n2 : w4.cell? ⟨w2.heap.size, 2, none⟩ = some (.int .i64 b2) := (blk_cell N4.out 2).trans rfl; have n3 : w4.cell? ⟨w2.heap.size, 3, none⟩ = some (.int .i64 b3) := (blk_cell N4.out 3).trans rfl; have n4 : w4.cell? ⟨w2.heap.size, 4, none⟩ = some (.int .i64 b4) := (blk_cell N4.out 4).trans rfl; have n5 : w4.cell? ⟨w2.heap.size, 5, none⟩ = some (.int .i64 b5) := (blk_cell N4.out 5).trans rfl; have z0 : w4.cell? ⟨w.heap.size, 0, none⟩ = some (.int .i64 0) := (blk_cell Z4.out 0).trans rfl; have f0 := blk_frozen Z4.out 0; have z1 : w4.cell? ⟨w.heap.size, 1, none⟩ = some (.int .i64 0) := (blk_cell Z4.out 1).trans rfl; have f1 := blk_frozen Z4.out 1; have z2 : w4.cell? ⟨w.heap.size, 2, none⟩ = some (.int .i64 0) := (blk_cell Z4.out 2).trans rfl; have f2 := blk_frozen Z4.out 2; have z3 : w4.cell? ⟨w.heap.size, 3, none⟩ = some (.int .i64 0) := (blk_cell Z4.out 3).trans rfl; have f3 := blk_frozen Z4.out 3; have z4 : w4.cell? ⟨w.heap.size, 4, none⟩ = some (.int .i64 0) := (blk_cell Z4.out 4).trans rfl; have f4 := blk_frozen Z4.out 4; have z5 : w4.cell? ⟨w.heap.size, 5, none⟩ = some (.int .i64 0) := (blk_cell Z4.out 5).trans rfl; have f5 := blk_frozen Z4.out 5; have e6 : w4.cell? ⟨g, 6, none⟩ = some (.int .i64 b6) := (Kd.R_cell 0 L4.out 6 (by omega) (by have := t7.out; omega)).1.trans (congrArg (fun x => some (Value.int .i64 x)) hb6.out)))
              refine bodyPost_ret (results_ctt rfl _ _ w.heap.size 38 (Prs.six 0 0 0 0 0 0) (0, 0) _ rfl (Prs.put Z4.out 0 0 0 0 0 0) Tryd.underlying38 rfl (by kernel_rfl)) rfl ?_
              exact ⟨rfl, Prs.belowP B4.out⟩
            · rw [if_neg c1] at h
              simp only [Option.some.injEq, Prod.mk.injEq] at h
              obtain ⟨rfl, rfl, rfl, rfl, rfl, rfl, rfl, rfl⟩ := h
              have c1b : decide (b6 > 1000000000) = false := decide_eq_false c1
              clear c1
              go_wp2_with (first | (go_at_call 39; refine (impl_ConfigOK.calls b0 b1 b2 b3 b4 b5 true w3 hok.out).mono ?_; rintro e w4 ⟨rfl, hB4⟩; have N4 := Aside0.mk ((hB4.block _ (blk_lt N3.out)).trans N3.out); have Z4 := Aside0.mk ((hB4.block _ (blk_lt Z3.out)).trans Z3.out); have L4 := Aside0.mk (Kd.R_below L3.out hB4); have B4 := Aside0.mk (below_step B3.out hB4); clear hB4 n0 n1 n2 n3 n4 n5; have n0 : w4.cell? ⟨w2.heap.size, 0, none⟩ = some (.int .i64 b0) := (blk_cell N4.out 0).trans rfl; have n1 : w4.cell? ⟨w2.heap.size, 1, none⟩ = some (.int .i64 b1) := (blk_cell N4.out 1).trans rfl; have n2 : w4.cell? ⟨w2.heap.size, 2, none⟩ = some (.int .i64 b2) := (blk_cell N4.out 2).trans rfl; have n3 : w4.cell? ⟨w2.heap.size, 3, none⟩ = some (.int .i64 b3) := (blk_cell N4.out 3).trans rfl; have n4 : w4.cell? ⟨w2.heap.size, 4, none⟩ = some (.int .i64 b4) := (blk_cell N4.out 4).trans rfl; have n5 : w4.cell? ⟨w2.heap.size, 5, none⟩ = some (.int .i64 b5) := (blk_cell N4.out 5).trans rfl; have z0 : w4.cell? ⟨w.heap.size, 0, none⟩ = some (.int .i64 0) := (blk_cell Z4.out 0).trans rfl; have f0 := blk_frozen Z4.out 0; have z1 : w4.cell? ⟨w.heap.size, 1, none⟩ = some (.int .i64 0) := (blk_cell Z4.out 1).trans rfl; have f1 := blk_frozen Z4.out 1; have z2 : w4.cell? ⟨w.heap.size, 2, none⟩ = some (.int .i64 0) := (blk_cell Z4.out 2).trans rfl; have f2 := blk_frozen Z4.out 2; have z3 : w4.cell? ⟨w.heap.size, 3, none⟩ = some (.int .i64 0) := (blk_cell Z4.out 3).trans rfl; have f3 := blk_frozen Z4.out 3; have z4 : w4.cell? ⟨w.heap.size, 4, none⟩ = some (.int .i64 0) := (blk_cell Z4.out 4).trans rfl; have f4 := blk_frozen Z4.out 4; have z5 : w4.cell? ⟨w.heap.size, 5, none⟩ = some (.int .i64 0) := (blk_cell Z4.out 5).trans rfl; have f5 := blk_frozen Z4.out 5; have e6 : w4.cell? ⟨g, 6, none⟩ = some (.int .i64 b6) := (Kd.R_cell 0 L4.out 6 (by omega) (by have := t7.out; omega)).1.trans (congrArg (fun x => some (Value.int .i64 x)) hb6.out)))
              have dS : w4.drew.cell? ⟨w2.heap.size, 0, none⟩ = some (.int .i64 b0) ∧ w4.drew.cell? ⟨w2.heap.size, 1, none⟩ = some (.int .i64 b1) ∧ w4.drew.cell? ⟨w2.heap.size, 2, none⟩ = some (.int .i64 b2) ∧ w4.drew.cell? ⟨w2.heap.size, 3, none⟩ = some (.int .i64 b3) ∧ w4.drew.cell? ⟨w2.heap.size, 4, none⟩ = some (.int .i64 b4) ∧ w4.drew.cell? ⟨w2.heap.size, 5, none⟩ = some (.int .i64 b5) ∧ w4.drew.cell? ⟨g, 6, none⟩ = some (.int .i64 b6) := ⟨n0, n1, n2, n3, n4, n5, e6⟩
              have dT := Prs.drewS (Prs.farS (W := w4) hq hg (.int .i64 b0) (.int .i64 b1) (.int .i64 b2) (.int .i64 b3) (.int .i64 b4) (.int .i64 b5) ⟨n0, n1, n2, n3, n4, n5, e6⟩)
              go_region_held3 (fun W' => W'.cell? ⟨w2.heap.size, 0, none⟩ = some (.int .i64 b0) ∧ W'.cell? ⟨w2.heap.size, 1, none⟩ = some (.int .i64 b1) ∧ W'.cell? ⟨w2.heap.size, 2, none⟩ = some (.int .i64 b2) ∧ W'.cell? ⟨w2.heap.size, 3, none⟩ = some (.int .i64 b3) ∧ W'.cell? ⟨w2.heap.size, 4, none⟩ = some (.int .i64 b4) ∧ W'.cell? ⟨w2.heap.size, 5, none⟩ = some (.int .i64 b5) ∧ W'.cell? ⟨g, 6, none⟩ = some (.int .i64 b6)) (first | with_reducible exact dS | with_reducible exact dT | with_reducible assumption | (with_reducible refine Prs.farS hq hg _ _ _ _ _ _ ?_; with_reducible assumption)) (fail)
              go_wp2_with fail
              refine bodyPost_ret (results_ctt rfl _ _ w.heap.size 38 (Prs.six b0 b1 b2 b3 b4 b5) (0, 0) _ rfl (blk_drew (Prs.put Z4.out b0 b1 b2 b3 b4 b5)) Tryd.underlying38 rfl (by kernel_rfl)) rfl ?_
              exact ⟨rfl, below_drew1 (Prs.belowP B4.out)⟩
        · rw [if_neg c7] at h; cases h
    · rw [if_neg c9] at h
      simp only [Option.some.injEq, Prod.mk.injEq] at h
      obtain ⟨rfl, rfl, rfl, rfl, rfl, rfl, rfl, rfl⟩ := h
      have c9b : ((rdOf ByteArray.empty t 0).toList != ([99, 111, 110, 102, 105, 103] : List UInt8)) = true := bne_iff_ne.2 c9
      have c9c : ((rdOf ByteArray.empty t 0).toList == ([99, 111, 110, 102, 105, 103] : List UInt8)) = false := beq_eq_false_iff_ne.2 c9
      clear c9
      generalize hrt : rdOf ByteArray.empty t 0 = rt at c9b c9c
      go_enter Tryd.func16, Tryd.ntmps16
      go_wp2_with (first | (go_at_call 37; refine (hS _ hTa).mono ?_; rintro e w1 ⟨v0, rfl, hR, hB⟩; obtain ⟨A, c, rfl⟩ := Kd.R_slice hR; have hx := Kd.at_string (Kd.R_reads' hR).2.2 0 (by omega) (by have := t8.out; omega); obtain ⟨ad, rfl, hx⟩ := hx; rw [show ((0 : Int)).toNat = 0 from rfl, Addr.add_zero'] at hx; rw [hrt] at hx; clear hR; have BK := (hB.block w.heap.size (by simp)).trans (blk_new w (.cells (Prs.six 0 0 0 0 0 0) 38)); have z0 : w1.cell? ⟨w.heap.size, 0, none⟩ = some (.int .i64 0) := (blk_cell BK 0).trans rfl; have z1 : w1.cell? ⟨w.heap.size, 1, none⟩ = some (.int .i64 0) := (blk_cell BK 1).trans rfl; have z2 : w1.cell? ⟨w.heap.size, 2, none⟩ = some (.int .i64 0) := (blk_cell BK 2).trans rfl; have z3 : w1.cell? ⟨w.heap.size, 3, none⟩ = some (.int .i64 0) := (blk_cell BK 3).trans rfl; have z4 : w1.cell? ⟨w.heap.size, 4, none⟩ = some (.int .i64 0) := (blk_cell BK 4).trans rfl; have z5 : w1.cell? ⟨w.heap.size, 5, none⟩ = some (.int .i64 0) := (blk_cell BK 5).trans rfl; have f0 := blk_frozen BK 0; have f1 := blk_frozen BK 1; have f2 := blk_frozen BK 2; have f3 := blk_frozen BK 3; have f4 := blk_frozen BK 4; have f5 := blk_frozen BK 5; have BKa := Aside0.mk BK; have HBa := Aside0.mk hB; clear BK hB))
      refine bodyPost_ret (results_ctt rfl _ _ w.heap.size 38 (Prs.six 0 0 0 0 0 0) (0, 0) _ rfl (Prs.put BKa.out 0 0 0 0 0 0) Tryd.underlying38 rfl (by kernel_rfl)) rfl ?_
      exact ⟨rfl, Prs.belowP (below_step (below_alloc (Below.refl _ _) _) HBa.out)⟩
  · rw [if_neg c8] at h
    simp only [Option.some.injEq, Prod.mk.injEq] at h
    obtain ⟨rfl, rfl, rfl, rfl, rfl, rfl, rfl, rfl⟩ := h
    have c8b : ((t.length : Int) != 8) = true := bne_iff_ne.2 c8
    have c8c : ((t.length : Int) == 8) = false := beq_eq_false_iff_ne.2 c8
    clear c8
    go_enter Tryd.func16, Tryd.ntmps16
    go_wp2_with (first | (go_at_call 37; refine (hS _ hTa).mono ?_; rintro e w1 ⟨v0, rfl, hR, hB⟩; obtain ⟨A, c, rfl⟩ := Kd.R_slice hR; have BK := (hB.block w.heap.size (by simp)).trans (blk_new w (.cells (Prs.six 0 0 0 0 0 0) 38)); have z0 : w1.cell? ⟨w.heap.size, 0, none⟩ = some (.int .i64 0) := (blk_cell BK 0).trans rfl; have z1 : w1.cell? ⟨w.heap.size, 1, none⟩ = some (.int .i64 0) := (blk_cell BK 1).trans rfl; have z2 : w1.cell? ⟨w.heap.size, 2, none⟩ = some (.int .i64 0) := (blk_cell BK 2).trans rfl; have z3 : w1.cell? ⟨w.heap.size, 3, none⟩ = some (.int .i64 0) := (blk_cell BK 3).trans rfl; have z4 : w1.cell? ⟨w.heap.size, 4, none⟩ = some (.int .i64 0) := (blk_cell BK 4).trans rfl; have z5 : w1.cell? ⟨w.heap.size, 5, none⟩ = some (.int .i64 0) := (blk_cell BK 5).trans rfl; have f0 := blk_frozen BK 0; have f1 := blk_frozen BK 1; have f2 := blk_frozen BK 2; have f3 := blk_frozen BK 3; have f4 := blk_frozen BK 4; have f5 := blk_frozen BK 5; have BKa := Aside0.mk BK; have HBa := Aside0.mk hB; clear BK hB))
    refine bodyPost_ret (results_ctt rfl _ _ w.heap.size 38 (Prs.six 0 0 0 0 0 0) (0, 0) _ rfl (Prs.put BKa.out 0 0 0 0 0 0) Tryd.underlying38 rfl (by kernel_rfl)) rfl ?_
    exact ⟨rfl, Prs.belowP (below_step (below_alloc (Below.refl _ _) _) HBa.out)⟩
end Go.Proofs.YtogoblkehdmapaaDoor.M
