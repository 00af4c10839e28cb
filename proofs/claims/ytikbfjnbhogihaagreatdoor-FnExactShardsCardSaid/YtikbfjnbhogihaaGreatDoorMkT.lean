import Derived.Test.YtikbfjnbhogihaaGreatDoorF102
import Derived.Test.YtikbfjnbhogihaaGreatDoorM0
import Derived.Test.YtikbfjnbhogihaaGreatDoorMp
/- laws.markTenantS, markState: a row of rows is written. -/
namespace Go.Proofs.YtikbfjnbhogihaaGreatDoor.M
open Go.RowKit Go.Proofs.YtikbfjnbhogihaaGreatDoorW.PrintWords Go.Proofs.YtikbfjnbhogihaaGreatDoorW.PrintLast Go.Proofs.YtikbfjnbhogihaaGreatDoorW.PrintMore
set_option linter.unusedVariables false
set_option linter.unusedSimpArgs false
namespace MkT
abbrev Tn := S87
def mk (k : Nat) : List Tn → Int → Option (Int × List Tn)
 | [], a => some (a, [])
 | x :: l, a => (laws_markText.f k a).bind fun s => (laws_markMetricLimitS.f k x.f2 (wrap64 (wrap64 (a + 1) + 1))).bind fun t => (laws_markSeriesS.f k x.f3 t.1).bind fun u => (mk k l u.1).bind fun z => some (z.1, (⟨s, wrap64 (a + 1), t.2, u.2⟩ : Tn) :: z.2)
theorem mk_cons {k : Nat} {x : Tn} {l : List Tn} {a r1 : Int} {r2 : List Tn} (h : mk k (x :: l) a = some (r1, r2)) :
  ∃ s t1 t2 u1 u2 z2, laws_markText.f k a = some s ∧ laws_markMetricLimitS.f k x.f2 (wrap64 (wrap64 (a + 1) + 1)) = some (t1, t2) ∧ laws_markSeriesS.f k x.f3 t1 = some (u1, u2) ∧ mk k l u1 = some (r1, z2) ∧ r2 = (⟨s, wrap64 (a + 1), t2, u2⟩ : Tn) :: z2 := by
 unfold mk at h
 obtain ⟨s, h0, h⟩ := Option.bind_eq_some_iff.1 h
 obtain ⟨⟨t1, t2⟩, h1, h⟩ := Option.bind_eq_some_iff.1 h
 obtain ⟨⟨u1, u2⟩, h2, h⟩ := Option.bind_eq_some_iff.1 h
 obtain ⟨⟨z1, z2⟩, h3, h⟩ := Option.bind_eq_some_iff.1 h
 obtain ⟨rfl, rfl⟩ := Prod.mk.inj (Option.some.inj h)
 exact ⟨s, t1, t2, u1, u2, z2, h0, h1, h2, h3, rfl⟩
theorem set_mid (D : List Tn) (x y : Tn) (R : List Tn) : (D ++ x :: R).set D.length y = D ++ y :: R := by simp
theorem getD_mid (D : List Tn) (x z : Tn) (R : List Tn) : (D ++ x :: R).getD D.length z = x := by simp [List.getD]
theorem apart {α β : Type} {d : Kd α} {d' : Kd β} {e e' : Nat} {w : World} {base : Nat} {ok ok' : Nat → Prop} {v v' : Value} {xs : List α} {ys : List β} (h : d.R e w base ok v xs) (h' : d'.R e' w base ok' v' ys) (hne : e ≠ e') (k : Nat) (hk : some k = v.ownBlock) : ¬ some k = v'.ownBlock := fun hk' => by
 obtain ⟨_, _, ho, _⟩ := h
 obtain ⟨_, _, ho', _⟩ := h'
 obtain ⟨c, hc⟩ := own_typed ho k hk.symm
 obtain ⟨c', hc'⟩ := own_typed ho' k hk'.symm
 rw [hc] at hc'
 injection hc' with hc'
 injection hc' with _ he _
 exact hne he
structure In (w0 w wr : World) (P0 ok oki : Nat → Prop) (g cap n : Nat) (xs : List Tn) (i : Nat) (cs : List Value) (v2 v3 : Value) (m : List S91) (q : List S93) : Prop where
 h : Kd.H k87 87 wr w0.heap.size ok (.slice (some ⟨g, 0, none⟩) n cap) xs (i : Nat) oki cs
 r2 : Kd.R k91 91 wr w0.heap.size oki v2 m
 r3 : Kd.R k93 93 wr w0.heap.size oki v3 q
 bel : Below w0.heap.size w0 wr
 kept : Kept w wr P0
namespace In
variable {w0 w wr w' : World} {P0 ok oki : Nat → Prop} {g cap n : Nat} {xs : List Tn} {i : Nat} {cs : List Value} {v2 v3 : Value} {m m' : List S91} {q q' : List S93}
theorem below (I : In w0 w wr P0 ok oki g cap n xs i cs v2 v3 m q) (hb : Below wr.heap.size wr w') : In w0 w w' P0 ok oki g cap n xs i cs v2 v3 m q :=
 ⟨Kd.H_below I.h hb, Kd.R_below I.r2 hb, Kd.R_below I.r3 hb, below_then I.bel I.bel.size hb, I.kept.below hb⟩
theorem at_ (I : In w0 w wr P0 ok oki g cap n xs i cs v2 v3 m q) (hi : i < n) (j : Nat) {u : Value} (hu : cs[j]? = some u) : wr.cell? ⟨g, i * 4 + j, none⟩ = some u ∧ wr.frozen? ⟨g, i * 4 + j, none⟩ = false := by
 have hx := Kd.H_at I.h (by omega) (by omega)
 rw [Int.toNat_natCast] at hx
 exact ⟨hx.1 j _ hu, hx.2 j⟩
theorem store (I : In w0 w wr P0 ok oki g cap n xs i cs v2 v3 m q) (hi : i < n) (ho : ∀ k, oki k → k ≠ g) (hg : w0.heap.size ≤ g) (hp : P0 g ∨ w.heap.size ≤ g) (j : Nat) (hj : j + 1 ≤ 4) (u : Value) (hu : u.oneCell' = true) :
  In w0 w (wr.setCell ⟨g, i * 4 + j, none⟩ u) P0 ok oki g cap n xs i (cs.take j ++ [u] ++ cs.drop (j + 1)) v2 v3 m q := by
 have hs := Kd.H_seg (seg := [u]) (j := j) I.h (by omega) (by omega) hj (by simpa using hu)
 rw [Int.toNat_natCast] at hs
 exact ⟨hs.1, Kd.R_grown I.r2 hs.2 (fun k hk e => ho k hk (Option.some.inj e)), Kd.R_grown I.r3 hs.2 (fun k hk e => ho k hk (Option.some.inj e)), below_set I.bel hg, I.kept.setCell hp u⟩
theorem lim (I : In w0 w wr P0 ok oki g cap n xs i cs v2 v3 m q) (ho : ∀ k, oki k → ok k) (hok : ∀ k, ok k → P0 k ∨ w.heap.size ≤ k) {ok' : Nat → Prop} (h2 : Kd.R k91 91 w' w0.heap.size ok' v2 m') (hb : Below w0.heap.size w0 w') (hk : Kept wr w' (fun k => some k = v2.ownBlock)) :
  In w0 w w' P0 ok oki g cap n xs i cs v2 v3 m' q :=
 ⟨Kd.H_kept I.h hk (fun k _ hn e => hn (I.r2.1 k e.symm)), Kd.R_mono (Kd.R_tight rfl h2) (fun k e => I.r2.1 k e.symm), Kd.R_mono (Kd.R_kept (Kd.R_tight rfl I.r3) hk (apart I.r3 I.r2 (by decide))) (fun k e => I.r3.1 k e.symm), hb, I.kept.then_ hk (fun k e => hok k (ho k (I.r2.1 k e.symm)))⟩
theorem ser (I : In w0 w wr P0 ok oki g cap n xs i cs v2 v3 m q) (ho : ∀ k, oki k → ok k) (hok : ∀ k, ok k → P0 k ∨ w.heap.size ≤ k) {ok' : Nat → Prop} (h2 : Kd.R k93 93 w' w0.heap.size ok' v3 q') (hb : Below w0.heap.size w0 w') (hk : Kept wr w' (fun k => some k = v3.ownBlock)) :
  In w0 w w' P0 ok oki g cap n xs i cs v2 v3 m q' :=
 ⟨Kd.H_kept I.h hk (fun k _ hn e => hn (I.r3.1 k e.symm)), Kd.R_mono (Kd.R_kept (Kd.R_tight rfl I.r2) hk (apart I.r2 I.r3 (by decide))) (fun k e => I.r2.1 k e.symm), Kd.R_mono (Kd.R_tight rfl h2) (fun k e => I.r3.1 k e.symm), hb, I.kept.then_ hk (fun k e => hok k (ho k (I.r3.1 k e.symm)))⟩
end In
set_option maxHeartbeats 8000000 in
set_option maxRecDepth 100000 in
theorem markT (k : Nat) (P0 : Nat → Prop) (v : Value) (l : List Tn) (a r1 : Int) (r2 : List Tn) (w0 w : World) (hB : Below w0.heap.size w0 w) (hS : Kd.S k87 87 w w0.heap.size P0 v l) (hl : l.length ≤ 1048576) (h : mk k l a = some (r1, r2)) :
  Calls Tryz.prog 71 #[v, .int .i64 a] w fun e w' => e = .returned (.int .i64 r1) ∧ Kd.S k87 87 w' w0.heap.size (fun k => P0 k ∨ w.heap.size ≤ k) v r2 ∧ Below w0.heap.size w0 w' ∧ Kept w w' P0 := by
 obtain ⟨A, c, rfl⟩ := Kd.S_slice hS
 have HS := Aside0.mk (Kd.S_mono (ok' := fun k => P0 k ∨ w.heap.size ≤ k) hS (fun _ hk => .inl hk))
 have HM := Aside0.mk h
 have HB := Aside0.mk hB
 clear hS h hB
 go_enter Tryz.func71, Tryz.ntmps71
 go_wp2
 go_loopw [1, 5] (fun v1 v5 wr => ∃ (D R R' : List Tn) (x1 : Int), v1 = .int .i64 x1 ∧ v5 = .int .i64 (D.length : Nat) ∧ Aside0 (D.length + R.length = l.length) ∧ Aside0 (mk k R x1 = some (r1, R')) ∧ Aside0 (r2 = D ++ R') ∧
  Aside0 (Kd.S k87 87 wr w0.heap.size (fun k => P0 k ∨ w.heap.size ≤ k) (.slice A l.length c) (D ++ R)) ∧ Aside0 (Below w0.heap.size w0 wr) ∧ Aside0 (Kept w wr P0)) (fun _ v5 _ => l.length - (intOf v5).toNat)
 case atStart => exact ⟨[], l, r2, a, rfl, rfl, ⟨by simp⟩, HM, ⟨rfl⟩, HS, HB, ⟨Kept.refl w P0⟩⟩
 case round =>
  obtain ⟨D, R, R', x1, rfl, rfl, HL, HR, HE, HSr, HBr, HKr⟩ := hrel
  cases R with
  | nil =>
   have hn : D.length = l.length := by simpa using HL.out
   have h1 := HR.out
   obtain ⟨rfl, rfl⟩ := Prod.mk.inj (Option.some.inj h1)
   go_wp2
   go_ret
   refine ⟨rfl, ?_, HBr.out, HKr.out⟩
   rw [HE.out]
   exact HSr.out
  | cons x R =>
   have hn : D.length < l.length := by have := HL.out; simp only [List.length_cons] at this; omega
   obtain ⟨g, cap, e, hgb, hglt, _⟩ := Kd.S_form HSr.out (by rw [List.length_append, List.length_cons]; omega)
   injection e with eA e1 e2
   subst eA
   clear e1 e2
   obtain ⟨oki, cs, hcl, hM, hcc, hfr, hoki, hH⟩ := Kd.S_elem HSr.out z87 (D.length : Nat) (by omega) (by omega)
   rw [Int.toNat_natCast] at hcc hM
   rw [getD_mid] at hM
   obtain ⟨v2, v3, rfl, hR2, hR3⟩ := k87_openM hM
   obtain ⟨A2, c2, rfl⟩ := Kd.R_slice hR2
   obtain ⟨A3, c3, rfl⟩ := Kd.R_slice hR3
   obtain ⟨s, t1, t2, u1, u2, z2, hs, ht, hu, hz, hr2⟩ := mk_cons HR.out
   have HD := Aside0.mk (And.intro hs (And.intro ht (And.intro hu (And.intro hz hr2))))
   have HO := Aside0.mk hoki
   have HG := Aside0.mk hgb
   have HOg := Aside0.mk ((Kd.S_R HSr.out).1 g rfl)
   have HI : Aside0 (In w0 w wr P0 (fun k => P0 k ∨ w.heap.size ≤ k) oki g c l.length (D ++ x :: R) D.length [.string x.f0, .int .i64 x.f1, .slice A2 x.f2.length c2, .slice A3 x.f3.length c3] (.slice A2 x.f2.length c2) (.slice A3 x.f3.length c3) x.f2 x.f3) := ⟨⟨hH, hR2, hR3, HBr.out, HKr.out⟩⟩
   have HN := Aside0.mk hn
   clear hcc hfr hM hR2 hR3 hH hs ht hu hz hr2 hoki hcl hgb hglt
   go_upto_region 5 with (go_at_call 102; refine (laws_markText.calls k x1 s wr HD.out.1).mono ?_; rintro e w2 ⟨rfl, hb⟩; have HI2 := Aside0.mk (HI.out.below hb); have yy : _ ∧ _ := HI2.out.at_ HN.out 0 rfl; obtain ⟨y0, f0⟩ := yy; replace y0 : w2.cell? ⟨g, D.length * 4, none⟩ = some (.string x.f0) := y0; replace f0 : w2.frozen? ⟨g, D.length * 4, none⟩ = false := f0; clear HI hb)
   clear y0 f0
   obtain ⟨w3, hw3⟩ : ∃ W, w2.setCell ⟨g, D.length * 4, none⟩ (.string s) = W := ⟨_, rfl⟩
   have hi3 : In w0 w (w2.setCell ⟨g, D.length * 4, none⟩ (.string s)) P0 (fun k => P0 k ∨ w.heap.size ≤ k) oki g c l.length (D ++ x :: R) D.length [.string s, .int .i64 x.f1, .slice A2 x.f2.length c2, .slice A3 x.f3.length c3] (.slice A2 x.f2.length c2) (.slice A3 x.f3.length c3) x.f2 x.f3 := HI2.out.store HN.out (fun k hk => (HO.out k hk).2) HG.out HOg.out 0 (by decide) (.string s) rfl
   rw [hw3] at hi3 ⊢
   have yy := hi3.at_ HN.out 1 (u := .int .i64 x.f1) rfl
   obtain ⟨y1, f1⟩ := yy
   have HI3 := Aside0.mk hi3
   clear hi3 HI2 hw3
   go_upto_region 7 with fail
   clear y1 f1
   obtain ⟨w4, hw4⟩ : ∃ W, w3.setCell ⟨g, D.length * 4 + 1, none⟩ (.int .i64 (wrap64 (x1 + 1))) = W := ⟨_, rfl⟩
   have hi4 : In w0 w (w3.setCell ⟨g, D.length * 4 + 1, none⟩ (.int .i64 (wrap64 (x1 + 1)))) P0 (fun k => P0 k ∨ w.heap.size ≤ k) oki g c l.length (D ++ x :: R) D.length [.string s, .int .i64 (wrap64 (x1 + 1)), .slice A2 x.f2.length c2, .slice A3 x.f3.length c3] (.slice A2 x.f2.length c2) (.slice A3 x.f3.length c3) x.f2 x.f3 := HI3.out.store HN.out (fun k hk => (HO.out k hk).2) HG.out HOg.out 1 (by decide) (.int .i64 (wrap64 (x1 + 1))) rfl
   rw [hw4] at hi4 ⊢
   have yy := hi4.at_ HN.out 2 (u := .slice A2 x.f2.length c2) rfl
   obtain ⟨y2, _⟩ := yy
   have HI4 := Aside0.mk hi4
   clear hi4 HI3 hw4
   go_wp2_with (first
    | (go_at_call 116; refine (laws_markMetricLimitS.calls k _ _ x.f2 _ t1 t2 w0 w4 HI4.out.bel (Kd.R_tight rfl HI4.out.r2) HD.out.2.1).mono ?_; rintro e w5 ⟨rfl, h5, hb5, hk5⟩; have HI5 := Aside0.mk (HI4.out.lim (fun k hk => (HO.out k hk).1) (fun k hk => hk) h5 hb5 (hk5.mono fun k hk => hk)); have yy := HI5.out.at_ HN.out 3 (u := .slice A3 x.f3.length c3) rfl; obtain ⟨y3, _⟩ := yy; clear HI4 y2 h5 hb5 hk5)
    | (go_at_call 117; refine (laws_markSeriesS.calls k _ _ x.f3 _ u1 u2 w0 w5 HI5.out.bel (Kd.R_tight rfl HI5.out.r3) HD.out.2.2.1).mono ?_; rintro e w6 ⟨rfl, h6, hb6, hk6⟩; have HI6 := Aside0.mk (HI5.out.ser (fun k hk => (HO.out k hk).1) (fun k hk => hk) h6 hb6 (hk6.mono fun k hk => hk)); clear HI5 y3 h6 hb6 hk6))
   go_round
   case rel =>
    refine ⟨D ++ [(⟨s, wrap64 (x1 + 1), t2, u2⟩ : Tn)], R, z2, u1, rfl, by simp, ⟨by have := HL.out; simp only [List.length_cons, List.length_append, List.length_nil] at this ⊢; omega⟩, ⟨HD.out.2.2.2.1⟩, ⟨by rw [HE.out, HD.out.2.2.2.2]; simp⟩, ⟨?_⟩, ⟨HI6.out.bel⟩, ⟨HI6.out.kept⟩⟩
    have hs := Kd.H_back HI6.out.h (k87_mkM w6 w0.heap.size oki (⟨s, wrap64 (x1 + 1), t2, u2⟩ : Tn) HI6.out.r2 HI6.out.r3) (fun _ hk => hk)
    rw [Int.toNat_natCast, set_mid] at hs
    rw [List.append_assoc]
    exact hs
   case measure => simp [intOf]; omega
set_option maxHeartbeats 4000000 in
set_option maxRecDepth 100000 in
theorem markSt (k : Nat) (P0 : Nat → Prop) (now : Int) (v : Value) (l : List Tn) (a r1 : Int) (r2 : List Tn) (w0 w : World) (hB : Below w0.heap.size w0 w) (hS : Kd.S k87 87 w w0.heap.size P0 v l) (hl : l.length ≤ 1048576) (h : mk k l a = some (r1, r2)) :
  Calls Tryz.prog 23 #[.agg #[.int .i64 now, v], .int .i64 a] w fun e w' => e = .returned (.int .i64 r1) ∧ Kd.S k87 87 w' w0.heap.size (fun k => P0 k ∨ w.heap.size ≤ k) v r2 ∧ Below w0.heap.size w0 w' ∧ Kept w w' P0 := by
 obtain ⟨A, c, rfl⟩ := Kd.S_slice hS
 have HS := Aside0.mk (Kd.S_alloc hS (.cells #[.int .i64 now, .slice A l.length c] 33))
 have HM := Aside0.mk h
 have HB := Aside0.mk (below_alloc hB (.cells #[.int .i64 now, .slice A l.length c] 33))
 have HK := Aside0.mk ((Kept.refl w P0).alloc (.cells #[.int .i64 now, .slice A l.length c] 33))
 obtain ⟨W1, hW1⟩ : ∃ W, w.alloc (.cells #[.int .i64 now, .slice A l.length c] 33) = W := ⟨_, rfl⟩
 rw [hW1] at HS HB HK
 have y0 : W1.cell? ⟨w.heap.size, 1, none⟩ = some (.slice A l.length c) := by rw [← hW1]; exact (blk_cell (blk_new w _) 1).trans rfl
 have HZ := Aside0.mk HK.out.1
 clear hS h hB
 go_enter Tryz.func23, Tryz.ntmps23
 go_wp2_with fail
 clear hW1
 refine (markT k P0 _ l a r1 r2 w0 W1 HB.out HS.out hl HM.out).mono ?_
 rintro e w2 ⟨rfl, hS2, hB2, hK2⟩
 have HS2 := Aside0.mk hS2
 have HB2 := Aside0.mk hB2
 have HK2 := Aside0.mk (Kept.then_ HK.out hK2 (fun _ h => .inl h))
 clear hS2 hB2 hK2
 go_wp2_with fail
 go_ret
 exact ⟨rfl, Kd.S_mono HS2.out (fun k hk => hk.imp_right (fun h => Nat.le_trans HZ.out h)), HB2.out, HK2.out⟩
end MkT
end Go.Proofs.YtikbfjnbhogihaaGreatDoor.M
namespace Go.Proofs.YtikbfjnbhogihaaGreatDoor.M
open Go.RowKit Go.Proofs.YtikbfjnbhogihaaGreatDoorW.PrintWords Go.Proofs.YtikbfjnbhogihaaGreatDoorW.PrintLast Go.Proofs.YtikbfjnbhogihaaGreatDoorW.PrintMore
attribute [local go_sem] max2_int min2_int max_two min_two max_three min_three max_four min_four
set_option linter.unusedVariables false
set_option linter.unusedSimpArgs false
def IsS189 (w0 W : World) (g : Nat) (f0 : ByteArray) : Prop := W.heap[g]? = some (.cells #[.string f0] 189 (0, 0)) ∧ w0.heap.size ≤ g
theorem IsS189.grown {w0 W : World} {g : Nat} {f0 : ByteArray} {W1 : World} {row : Option Nat} (h : IsS189 w0 W g f0) (hw : W.grownBy W1 row) (hne : some g ≠ row) : IsS189 w0 W1 g f0 := by
 obtain ⟨hb, hg⟩ := h
 exact ⟨blk_grown hb hw hne, hg⟩
theorem IsS189.kept {w0 W : World} {g : Nat} {f0 : ByteArray} {W1 : World} {S : Nat → Prop} (h : IsS189 w0 W g f0) (hk : Kept W W1 S) (hne : ¬ S g) : IsS189 w0 W1 g f0 := by
 obtain ⟨hb, hg⟩ := h
 exact ⟨blk_kept hb hk hne, hg⟩
theorem IsS189.below {w0 W : World} {g : Nat} {f0 : ByteArray} {W1 : World} (h : IsS189 w0 W g f0) (hw : Below W.heap.size W W1) : IsS189 w0 W1 g f0 := h.grown (grown_of_below hw none) (by simp)
theorem IsS189.alloc {w0 W : World} {g : Nat} {f0 : ByteArray} (h : IsS189 w0 W g f0) (o : Obj) : IsS189 w0 (W.alloc o) g f0 := h.below (below_alloc (Below.refl _ _) o)
theorem IsS189.drewN {w0 W : World} {g : Nat} {f0 : ByteArray} (h : IsS189 w0 W g f0) (m : Nat) : IsS189 w0 (W.drewN m) g f0 := h
theorem IsS189.drew {w0 W : World} {g : Nat} {f0 : ByteArray} (h : IsS189 w0 W g f0) : IsS189 w0 W.drew g f0 := h
theorem IsS189.apart {w0 W : World} {g : Nat} {f0 : ByteArray} {α : Type} {d : Kd α} {e : Nat} {base : Nat} {ok : Nat → Prop} {v : Value} {xs : List α} (h : IsS189 w0 W g f0) (ho : d.R e W base ok v xs) (ht : ∀ q, q ∈ e :: d.E → q ≠ 189) : d.R e W base (fun k => ok k ∧ k ≠ g) v xs := by
 obtain ⟨hb, hg⟩ := h
 exact Kd.R_types ho hb ht
theorem IsS189.own_ne {w0 W : World} {g : Nat} {f0 : ByteArray} {α : Type} {d : Kd α} {e : Nat} {base : Nat} {ok : Nat → Prop} {v : Value} {xs : List α} (h : IsS189 w0 W g f0) (ho : d.R e W base ok v xs) (ht : e ≠ 189) : some g ≠ v.ownBlock := by
 obtain ⟨hb, hg⟩ := h
 exact Kd.R_ne ho hb ht
theorem IsS189.ge {w0 W : World} {g : Nat} {f0 : ByteArray} (h : IsS189 w0 W g f0) : w0.heap.size ≤ g := by
 obtain ⟨hb, hg⟩ := h
 exact hg
theorem IsS189.far {w0 W : World} {g : Nat} {f0 : ByteArray} {p : Addr} (h : IsS189 w0 W g f0) (hne : g ≠ p.block) (u : Value) : IsS189 w0 (W.setCell p u) g f0 := by
 obtain ⟨hb, hg⟩ := h
 exact ⟨blk_far hb hne u, hg⟩
theorem cellS189_0 {W : World} {g : Nat} {f0 : ByteArray} (h : W.heap[g]? = some (.cells #[.string f0] 189 (0, 0))) : W.cell? ⟨g, 0, none⟩ = some (.string f0) := (blk_cell h 0).trans rfl
theorem IsS189.set_0 {w0 W : World} {g : Nat} {f0 : ByteArray} (h : IsS189 w0 W g f0) (x : ByteArray) : IsS189 w0 (W.setCell ⟨g, 0, none⟩ (.string x)) g x := by
 obtain ⟨hb, hg⟩ := h
 exact ⟨by simpa using blk_set hb 0 (.string x), hg⟩
/-! ### impl_isMetric: function 63 -/
def impl_isMetric.f (a0 : ByteArray) : Option (Bool) := if a0.toList = ([] : List UInt8) then (some false) else ((impl_valueFault.f a0).bind fun t230 => (some (t230 == 0)))
set_option maxHeartbeats 8000000 in
set_option maxRecDepth 100000 in
theorem impl_isMetric.calls (a0 : ByteArray) (r : Bool) (w : World) (h : impl_isMetric.f a0 = some r) (hT_ : Tabs w) :
  Calls Tryz.prog 63 #[.string a0] w fun e w' => e = .returned (.bool r) ∧ Below w.heap.size w w' := by
 have HT := Aside0.mk hT_
 clear hT_
 have HB := Aside0.mk (Below.refl w.heap.size w)
 have H : (if a0.toList = ([] : List UInt8) then (some false) else ((impl_valueFault.f a0).bind fun t230 => (some (t230 == 0)))) = some r := h
 clear h
 by_cases c2 : a0.toList = ([] : List UInt8)
 ·rw [if_pos c2] at H
  have c2b0 : (a0.toList == ([] : List UInt8)) = true := beq_iff_eq.mpr c2
  have c2b1 : (a0.toList != ([] : List UInt8)) = false := bne_eq_false_iff_eq.mpr c2
  clear c2
  obtain rfl := Option.some.inj H
  go_enter Tryz.func63, Tryz.ntmps63
  go_wp2
  go_ret
  exact ⟨by first | rfl | (simp [errW_none, errW_some] <;> rfl) | (simp [*, errW_none, errW_some] <;> rfl) | (simp [*, errW_none, errW_some]; generalize ByteArray.toList _ = q_; cases q_ <;> rfl), by repeat (first | (with_reducible first | exact HB.out | apply below_alloc | apply pw_below_drewN | apply below_drew1) | exact HB.out)⟩
 ·rw [if_neg c2] at H
  have c2b0 : (a0.toList == ([] : List UInt8)) = false := beq_eq_false_iff_ne.mpr c2
  have c2b1 : (a0.toList != ([] : List UInt8)) = true := bne_iff_ne.mpr c2
  replace H := Option.bind_eq_some_iff.mp H
  obtain ⟨t230, A30, H⟩ := H
  replace H : (some (t230 == 0)) = some r := H
  have A3 := Aside0.mk A30
  clear A30
  obtain rfl := Option.some.inj H
  go_enter Tryz.func63, Tryz.ntmps63
  go_wp2_with (first | (go_at_call 112; (with_reducible refine (impl_valueFault.calls a0 t230 _ A3.out (Tabs.below HT.out (by repeat (first | (with_reducible first | exact HB.out | apply below_alloc | apply pw_below_drewN | apply below_drew1) | exact HB.out | refine below_set ?_ (Aside0.out (by assumption)))))).mono ?_); rintro e w4 ⟨rfl, hb⟩; have n0_ := Aside0.mk (below_step (by repeat (first | (with_reducible first | exact HB.out | apply below_alloc | apply pw_below_drewN | apply below_drew1) | exact HB.out)) hb); clear HB; have HB := n0_; clear n0_; (try clear hb); (try clear hb2); (try clear hk); (try clear hi)))
  go_ret
  exact ⟨by first | rfl | (simp [errW_none, errW_some] <;> rfl) | (simp [*, errW_none, errW_some] <;> rfl) | (simp [*, errW_none, errW_some]; generalize ByteArray.toList _ = q_; cases q_ <;> rfl), by repeat (first | (with_reducible first | exact HB.out | apply below_alloc | apply pw_below_drewN | apply below_drew1) | exact HB.out)⟩
end Go.Proofs.YtikbfjnbhogihaaGreatDoor.M
/- Limits and series, marked. Plain. -/
namespace Go.Proofs.YtikbfjnbhogihaaGreatDoor.Mark
open Go.Proofs.YtikbfjnbhogihaaGreatDoor.M Go.Proofs.YtikbfjnbhogihaaGreatDoor.Loops Go.Proofs.YtikbfjnbhogihaaGreatDoorW.PrintWords Go.Proofs.YtikbfjnbhogihaaGreatDoorW.PrintLast Go.RowKit
noncomputable def mlim (a n : Nat) : List S91 := (List.range n).map fun j => ⟨T (a + 2 * j), ((a + 2 * j + 1 : Nat) : Int)⟩
theorem mark_lim (l : List S91) (a : Nat) (hl : l.length ≤ 1048576) (ha : a ≤ 8388608) : Ev (fun k => laws_markMetricLimitS.f k l a) (((a + 2 * l.length : Nat) : Int), mlim a l.length) := by
 have key : ∀ m j (y : List S91), j + m = l.length → y.length = l.length → y.take j = mlim a j → Ev (fun k => laws_markMetricLimitS.l0 k y ((a + 2 * j : Nat) : Int) (j : Int)) (((a + 2 * l.length : Nat) : Int), mlim a l.length) := by
  intro m
  induction m with
  | zero =>
   intro j y hj hy ht
   refine Ev.step (f := fun _ => some (((a + 2 * j : Nat) : Int), y)) (fun k => by simp only [laws_markMetricLimitS.l0]; rw [if_neg (by omega)]) (Ev.eq (Ev.now _) ?_)
   obtain rfl : j = l.length := by omega
   rw [← ht, List.take_of_length_le (by omega)]
  | succ m ih =>
   intro j y hj hy ht
   have hT := text (a + 2 * j) (by omega)
   have hjy : j < y.length := by omega
   refine Ev.step (f := fun k => (laws_markText.f k ((a + 2 * j : Nat) : Int)).bind fun t => laws_markMetricLimitS.l0 k (y.set j ⟨t, ((a + 2 * j + 1 : Nat) : Int)⟩) ((a + 2 * (j + 1) : Nat) : Int) ((j + 1 : Nat) : Int)) (fun k => ?_) (Ev.bind hT (ih (j + 1) _ (by omega) (by simpa using hy) ?_))
   ·simp only [laws_markMetricLimitS.l0]
    have e1 : wrap64 (((a + 2 * j : Nat) : Int) + 1) = ((a + 2 * j + 1 : Nat) : Int) := by rw [w_id _ (by omega) (by omega)]; omega
    have e2 : wrap64 (((a + 2 * j + 1 : Nat) : Int) + 1) = ((a + 2 * (j + 1) : Nat) : Int) := by rw [w_id _ (by omega) (by omega)]; omega
    rw [if_pos (by omega), e1, e2, w_succ j (by omega), Int.toNat_natCast]
    congr 1
    funext t
    rw [if_pos (by omega)]
    show laws_markMetricLimitS.l0 k ((y.set j _).set j _) _ _ = _
    rw [List.set_set]
    congr 2
    unfold rd_T91
    rw [Int.toNat_natCast, List.getD_eq_getElem?_getD, List.getElem?_set_self hjy]
    rfl
   ·rw [List.take_set, List.take_add_one, List.getElem?_eq_getElem (by omega)]
    simp only [Option.toList_some]
    rw [List.set_append_right _ _ (by rw [List.length_take]; omega), List.length_take, Nat.min_eq_left (by omega), Nat.sub_self, ht]
    simp [mlim, List.range_succ]
 unfold laws_markMetricLimitS.f
 exact key l.length 0 l (by omega) rfl (by simp [mlim])
noncomputable def mser (a n : Nat) : List S93 := (List.range n).map fun j => ⟨T (a + 2 * j), ((a + 2 * j + 1 : Nat) : Int)⟩
theorem mark_ser (l : List S93) (a : Nat) (hl : l.length ≤ 1048576) (ha : a ≤ 8388608) : Ev (fun k => laws_markSeriesS.f k l a) (((a + 2 * l.length : Nat) : Int), mser a l.length) := by
 have key : ∀ m j (y : List S93), j + m = l.length → y.length = l.length → y.take j = mser a j → Ev (fun k => laws_markSeriesS.l0 k y ((a + 2 * j : Nat) : Int) (j : Int)) (((a + 2 * l.length : Nat) : Int), mser a l.length) := by
  intro m
  induction m with
  | zero =>
   intro j y hj hy ht
   refine Ev.step (f := fun _ => some (((a + 2 * j : Nat) : Int), y)) (fun k => by simp only [laws_markSeriesS.l0]; rw [if_neg (by omega)]) (Ev.eq (Ev.now _) ?_)
   obtain rfl : j = l.length := by omega
   rw [← ht, List.take_of_length_le (by omega)]
  | succ m ih =>
   intro j y hj hy ht
   have hT := text (a + 2 * j) (by omega)
   have hjy : j < y.length := by omega
   refine Ev.step (f := fun k => (laws_markText.f k ((a + 2 * j : Nat) : Int)).bind fun t => laws_markSeriesS.l0 k (y.set j ⟨t, ((a + 2 * j + 1 : Nat) : Int)⟩) ((a + 2 * (j + 1) : Nat) : Int) ((j + 1 : Nat) : Int)) (fun k => ?_) (Ev.bind hT (ih (j + 1) _ (by omega) (by simpa using hy) ?_))
   ·simp only [laws_markSeriesS.l0]
    have e1 : wrap64 (((a + 2 * j : Nat) : Int) + 1) = ((a + 2 * j + 1 : Nat) : Int) := by rw [w_id _ (by omega) (by omega)]; omega
    have e2 : wrap64 (((a + 2 * j + 1 : Nat) : Int) + 1) = ((a + 2 * (j + 1) : Nat) : Int) := by rw [w_id _ (by omega) (by omega)]; omega
    rw [if_pos (by omega), e1, e2, w_succ j (by omega), Int.toNat_natCast]
    congr 1
    funext t
    rw [if_pos (by omega)]
    show laws_markSeriesS.l0 k ((y.set j _).set j _) _ _ = _
    rw [List.set_set]
    congr 2
    unfold rd_T93
    rw [Int.toNat_natCast, List.getD_eq_getElem?_getD, List.getElem?_set_self hjy]
    rfl
   ·rw [List.take_set, List.take_add_one, List.getElem?_eq_getElem (by omega)]
    simp only [Option.toList_some]
    rw [List.set_append_right _ _ (by rw [List.length_take]; omega), List.length_take, Nat.min_eq_left (by omega), Nat.sub_self, ht]
    simp [mser, List.range_succ]
 unfold laws_markSeriesS.f
 exact key l.length 0 l (by omega) rfl (by simp [mser])
def cells1 (x : MkT.Tn) : Nat := 2 + 2 * x.f2.length + 2 * x.f3.length
def cellsT : List MkT.Tn → Nat
 | [] => 0
 | x :: l => cells1 x + cellsT l
noncomputable def mT : List MkT.Tn → Nat → List MkT.Tn
 | [], _ => []
 | x :: l, a => ⟨T a, ((a + 1 : Nat) : Int), mlim (a + 2) x.f2.length, mser (a + 2 + 2 * x.f2.length) x.f3.length⟩ :: mT l (a + cells1 x)
theorem mk_tens : ∀ (l : List MkT.Tn) (a : Nat), (∀ x ∈ l, x.f2.length ≤ 1048576 ∧ x.f3.length ≤ 1048576) → a + cellsT l ≤ 8388608 → Ev (fun k => MkT.mk k l (a : Int)) (((a + cellsT l : Nat) : Int), mT l a)
 | [], a, _, _ => Ev.eq (Ev.now ((a : Int), ([] : List MkT.Tn))) rfl
 | x :: l, a, hx, h => by
  have h2 : a + (2 + 2 * x.f2.length + 2 * x.f3.length + cellsT l) ≤ 8388608 := h
  have hx0 := hx x List.mem_cons_self
  have ih := mk_tens l (a + cells1 x) (fun y hy => hx y (List.mem_cons_of_mem _ hy)) (by unfold cells1; omega)
  have e1 : wrap64 ((a : Int) + 1) = ((a + 1 : Nat) : Int) := by rw [w_id _ (by omega) (by omega)]; omega
  have e2 : wrap64 (((a + 1 : Nat) : Int) + 1) = ((a + 2 : Nat) : Int) := by rw [w_id _ (by omega) (by omega)]; omega
  unfold MkT.mk
  rw [e1, e2]
  refine Ev.bind (text a (by omega)) (Ev.bind (mark_lim x.f2 (a + 2) hx0.1 (by omega)) (Ev.bind (mark_ser x.f3 (a + 2 + 2 * x.f2.length) hx0.2 (by omega)) ?_))
  have e3 : a + 2 + 2 * x.f2.length + 2 * x.f3.length = a + cells1 x := by unfold cells1; omega
  show Ev (fun k => (MkT.mk k l ((a + 2 + 2 * x.f2.length + 2 * x.f3.length : Nat) : Int)).bind _) _
  rw [e3]
  refine Ev.bind ih (Ev.eq (Ev.now _) ?_)
  show (((a + cells1 x + cellsT l : Nat) : Int), _) = (((a + (cells1 x + cellsT l) : Nat) : Int), _)
  rw [Nat.add_assoc]
  rfl
end Go.Proofs.YtikbfjnbhogihaaGreatDoor.Mark
