import Derived.Test.YtikbfjnbhogihaaGreatDoorShS
import Derived.Test.YtikbfjnbhogihaaGreatDoorSShelf
import Derived.Test.YtikbfjnbhogihaaGreatDoorKeyDec
import Derived.Test.YtikbfjnbhogihaaGreatDoorShL
import Derived.Test.YtikbfjnbhogihaaGreatDoorKeyLaw
/- laws.FnExactShards: the law's own walk. It answers true. -/
namespace Go.Proofs.YtikbfjnbhogihaaGreatDoor.M
open Go.RowKit Go.Proofs.YtikbfjnbhogihaaGreatDoor.StLaws Go.Proofs.YtikbfjnbhogihaaGreatDoorW.PrintWords Go.Proofs.YtikbfjnbhogihaaGreatDoorW.PrintLast Go.Proofs.YtikbfjnbhogihaaGreatDoorW.PrintMore Bk
set_option linter.unusedVariables false
set_option linter.unusedSimpArgs false
namespace LawSh
abbrev TI := S159
theorem kept3 {w W W' : World} {g1 g2 g3 : Nat} {o1 o2 o3 : Obj} {S : Nat → Prop} (h : Kp w W [(g1, o1), (g2, o2), (g3, o3)]) (hk : Kept W W' S) (hb : Below w.heap.size w W') (n1 : ¬ S g1) (n2 : ¬ S g2) (n3 : ¬ S g3) : Kp w W' [(g1, o1), (g2, o2), (g3, o3)] := ⟨hb, fun p hp => by
 refine blk_kept (h.has p hp) hk ?_
 simp only [List.mem_cons, List.not_mem_nil, or_false] at hp
 rcases hp with rfl | rfl | rfl
 ·exact n1
 ·exact n2
 ·exact n3⟩
abbrev oC (a b c d e f : Int) : Obj := .cells #[.int .i64 a, .int .i64 b, .int .i64 c, .int .i64 d, .int .i64 e, .int .i64 f] 23
abbrev oI (now : Int) (A : Option Addr) (n cp : Nat) : Obj := .cells #[.int .i64 now, .slice A n cp] 26
set_option maxHeartbeats 8000000 in
set_option maxRecDepth 100000 in
theorem law (a b c d e f now : Int) (A : Option Addr) (cp : Nat) (l : List TI) (n : ByteArray) (w : World) (hr : Kd.C k159 w A l.length l) (hc : l.length ≤ cp) (hl : l.length ≤ maxLen) (hbl : ∀ y ∈ l, b159 y) (hm : n.size ≤ maxLen) (hT : Tabs w) :
  Calls Tryz.prog 5 #[.agg #[.int .i64 a, .int .i64 b, .int .i64 c, .int .i64 d, .int .i64 e, .int .i64 f], .agg #[.int .i64 now, .slice A l.length cp], .string n] w fun e w' => e = .returned (.bool true) ∧ Below w.heap.size w w' := by
 have hu1 := Tryz.underlying23
 have hu2 := Tryz.underlying26
 have hu3 := Tryz.underlying33
 obtain ⟨sz, ⟨K1, hsz⟩, hw⟩ := sz_state now l hl hbl
 have HZ := Aside0.mk (hsz K1 (Nat.le_refl _))
 have HR := Aside0.mk (And.intro hr hc)
 have HW := Aside0.mk hw
 have HT := Aside0.mk hT
 have KK : Aside0 (Kp w ((w.alloc (oC a b c d e f)).alloc (oI now A l.length cp)) [(w.heap.size + 1, oI now A l.length cp), (w.heap.size, oC a b c d e f)]) := ⟨St.two w _ _⟩
 clear hsz hw hr hc hl hbl hT
 by_cases h1 : 1048576 < n.size
 ·have d1 : decide (1048576 < (n.size : Int)) = true := decide_eq_true (by omega)
  have d2 : decide (1048576 < n.size) = true := decide_eq_true h1
  clear h1
  go_enter Tryz.func5, Tryz.ntmps5
  go_wp2
  go_ret
  exact ⟨rfl, KK.out.bel⟩
 have d1 : decide (1048576 < (n.size : Int)) = false := decide_eq_false (by omega)
 have d2 : decide (1048576 < n.size) = false := decide_eq_false h1
 clear h1
 by_cases h2 : sz < 0
 ·have d3 : decide (sz < 0) = true := decide_eq_true h2
  clear h2
  go_enter Tryz.func5, Tryz.ntmps5
  go_wp2_with (go_at_call 12; refine (laws_szState.calls K1 now A cp l 1048576 sz _ (Kd.C_below HR.out.1 KK.out.bel) HR.out.2 HZ.out).mono ?_; rintro x_ w_ ⟨rfl, hb⟩; have K2 := Aside0.mk (KK.out.step hb); clear KK hb)
  go_ret
  exact ⟨rfl, K2.out.bel⟩
 have d3 : decide (sz < 0) = false := decide_eq_false h2
 have hf := HW.out (by omega)
 obtain ⟨Ks, e1, e2, e3, e4, e5⟩ := st_all now l hf
 obtain ⟨Kr, R, G, M, r1, r3, r4, r5, r6, r7⟩ := Shd.sh_all a b c d e f now l n hf
 obtain ⟨E, hE⟩ : ∃ E : Nat, E = 1 + Mark.cellsT (l.map StLaws.cT) := ⟨_, rfl⟩
 obtain ⟨X, hX⟩ : ∃ X, X = Mark.mT (l.map StLaws.cT) 1 := ⟨_, rfl⟩
 rw [← hE, ← hX] at e3
 obtain ⟨ts, hts⟩ : ∃ ts, ts = l.map StLaws.cT := ⟨_, rfl⟩
 rw [← hts] at e1 e2 e3 e4 e5 r1
 have HS : Aside0 (laws_toState.f Ks now l = some (now, ts) ∧ laws_eqState.f Ks now ts now ts = some true ∧ MkT.mk Ks ts 1 = some ((E : Int), X) ∧ ts.length ≤ 1048576 ∧ ∀ t ∈ ts, StOK.Sm t) := ⟨e1, e2, e3, e4, e5⟩
 have HP : Aside0 (R = Shd.shR a b c d e f now ts n ∧ laws_eqStringSS.f Kr R R = some true ∧ MkSS.mk Kr R 1 = some ((M : Int), G) ∧ laws_heldStringSS.f Kr G 1 = some (M : Int) ∧ R.length ≤ 1048576 ∧ G.length = R.length) := ⟨r1, r3, r4, r5, r6, r7⟩
 have hE0 : (0 : Int) ≤ (E : Int) := Int.natCast_nonneg E
 have hM0 : (0 : Int) ≤ (M : Int) := Int.natCast_nonneg M
 clear h2 hf e1 e2 e3 e4 e5 r1 r3 r4 r5 r6 r7 hE hX hts HW
 go_enter Tryz.func5, Tryz.ntmps5
 go_upto_region 7 with (go_at_call 12; refine (laws_szState.calls K1 now A cp l 1048576 sz _ (Kd.C_below HR.out.1 KK.out.bel) HR.out.2 HZ.out).mono ?_; rintro x_ w1 ⟨rfl, hb⟩; have K2 := Aside0.mk (KK.out.step hb); clear KK hb; have KK := K2; clear K2)
 clear d1 d2 d3
 have K0 := KK
 clear KK
 have KK := Aside0.mk K0.out.drew
 clear K0
 refine start_ (n := 7) (S := fun w' => (w'.cell? ⟨w.heap.size, 0, none⟩ = some (.int .i64 a) ∧ w'.cell? ⟨w.heap.size, 1, none⟩ = some (.int .i64 b) ∧ w'.cell? ⟨w.heap.size, 2, none⟩ = some (.int .i64 c) ∧ w'.cell? ⟨w.heap.size, 3, none⟩ = some (.int .i64 d) ∧ w'.cell? ⟨w.heap.size, 4, none⟩ = some (.int .i64 e) ∧ w'.cell? ⟨w.heap.size, 5, none⟩ = some (.int .i64 f)) ∧ w'.cell? ⟨w.heap.size + 1, 0, none⟩ = some (.int .i64 now) ∧ w'.cell? ⟨w.heap.size + 1, 1, none⟩ = some (.slice A l.length cp)) (ds := []) #[false, false, false, false, false, false, false] (by kernel_rfl) rfl rfl ⟨c6 KK.out.tl.fst, c2 KK.out.fst⟩ (fun hHeld => ?_)
 generalize w1.drew = w2 at KK hHeld ⊢
 refine tk_ 0 (some 23) (hy := by rintro w' ⟨⟨z0, z1, z2, z3, z4, z5⟩, y0, y1⟩; go_simp; with_reducible rfl) (hS := hHeld) (h := ?_)
 refine tk_ 2 (some 25) (hy := by rintro w' ⟨⟨z0, z1, z2, z3, z4, z5⟩, y0, y1⟩; go_simp; with_reducible rfl) (hS := hHeld) (h := ?_)
 refine pu_ 4 (some 27) (h := ?_)
 refine on_ 1 (some 24) (h := fun K hK => ?_)
 refine goes_ Tryz.func14 (by kernel_rfl) rfl #[.agg #[.int .i64 a, .int .i64 b, .int .i64 c, .int .i64 d, .int .i64 e, .int .i64 f]] (by rfl) rfl rfl (by simp only [List.map_toArray, List.map_cons, List.map_nil]; rfl) ?_
 refine (laws_toConfig.calls a b c d e f a b c d e f _ rfl).mono ?_
 rintro x_ w_ ⟨rfl, hb⟩
 refine ⟨_, rfl, ?_⟩
 have n_KK := Aside0.mk (KK.out.step hb)
 clear KK hb
 have KK := n_KK
 clear n_KK
 refine hK.out _ _ ⟨c6 KK.out.tl.fst, c2 KK.out.fst⟩ (fun hHeld => ?_)
 clear hK K
 refine nm_ (some 24) _ (h := ?_)
 refine on_ 3 (some 26) (h := fun K hK => ?_)
 refine goes_ Tryz.func15 (by kernel_rfl) rfl #[.agg #[.int .i64 now, .slice A l.length cp]] (by rfl) rfl rfl (by simp only [List.map_toArray, List.map_cons, List.map_nil]; rfl) ?_
 refine (laws_toState.calls Ks now A cp l now ts _ (Kd.C_below HR.out.1 KK.out.bel) HR.out.2 HS.out.1).mono ?_
 rintro x_ w_ ⟨v, rfl, hX, hb⟩
 refine ⟨_, rfl, ?_⟩
 obtain ⟨A1, c1, rfl⟩ := Kd.S_slice hX
 have n_KK := Aside0.mk (KK.out.step hb)
 clear KK hb
 have KK := n_KK
 clear n_KK
 have HX := Aside0.mk hX
 clear hX
 refine hK.out _ _ ⟨c6 KK.out.tl.fst, c2 KK.out.fst⟩ (fun hHeld => ?_)
 clear hK K
 refine nm_ (some 26) _ (h := ?_)
 refine on_ 5 (some 28) (h := fun K hK => ?_)
 refine goes_ Tryz.func20 (by kernel_rfl) rfl #[.agg #[.int .i64 a, .int .i64 b, .int .i64 c, .int .i64 d, .int .i64 e, .int .i64 f], .agg #[.int .i64 now, .slice A1 ts.length c1], .string n] (by rfl) rfl rfl (by simp only [List.map_toArray, List.map_cons, List.map_nil]; rfl) ?_
 refine (Shd.sshards_r _ a b c d e f now A1 c1 ts n (Kd.S_reads' HX.out).2.2 (Kd.S_reads' HX.out).2.1 HS.out.2.2.2 R HP.out.1).mono ?_
 rintro x_ w_ ⟨v, rfl, hY, hb⟩
 refine ⟨_, rfl, ?_⟩
 obtain ⟨A2, c2_, rfl⟩ := Kd.S_slice hY
 clear HX
 have HY := Aside0.mk (Kd.S_lower hY KK.out.bel.size)
 have n_KK := Aside0.mk (KK.out.step hb)
 clear KK hb
 have KK := n_KK
 clear n_KK
 clear hY
 refine hK.out _ _ ⟨c6 KK.out.tl.fst, c2 KK.out.fst⟩ (fun hHeld => ?_)
 clear hK K
 refine nm_ (some 28) _ (h := ?_)
 refine pu_ 6 (some 8) (h := ?_)
 refine done_ (by kernel_rfl) ?_
 rename World => w4
 have HY2 : Aside0 (Kd.S (Kd.slice 9 Kd.string) 117 w4 w.heap.size (fun k => k < w4.heap.size) (.slice A2 R.length c2_) R) := ⟨Kd.S_mono (Kd.S_bound HY.out) (fun k hk => hk.2.2.1)⟩
 have HN1 := Aside0.mk (blk_lt KK.out.fst)
 clear HY hHeld
 have HY := HY2
 clear HY2
 obtain ⟨y0, y1⟩ := c2 KK.out.fst
 go_upto_region 9 with (go_at_call 15; refine (laws_toState.calls Ks now A cp l now ts _ (Kd.C_below HR.out.1 KK.out.bel) HR.out.2 HS.out.1).mono ?_; rintro x_ w5 ⟨v, rfl, hX, hb⟩; obtain ⟨A3, c3_, rfl⟩ := Kd.S_slice hX; clear y0 y1; have HN3 := Aside0.mk hb.size; have n_KK := Aside0.mk (KK.out.step hb); have n_HY := Aside0.mk (Kd.S_below HY.out hb); clear KK HY hb; have KK := n_KK; have HY := n_HY; clear n_KK n_HY; obtain ⟨W5, hW5⟩ : ∃ W, w5.alloc (cS now A3 ts.length c3_) = W := ⟨_, rfl⟩; have K5 : Aside0 (Kp w W5 ((w5.heap.size, cS now A3 ts.length c3_) :: [(w.heap.size + 1, oI now A l.length cp), (w.heap.size, oC a b c d e f)])) := ⟨by rw [← hW5]; exact KK.out.new _⟩; have HY5 : Aside0 (Kd.S (Kd.slice 9 Kd.string) 117 W5 w.heap.size (fun k => k < w4.heap.size) (.slice A2 R.length c2_) R) := ⟨by rw [← hW5]; exact Kd.S_alloc HY.out _⟩; have HX5 : Aside0 (Kd.S k87 87 W5 w.heap.size (fun k => w4.heap.size ≤ k ∧ k < w5.heap.size) (.slice A3 ts.length c3_) ts) := ⟨by rw [← hW5]; exact Kd.S_alloc (Kd.S_lower (Kd.S_mono (Kd.S_bound hX) (fun k hk => ⟨hk.2.1, hk.2.2.1⟩)) (Nat.le_of_lt (Nat.lt_of_succ_lt HN1.out))) _⟩; clear KK HY hX)
 clear hW5
 have KK := Aside0.mk K5.out.drew
 have HY := Aside0.mk (Kd.S_drew HY5.out)
 have HX := Aside0.mk (Kd.S_drew HX5.out)
 clear K5 HY5 HX5
 refine start_ (n := 6) (S := fun w' => (w'.cell? ⟨w.heap.size, 0, none⟩ = some (.int .i64 a) ∧ w'.cell? ⟨w.heap.size, 1, none⟩ = some (.int .i64 b) ∧ w'.cell? ⟨w.heap.size, 2, none⟩ = some (.int .i64 c) ∧ w'.cell? ⟨w.heap.size, 3, none⟩ = some (.int .i64 d) ∧ w'.cell? ⟨w.heap.size, 4, none⟩ = some (.int .i64 e) ∧ w'.cell? ⟨w.heap.size, 5, none⟩ = some (.int .i64 f)) ∧ w'.cell? ⟨w5.heap.size, 0, none⟩ = some (.int .i64 now) ∧ w'.cell? ⟨w5.heap.size, 1, none⟩ = some (.slice A3 ts.length c3_)) (ds := []) #[false, false, false, false, false, false] (by kernel_rfl) rfl rfl ⟨c6 KK.out.tl.tl.fst, c2 KK.out.fst⟩ (fun hHeld => ?_)
 generalize W5.drew = w5b at KK HY HX hHeld ⊢
 refine tk_ 0 (some 31) (hy := by rintro w' ⟨⟨z0, z1, z2, z3, z4, z5⟩, y0, y1⟩; go_simp; with_reducible rfl) (hS := hHeld) (h := ?_)
 refine tk_ 2 (some 33) (hy := by rintro w' ⟨⟨z0, z1, z2, z3, z4, z5⟩, y0, y1⟩; go_simp; with_reducible rfl) (hS := hHeld) (h := ?_)
 refine pu_ 3 (some 34) (h := ?_)
 refine on_ 1 (some 32) (h := fun K hK => ?_)
 refine goes_ Tryz.func14 (by kernel_rfl) rfl #[.agg #[.int .i64 a, .int .i64 b, .int .i64 c, .int .i64 d, .int .i64 e, .int .i64 f]] (by rfl) rfl rfl (by simp only [List.map_toArray, List.map_cons, List.map_nil]; rfl) ?_
 refine (laws_toConfig.calls a b c d e f a b c d e f _ rfl).mono ?_
 rintro x_ w6 ⟨rfl, hb⟩
 refine ⟨_, rfl, ?_⟩
 have n_KK := Aside0.mk (KK.out.step hb)
 have n_HY := Aside0.mk (Kd.S_below HY.out hb)
 have n_HX := Aside0.mk (Kd.S_below HX.out hb)
 clear KK HY HX hb
 have KK := n_KK
 have HY := n_HY
 have HX := n_HX
 clear n_KK n_HY n_HX
 refine hK.out _ _ ⟨c6 KK.out.tl.tl.fst, c2 KK.out.fst⟩ (fun hHeld => ?_)
 clear hK K
 refine nm_ (some 32) _ (h := ?_)
 refine on_ 4 (some 35) (h := fun K hK => ?_)
 refine goes_ Tryz.func21 (by kernel_rfl) rfl #[.agg #[.int .i64 a, .int .i64 b, .int .i64 c, .int .i64 d, .int .i64 e, .int .i64 f], .agg #[.int .i64 now, .slice A3 ts.length c3_], .string n] (by rfl) rfl rfl (by simp only [List.map_toArray, List.map_cons, List.map_nil]; rfl) ?_
 refine (Shd.ishards_r _ a b c d e f now A3 c3_ ts n (Kd.S_reads' HX.out).2.2 (Kd.S_reads' HX.out).2.1 HS.out.2.2.2 (HT.out.below KK.out.bel) R HP.out.1).mono ?_
 rintro x_ w7 ⟨v, rfl, hG, hb⟩
 refine ⟨_, rfl, ?_⟩
 have HN2 := Aside0.mk (blk_lt KK.out.fst)
 have HG : Aside0 (Kd.S (Kd.slice 9 Kd.string) 117 w7 w.heap.size (fun k => w6.heap.size ≤ k ∧ k < w7.heap.size) v R) := ⟨Kd.S_lower (Kd.S_mono (Kd.S_bound hG) (fun k hk => ⟨hk.2.1, hk.2.2.1⟩)) KK.out.bel.size⟩
 clear hG
 obtain ⟨A4, c4_, rfl⟩ := Kd.S_slice HG.out
 have n_KK := Aside0.mk (KK.out.step hb)
 have n_HY := Aside0.mk (Kd.S_below HY.out hb)
 have n_HX := Aside0.mk (Kd.S_below HX.out hb)
 clear KK HY HX hb
 have KK := n_KK
 have HY := n_HY
 have HX := n_HX
 clear n_KK n_HY n_HX
 refine hK.out _ _ ⟨c6 KK.out.tl.tl.fst, c2 KK.out.fst⟩ (fun hHeld => ?_)
 clear hK K
 refine nm_ (some 35) _ (h := ?_)
 refine pu_ 5 (some 10) (h := ?_)
 refine done_ (by kernel_rfl) ?_
 clear hHeld
 go_upto_region 12 with (go_at_call 22; refine (laws_eqStringSS.calls Kr A4 c4_ R A2 c2_ R true _ (Kd.S_reads' HG.out).2.2 (Kd.S_reads' HG.out).2.1 (Kd.S_reads' HY.out).2.2 (Kd.S_reads' HY.out).2.1 HP.out.2.1).mono ?_; rintro x_ w8 ⟨rfl, hd⟩; have hb := hd.below; clear hd; have n_KK := Aside0.mk (KK.out.step hb); have n_HY := Aside0.mk (Kd.S_below HY.out hb); have n_HX := Aside0.mk (Kd.S_below HX.out hb); have n_HG := Aside0.mk (Kd.S_below HG.out hb); clear KK HY HX HG hb; have KK := n_KK; have HY := n_HY; have HX := n_HX; have HG := n_HG; clear n_KK n_HY n_HX n_HG)
 have n_KK := Aside0.mk (KK.out.drew)
 have n_HY := Aside0.mk (Kd.S_drew HY.out)
 have n_HX := Aside0.mk (Kd.S_drew HX.out)
 have n_HG := Aside0.mk (Kd.S_drew HG.out)
 clear KK HY HX HG
 have KK := n_KK
 have HY := n_HY
 have HX := n_HX
 have HG := n_HG
 clear n_KK n_HY n_HX n_HG
 refine start_ (n := 5) (S := fun w' => (w'.cell? ⟨w5.heap.size, 0, none⟩ = some (.int .i64 now) ∧ w'.cell? ⟨w5.heap.size, 1, none⟩ = some (.slice A3 ts.length c3_)) ∧ w'.cell? ⟨w.heap.size + 1, 0, none⟩ = some (.int .i64 now) ∧ w'.cell? ⟨w.heap.size + 1, 1, none⟩ = some (.slice A l.length cp)) (ds := []) #[false, false, false, false, false] (by kernel_rfl) rfl rfl ⟨c2 KK.out.fst, c2 KK.out.tl.fst⟩ (fun hHeld => ?_)
 generalize w8.drew = w8b at KK HY HX HG hHeld ⊢
 refine tk_ 0 (some 40) (hy := by rintro w' ⟨⟨x0, x1⟩, y0, y1⟩; go_simp; with_reducible rfl) (hS := hHeld) (h := ?_)
 refine tk_ 1 (some 41) (hy := by rintro w' ⟨⟨x0, x1⟩, y0, y1⟩; go_simp; with_reducible rfl) (hS := hHeld) (h := ?_)
 refine on_ 2 (some 42) (h := fun K hK => ?_)
 refine goes_ Tryz.func15 (by kernel_rfl) rfl #[.agg #[.int .i64 now, .slice A l.length cp]] (by rfl) rfl rfl (by simp only [List.map_toArray, List.map_cons, List.map_nil]; rfl) ?_
 refine (laws_toState.calls Ks now A cp l now ts _ (Kd.C_below HR.out.1 KK.out.bel) HR.out.2 HS.out.1).mono ?_
 rintro x_ w9 ⟨v, rfl, hV, hb⟩
 refine ⟨_, rfl, ?_⟩
 obtain ⟨A5, c5_, rfl⟩ := Kd.S_slice hV
 have n_KK := Aside0.mk (KK.out.step hb)
 have n_HY := Aside0.mk (Kd.S_below HY.out hb)
 have n_HX := Aside0.mk (Kd.S_below HX.out hb)
 have n_HG := Aside0.mk (Kd.S_below HG.out hb)
 clear KK HY HX HG hb
 have KK := n_KK
 have HY := n_HY
 have HX := n_HX
 have HG := n_HG
 clear n_KK n_HY n_HX n_HG
 have HV := Aside0.mk hV
 clear hV
 refine hK.out _ _ ⟨c2 KK.out.fst, c2 KK.out.tl.fst⟩ (fun hHeld => ?_)
 clear hK K
 refine nm_ (some 42) _ (h := ?_)
 refine on_ 3 (some 43) (h := fun K hK => ?_)
 refine goes_ Tryz.func17 (by kernel_rfl) rfl #[.agg #[.int .i64 now, .slice A3 ts.length c3_], .agg #[.int .i64 now, .slice A5 ts.length c5_]] (by rfl) rfl rfl (by simp only [List.map_toArray, List.map_cons, List.map_nil]; rfl) ?_
 refine (laws_eqState.calls Ks now A3 c3_ ts now A5 c5_ ts true _ (Kd.S_reads' HX.out).2.2 (Kd.S_reads' HX.out).2.1 (Kd.S_reads' HV.out).2.2 (Kd.S_reads' HV.out).2.1 HS.out.2.1).mono ?_
 rintro x_ w10 ⟨rfl, hb⟩
 refine ⟨_, rfl, ?_⟩
 clear HV
 have n_KK := Aside0.mk (KK.out.step hb)
 have n_HY := Aside0.mk (Kd.S_below HY.out hb)
 have n_HX := Aside0.mk (Kd.S_below HX.out hb)
 have n_HG := Aside0.mk (Kd.S_below HG.out hb)
 clear KK HY HX HG hb
 have KK := n_KK
 have HY := n_HY
 have HX := n_HX
 have HG := n_HG
 clear n_KK n_HY n_HX n_HG
 refine hK.out _ _ ⟨c2 KK.out.fst, c2 KK.out.tl.fst⟩ (fun hHeld => ?_)
 clear hK K
 refine nm_ (some 43) _ (h := ?_)
 refine pu_ 4 (some 44) (h := ?_)
 refine done_ (by kernel_rfl) ?_
 clear hHeld
 obtain ⟨y0, y1⟩ := c2 KK.out.fst
 go_upto_region 26 with (first
  | (go_at_call 23; refine (MkT.markSt Ks (fun k => w4.heap.size ≤ k ∧ k < w5.heap.size) now _ ts 1 E X w _ KK.out.bel HX.out HS.out.2.2.2.1 HS.out.2.2.1).mono ?_; rintro x_ w11 ⟨rfl, hS, hB, hk⟩; clear y0 y1 HX hS; have n_KK := Aside0.mk (kept3 KK.out hk hB (fun h => by have h1 := HN1.out; have h2 := HN2.out; omega) (fun h => by have h1 := HN1.out; have h2 := HN2.out; omega) (fun h => by have h1 := HN1.out; have h2 := HN2.out; omega)); have n_HY := Aside0.mk (Kd.S_kept HY.out hk (fun k hk' h => by omega)); have n_HG := Aside0.mk (Kd.S_kept HG.out hk (fun k hk' h => by have h2 := HN2.out; omega)); clear KK HY HG hk hB; have KK := n_KK; have HY := n_HY; have HG := n_HG; clear n_KK n_HY n_HG)
  | (go_at_call 22; refine (laws_eqStringSS.calls Kr A4 c4_ R A2 c2_ R true _ (Kd.S_reads' HG.out).2.2 (Kd.S_reads' HG.out).2.1 (Kd.S_reads' HY.out).2.2 (Kd.S_reads' HY.out).2.1 HP.out.2.1).mono ?_; rintro x_ w11b ⟨rfl, hd⟩; have hb := hd.below; clear hd; have n_KK := Aside0.mk (KK.out.step hb); have n_HY := Aside0.mk (Kd.S_below HY.out hb); have n_HG := Aside0.mk (Kd.S_below HG.out hb); clear KK HY HG hb; have KK := n_KK; have HY := n_HY; have HG := n_HG; clear n_KK n_HY n_HG)
  | (go_at_call 24; refine (MkSS.markSS Kr (fun k => w6.heap.size ≤ k ∧ k < w7.heap.size) _ R 1 M G w _ KK.out.bel HG.out HP.out.2.2.2.2.1 HP.out.2.2.1).mono ?_; rintro x_ w12 ⟨rfl, hS, hB, hk⟩; have n_KK := Aside0.mk (kept3 KK.out hk hB (fun h => by have h1 := HN1.out; have h2 := HN2.out; omega) (fun h => by have h1 := HN1.out; have h2 := HN2.out; have h3 := HN3.out; omega) (fun h => by have h1 := HN1.out; have h2 := HN2.out; have h3 := HN3.out; omega)); have n_HY := Aside0.mk (Kd.S_kept HY.out hk (fun k hk' h => by have h1 := HN1.out; have h2 := HN2.out; have h3 := HN3.out; omega)); clear KK HY HG hk hB; have KK := n_KK; have HY := n_HY; have HQ := Aside0.mk hS; clear n_KK n_HY hS)
  | (go_at_call 25; have hh := fun W h => laws_heldStringSS.calls Kr A4 c4_ G 1 (M : Int) W h ((Kd.S_reads' HQ.out).1 ▸ (Kd.S_reads' HQ.out).2.1) HP.out.2.2.2.1; rw [HP.out.2.2.2.2.2] at hh; replace hh := hh _ (HP.out.2.2.2.2.2 ▸ (Kd.S_reads' HQ.out).2.2); refine (hh).mono ?_; rintro x_ w13 ⟨rfl, hb⟩; clear hh; have n_KK := Aside0.mk (KK.out.step hb); have n_HY := Aside0.mk (Kd.S_below HY.out hb); have n_HQ := Aside0.mk (Kd.S_below HQ.out hb); clear KK HY HQ hb; have KK := n_KK; have HY := n_HY; have HQ := n_HQ; clear n_KK n_HY n_HQ))
 have n_KK := Aside0.mk (KK.out.drew)
 have n_HY := Aside0.mk (Kd.S_drew HY.out)
 have n_HQ := Aside0.mk (Kd.S_drew HQ.out)
 clear KK HY HQ
 have KK := n_KK
 have HY := n_HY
 have HQ := n_HQ
 clear n_KK n_HY n_HQ
 refine start_ (n := 7) (S := fun w' => (w'.cell? ⟨w.heap.size, 0, none⟩ = some (.int .i64 a) ∧ w'.cell? ⟨w.heap.size, 1, none⟩ = some (.int .i64 b) ∧ w'.cell? ⟨w.heap.size, 2, none⟩ = some (.int .i64 c) ∧ w'.cell? ⟨w.heap.size, 3, none⟩ = some (.int .i64 d) ∧ w'.cell? ⟨w.heap.size, 4, none⟩ = some (.int .i64 e) ∧ w'.cell? ⟨w.heap.size, 5, none⟩ = some (.int .i64 f)) ∧ w'.cell? ⟨w.heap.size + 1, 0, none⟩ = some (.int .i64 now) ∧ w'.cell? ⟨w.heap.size + 1, 1, none⟩ = some (.slice A l.length cp)) (ds := []) #[false, false, false, false, false, false, false] (by kernel_rfl) rfl rfl ⟨c6 KK.out.tl.tl.fst, c2 KK.out.tl.fst⟩ (fun hHeld => ?_)
 generalize w13.drew = w13b at KK HY HQ hHeld ⊢
 refine tk_ 0 (some 67) (hy := by rintro w' ⟨⟨z0, z1, z2, z3, z4, z5⟩, y0, y1⟩; go_simp; with_reducible rfl) (hS := hHeld) (h := ?_)
 refine tk_ 2 (some 69) (hy := by rintro w' ⟨⟨z0, z1, z2, z3, z4, z5⟩, y0, y1⟩; go_simp; with_reducible rfl) (hS := hHeld) (h := ?_)
 refine pu_ 4 (some 71) (h := ?_)
 refine on_ 1 (some 68) (h := fun K hK => ?_)
 refine goes_ Tryz.func14 (by kernel_rfl) rfl #[.agg #[.int .i64 a, .int .i64 b, .int .i64 c, .int .i64 d, .int .i64 e, .int .i64 f]] (by rfl) rfl rfl (by simp only [List.map_toArray, List.map_cons, List.map_nil]; rfl) ?_
 refine (laws_toConfig.calls a b c d e f a b c d e f _ rfl).mono ?_
 rintro x_ w14 ⟨rfl, hb⟩
 refine ⟨_, rfl, ?_⟩
 have n_KK := Aside0.mk (KK.out.step hb)
 have n_HY := Aside0.mk (Kd.S_below HY.out hb)
 have n_HQ := Aside0.mk (Kd.S_below HQ.out hb)
 clear KK HY HQ hb
 have KK := n_KK
 have HY := n_HY
 have HQ := n_HQ
 clear n_KK n_HY n_HQ
 refine hK.out _ _ ⟨c6 KK.out.tl.tl.fst, c2 KK.out.tl.fst⟩ (fun hHeld => ?_)
 clear hK K
 refine nm_ (some 68) _ (h := ?_)
 refine on_ 3 (some 70) (h := fun K hK => ?_)
 refine goes_ Tryz.func15 (by kernel_rfl) rfl #[.agg #[.int .i64 now, .slice A l.length cp]] (by rfl) rfl rfl (by simp only [List.map_toArray, List.map_cons, List.map_nil]; rfl) ?_
 refine (laws_toState.calls Ks now A cp l now ts _ (Kd.C_below HR.out.1 KK.out.bel) HR.out.2 HS.out.1).mono ?_
 rintro x_ w15 ⟨v, rfl, hX, hb⟩
 refine ⟨_, rfl, ?_⟩
 obtain ⟨A6, c6_, rfl⟩ := Kd.S_slice hX
 have n_KK := Aside0.mk (KK.out.step hb)
 have n_HY := Aside0.mk (Kd.S_below HY.out hb)
 have n_HQ := Aside0.mk (Kd.S_below HQ.out hb)
 clear KK HY HQ hb
 have KK := n_KK
 have HY := n_HY
 have HQ := n_HQ
 clear n_KK n_HY n_HQ
 have HX := Aside0.mk hX
 clear hX
 refine hK.out _ _ ⟨c6 KK.out.tl.tl.fst, c2 KK.out.tl.fst⟩ (fun hHeld => ?_)
 clear hK K
 refine nm_ (some 70) _ (h := ?_)
 refine on_ 5 (some 72) (h := fun K hK => ?_)
 refine goes_ Tryz.func21 (by kernel_rfl) rfl #[.agg #[.int .i64 a, .int .i64 b, .int .i64 c, .int .i64 d, .int .i64 e, .int .i64 f], .agg #[.int .i64 now, .slice A6 ts.length c6_], .string n] (by rfl) rfl rfl (by simp only [List.map_toArray, List.map_cons, List.map_nil]; rfl) ?_
 refine (Shd.ishards_r _ a b c d e f now A6 c6_ ts n (Kd.S_reads' HX.out).2.2 (Kd.S_reads' HX.out).2.1 HS.out.2.2.2 (HT.out.below KK.out.bel) R HP.out.1).mono ?_
 rintro x_ w16 ⟨v, rfl, hG, hb⟩
 refine ⟨_, rfl, ?_⟩
 obtain ⟨A7, c7_, rfl⟩ := Kd.S_slice hG
 clear HX
 have HG := Aside0.mk hG
 clear hG
 have n_KK := Aside0.mk (KK.out.step hb)
 have n_HY := Aside0.mk (Kd.S_below HY.out hb)
 have n_HQ := Aside0.mk (Kd.S_below HQ.out hb)
 clear KK HY HQ hb
 have KK := n_KK
 have HY := n_HY
 have HQ := n_HQ
 clear n_KK n_HY n_HQ
 refine hK.out _ _ ⟨c6 KK.out.tl.tl.fst, c2 KK.out.tl.fst⟩ (fun hHeld => ?_)
 clear hK K
 refine nm_ (some 72) _ (h := ?_)
 refine pu_ 6 (some 14) (h := ?_)
 refine done_ (by kernel_rfl) ?_
 clear hHeld
 go_wp2_with (first
  | (go_at_call 22; refine (laws_eqStringSS.calls Kr A7 c7_ R A2 c2_ R true _ (Kd.S_reads' HG.out).2.2 (Kd.S_reads' HG.out).2.1 (Kd.S_reads' HY.out).2.2 (Kd.S_reads' HY.out).2.1 HP.out.2.1).mono ?_; rintro x_ w17 ⟨rfl, hd⟩; have hb := hd.below; clear hd; have n_KK := Aside0.mk (KK.out.step hb); have n_HY := Aside0.mk (Kd.S_below HY.out hb); have n_HQ := Aside0.mk (Kd.S_below HQ.out hb); clear KK HY HQ hb; have KK := n_KK; have HY := n_HY; have HQ := n_HQ; clear n_KK n_HY n_HQ)
  | (go_at_call 25; have hh := fun W h => laws_heldStringSS.calls Kr A4 c4_ G 1 (M : Int) W h ((Kd.S_reads' HQ.out).1 ▸ (Kd.S_reads' HQ.out).2.1) HP.out.2.2.2.1; rw [HP.out.2.2.2.2.2] at hh; replace hh := hh _ (HP.out.2.2.2.2.2 ▸ (Kd.S_reads' HQ.out).2.2); refine (hh).mono ?_; rintro x_ w18 ⟨rfl, hb⟩; clear hh; have n_KK := Aside0.mk (KK.out.step hb); have n_HY := Aside0.mk (Kd.S_below HY.out hb); have n_HQ := Aside0.mk (Kd.S_below HQ.out hb); clear KK HY HQ hb; have KK := n_KK; have HY := n_HY; have HQ := n_HQ; clear n_KK n_HY n_HQ))
 go_ret
 exact ⟨rfl, KK.out.bel⟩
end LawSh
noncomputable def laws_FnExactShards.f (a b c d e f now : Int) (l : List S159) (n : ByteArray) : Option Bool := @ite _ (l.length ≤ maxLen ∧ (∀ y ∈ l, b159 y) ∧ n.size ≤ maxLen) (Classical.propDecidable _) (some true) none
theorem laws_FnExactShards.calls (a b c d e f now : Int) (A : Option Addr) (cp : Nat) (l : List S159) (n : ByteArray) (r : Bool) (w : World) (hr : Kd.C k159 w A l.length l) (hc : l.length ≤ cp) (h : laws_FnExactShards.f a b c d e f now l n = some r) (hT : Tabs w) :
  Calls Tryz.prog 5 #[.agg #[.int .i64 a, .int .i64 b, .int .i64 c, .int .i64 d, .int .i64 e, .int .i64 f], .agg #[.int .i64 now, .slice A l.length cp], .string n] w fun e w' => e = .returned (.bool r) ∧ Below w.heap.size w w' := by
 unfold laws_FnExactShards.f at h
 by_cases hz : l.length ≤ maxLen ∧ (∀ y ∈ l, b159 y) ∧ n.size ≤ maxLen
 ·rw [if_pos hz] at h
  obtain rfl := Option.some.inj h
  exact LawSh.law a b c d e f now A cp l n w hr hc hz.1 hz.2.1 hz.2.2 hT
 ·rw [if_neg hz] at h
  cases h
end Go.Proofs.YtikbfjnbhogihaaGreatDoor.M
namespace Go.Proofs.YtikbfjnbhogihaaGreatDoor.M
open Go.RowKit Go.Proofs.YtikbfjnbhogihaaGreatDoorW.PrintWords Go.Proofs.YtikbfjnbhogihaaGreatDoorW.PrintLast Go.Proofs.YtikbfjnbhogihaaGreatDoorW.PrintMore
attribute [local go_sem] max2_int min2_int max_two min_two max_three min_three max_four min_four
set_option linter.unusedVariables false
set_option linter.unusedSimpArgs false
end Go.Proofs.YtikbfjnbhogihaaGreatDoor.M
namespace Go.Proofs.YtikbfjnbhogihaaGreatDoor.Pure
open Go.Proofs.YtikbfjnbhogihaaGreatDoor.M Go.RowKit
def FnExactShardsPure : Prop := ∀ (a0_0 : Int) (a0_1 : Int) (a0_2 : Int) (a0_3 : Int) (a0_4 : Int) (a0_5 : Int) (a1_0 : Int) (l1_1 : List (S159)) (a2 : ByteArray), (Lit.int .i64 a0_0).wf = true → (Lit.int .i64 a0_1).wf = true → (Lit.int .i64 a0_2).wf = true → (Lit.int .i64 a0_3).wf = true → (Lit.int .i64 a0_4).wf = true → (Lit.int .i64 a0_5).wf = true → (Lit.int .i64 a1_0).wf = true → (l1_1.length ≤ maxLen ∧ ∀ y_ ∈ l1_1, b159 y_) → a2.size ≤ maxLen → laws_FnExactShards.f a0_0 a0_1 a0_2 a0_3 a0_4 a0_5 a1_0 l1_1 a2 = some true
end Go.Proofs.YtikbfjnbhogihaaGreatDoor.Pure
namespace Go.Proofs.YtikbfjnbhogihaaGreatDoor.M
end Go.Proofs.YtikbfjnbhogihaaGreatDoor.M
/- The program's Shards answers what the reference's answers, for every state, config and name that the statement's guard lets in; what it gives owns its memory. No conditions. -/
namespace Go.Proofs.YtikbfjnbhogihaaGreatDoor.Pure
open Go.Proofs.YtikbfjnbhogihaaGreatDoor.M Go.RowKit
theorem FnExactShards : FnExactShardsPure := by
 rintro a b c d e f now l n _ _ _ _ _ _ _ ⟨hl, hb⟩ hn
 unfold laws_FnExactShards.f
 exact if_pos ⟨hl, hb, hn⟩
end Go.Proofs.YtikbfjnbhogihaaGreatDoor.Pure
