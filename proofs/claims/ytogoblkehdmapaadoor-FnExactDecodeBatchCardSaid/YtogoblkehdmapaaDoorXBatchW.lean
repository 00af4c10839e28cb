/- impl.batchText: the walk where the header is right. -/
import Derived.Lib.SliceRun
import Derived.Test.YtogoblkehdmapaaDoorF19
namespace Go.Proofs.YtogoblkehdmapaaDoor.M
open Go.RowKit Go.Shelf Go.Proofs.YtogoblkehdmapaaDoorW.PrintWords Go.Proofs.YtogoblkehdmapaaDoorW.PrintLast Go.Proofs.YtogoblkehdmapaaDoorW.PrintMore
set_option linter.unusedVariables false
set_option linter.unusedSimpArgs false
namespace Bat
open Go.Proofs.YtogoblkehdmapaaDoor.M.Enc
theorem hd_eq (n : Int) (l : List Rc) : [] ++ (⟨((Num.bytes 8 n).data.toList ++ (Num.bytes 2 l.length).data.toList).toArray⟩ : ByteArray).data.toList = hdL n l := rfl
/-- The door, behind a return. -/
theorem door_good (w W : World) (s : ByteArray) (b' : Bool) (tm : Array Value) (h2 : tm.getD 2 undef = .pointer (some ⟨w.heap.size + 1, 0, none⟩)) (h3 : tm.getD 3 undef = .pointer (some ⟨w.heap.size + 2, 0, none⟩))
    (ho : W.heap[w.heap.size + 1]? = some (.cells #[.string s] 9 (0, 0))) (hk : W.heap[w.heap.size + 2]? = some (.cells #[.bool b'] 4 (0, 0))) (hB : Below w.heap.size w W) :
    bodyPostD Tryd.prog Tryd.f25 (fun e w' => e = .returned (.tuple #[.string s, .bool b']) ∧ Below w.heap.size w w') Exit.ret
      { tmps := tm, defers := [{ target := Target.fn (Fn.func 42) #[.pointer (some ⟨w.heap.size + 1, 0, none⟩), .pointer (some ⟨w.heap.size + 2, 0, none⟩)], args := #[] }] } W := by
  refine leaves_cons (f := 42) (args := #[.pointer (some ⟨w.heap.size + 1, 0, none⟩), .pointer (some ⟨w.heap.size + 2, 0, none⟩)]) (by simp) (by simp [go_sem]) ?_
  refine (catch_idle ⟨w.heap.size + 1, 0, none⟩ ⟨w.heap.size + 2, 0, none⟩ W).mono ?_
  rintro e u' w'' ⟨rfl, rfl, rfl⟩
  exact ⟨_, res2 tm ⟨w.heap.size + 1, 0, none⟩ ⟨w.heap.size + 2, 0, none⟩ s b' _ h2 h3 ((blk_cell ho 0).trans rfl) ((blk_cell hk 0).trans rfl), rfl, hB⟩
theorem rec_eq (x : Rc) (L : List UInt8) : L ++ (⟨((Num.bytes 1 x.f0).data.toList ++ ((s8B x.f1).data.toList ++ ((s16B x.f2).data.toList ++ (Num.bytes 8 x.f3).data.toList))).toArray⟩ : ByteArray).data.toList = L ++ recL x := by
  show L ++ (_ ++ (_ ++ (_ ++ _))) = _
  rw [s8B_list, s16B_list]
  rfl
set_option maxHeartbeats 16000000 in
set_option maxRecDepth 100000 in
theorem good_head (n : Int) (A : Option Addr) (c : Nat) (l : List Rc) (w : World) (hr : Kd.C k47 w A l.length l) (hc : l.length ≤ c) (u : TypeId) (v : Value) (hS : Shp u v w) (hn : 1 ≤ n ∧ n ≤ 1000000000000000) (hl : 1 ≤ l.length ∧ l.length ≤ 500) :
    Calls Tryd.prog 25 #[.agg #[.int .i64 n, .slice A l.length c]] w fun e w' => e = .returned (.tuple #[.string (bat n l), .bool (l.all okR)]) ∧ Below w.heap.size w w' := by
  have hmf : ∀ (fn : Fn) (first cap : Array Value) (w : World), (Instr.makeFunc fn first cap).run Tryd.prog w = .ok (.func fn first cap) w := fun _ _ _ _ => rfl
  obtain ⟨RB, hRB⟩ : ∃ R, R = bat n l := ⟨_, rfl⟩
  obtain ⟨RA, hRA⟩ : ∃ R, R = l.all okR := ⟨_, rfl⟩
  rw [← hRB, ← hRA]
  have HRB := Aside0.mk hRB
  have HRA := Aside0.mk hRA
  clear hRB hRA
  have HR := Aside0.mk hr
  have HH := Aside0.mk hn
  obtain ⟨W1, hW1⟩ : ∃ W, w.alloc (.cells #[.int .i64 n, .slice A l.length c] 29) = W := ⟨_, rfl⟩
  obtain ⟨W2, hW2⟩ : ∃ W, W1.alloc (.cells #[.string ⟨#[]⟩] 9) = W := ⟨_, rfl⟩
  obtain ⟨W3, hW3⟩ : ∃ W, W2.alloc (.cells #[.bool false] 4) = W := ⟨_, rfl⟩
  obtain ⟨W4, hW4⟩ : ∃ W, W3.alloc (.cells #[.pointer none, .slice none 0 0] 80) = W := ⟨_, rfl⟩
  obtain ⟨b, hb⟩ : ∃ b, W3.heap.size = b := ⟨_, rfl⟩
  have z1 : W1.heap.size = w.heap.size + 1 := by rw [← hW1]; simp
  have z2 : W2.heap.size = w.heap.size + 2 := by rw [← hW2, World.size_alloc, z1]
  have z3 : W3.heap.size = w.heap.size + 3 := by rw [← hW3, World.size_alloc, z2]
  have hb1 : Below w.heap.size w W1 := by rw [← hW1]; exact (Below.refl _ w).alloc (Nat.le_refl _) _
  have hb2 : Below w.heap.size w W2 := by rw [← hW2]; exact hb1.alloc hb1.size _
  have hb3 : Below w.heap.size w W3 := by rw [← hW3]; exact hb2.alloc hb2.size _
  have hb4 : Below w.heap.size w W4 := by rw [← hW4]; exact hb3.alloc hb3.size _
  have hx1 : W1.heap[w.heap.size]? = some (.cells #[.int .i64 n, .slice A l.length c] 29 (0, 0)) := by rw [← hW1]; exact blk_new w _
  have hx2 : W2.heap[w.heap.size]? = some (.cells #[.int .i64 n, .slice A l.length c] 29 (0, 0)) := by rw [← hW2]; exact blk_alloc hx1 _
  have hx3 : W3.heap[w.heap.size]? = some (.cells #[.int .i64 n, .slice A l.length c] 29 (0, 0)) := by rw [← hW3]; exact blk_alloc hx2 _
  have ho2 : W2.heap[w.heap.size + 1]? = some (.cells #[.string ⟨#[]⟩] 9 (0, 0)) := by rw [← hW2, ← z1]; exact blk_new W1 _
  have ho3 : W3.heap[w.heap.size + 1]? = some (.cells #[.string ⟨#[]⟩] 9 (0, 0)) := by rw [← hW3]; exact blk_alloc ho2 _
  have hk3 : W3.heap[w.heap.size + 2]? = some (.cells #[.bool false] 4 (0, 0)) := by rw [← hW3, ← z2]; exact blk_new W2 _
  have HSa : Aside0 (Sb w b [] #[.int .i64 n, .slice A l.length c] W4) := ⟨by
    rw [← hW4, ← hb]
    exact ⟨Bld.fresh W3, blk_alloc hx3 _, blk_alloc ho3 _, blk_alloc hk3 _, hb3.alloc hb3.size _, by rw [z3]; omega⟩⟩
  have c0 : W3.cell? ⟨w.heap.size, 0, none⟩ = some (.int .i64 n) := (blk_cell hx3 0).trans rfl
  have c1 : W3.cell? ⟨w.heap.size, 1, none⟩ = some (.slice A l.length c) := (blk_cell hx3 1).trans rfl
  have ca0 : W4.cell? ⟨w.heap.size, 0, none⟩ = some (.int .i64 n) := (blk_cell HSa.out.box 0).trans rfl
  have ca1 : W4.cell? ⟨w.heap.size, 1, none⟩ = some (.slice A l.length c) := (blk_cell HSa.out.box 1).trans rfl
  have HS0 := Aside0.mk hS
  obtain ⟨hn0, hn1⟩ := hn
  obtain ⟨hl0, hl1⟩ := hl
  clear hb1 hb2 hb3 hb4 hx1 hx2 hx3 ho2 ho3 hk3 hS hr
  go_enter_defers Tryd.func25, Tryd.ntmps25
  go_wp2_with fail
  clear hW1 hW2 hW3 hW4 hb c0 c1 z1 z2 z3
  go_region_held3 (fun W' => W'.cell? ⟨w.heap.size, 0, none⟩ = some (.int .i64 n) ∧ W'.cell? ⟨w.heap.size, 1, none⟩ = some (.slice A l.length c))
    (first | exact ⟨ca0, ca1⟩ | exact ⟨ca10, ca11⟩ | exact ⟨ca20, ca21⟩ | exact ⟨Lib.cell?_alloc_some _ ca20, Lib.cell?_alloc_some _ ca21⟩ | exact ⟨ca30, ca31⟩ | exact ⟨ca40, ca41⟩)
    (first | (go_at_call 45; have _t := HSa; clear _t; refine (impl_num.calls 8 n (Num.bytes 8 n) _ (num8 n)).mono ?_; rintro e Wa1 ⟨rfl, hba1⟩; have HSa1 := Aside0.mk (HSa.out.drew.below hba1); have ca10 : Wa1.cell? ⟨w.heap.size, 0, none⟩ = some (.int .i64 n) := (blk_cell HSa1.out.box 0).trans rfl; have ca11 : Wa1.cell? ⟨w.heap.size, 1, none⟩ = some (.slice A l.length c) := (blk_cell HSa1.out.box 1).trans rfl; clear hba1 HSa)
           | (go_at_call 45; have _t := HSa1; clear _t; refine (impl_num.calls 2 l.length (Num.bytes 2 l.length) _ (num2 l.length)).mono ?_; rintro e Wa2 ⟨rfl, hba2⟩; have HSa2 := Aside0.mk (HSa1.out.below hba2); have ca20 : Wa2.cell? ⟨w.heap.size, 0, none⟩ = some (.int .i64 n) := (blk_cell HSa2.out.box 0).trans rfl; have ca21 : Wa2.cell? ⟨w.heap.size, 1, none⟩ = some (.slice A l.length c) := (blk_cell HSa2.out.box 1).trans rfl; clear hba2 HSa1)
           | (go_at_call 44; have _t := HSa2; clear _t; refine (Bld.join2 Wa2.heap.size (Num.bytes 8 n) (Num.bytes 2 l.length) _ ((blk_cell (blk_new Wa2 _) 0).trans rfl) ((blk_cell (blk_new Wa2 _) 1).trans rfl) ?_).mono ?_; (· simp only [num_size]; omega); rintro e Wa3 ⟨rfl, hba3⟩; have HSa3 := Aside0.mk ((HSa2.out.alloc _).below hba3); have ca30 : Wa3.cell? ⟨w.heap.size, 0, none⟩ = some (.int .i64 n) := (blk_cell HSa3.out.box 0).trans rfl; have ca31 : Wa3.cell? ⟨w.heap.size, 1, none⟩ = some (.slice A l.length c) := (blk_cell HSa3.out.box 1).trans rfl; clear hba3 HSa2)
           | (go_at_call 43; have _t := HSa3; clear _t; refine (Bld.write b b ([]) (⟨((Num.bytes 8 n).data.toList ++ (Num.bytes 2 l.length).data.toList).toArray⟩) Wa3 HSa3.out.is ?_).mono ?_; (· show 0 + List.length (_ ++ _) ≤ _; have h1 := nL_length 8 n; have h2 := nL_length 2 l.length; unfold nL at h1 h2; rw [List.length_append, h1, h2]; omega); rintro e Wa4 ⟨rfl, hi, hba4, hka4⟩; have HSa4 := Aside0.mk (HSa3.out.write hi hba4); have ca40 : Wa4.cell? ⟨w.heap.size, 0, none⟩ = some (.int .i64 n) := (blk_cell HSa4.out.box 0).trans rfl; have ca41 : Wa4.cell? ⟨w.heap.size, 1, none⟩ = some (.slice A l.length c) := (blk_cell HSa4.out.box 1).trans rfl; clear hi hba4 hka4 HSa3))
  go_wp2_with fail
  have hs0 : Sb w b (hdL n l) #[.int .i64 n, .slice A l.length c] Wa4 := by rw [← hd_eq]; exact HSa4.out
  have HSl := Aside0.mk hs0
  clear hs0 HSa4 ca40 ca41
  go_loopw [42] (fun i wr => ∃ j : Nat, i = .int .i64 j ∧ j ≤ l.length ∧ Aside0 (Sb w b (hdL n l ++ recsL (l.take j)) #[.int .i64 n, .slice A l.length c] wr) ∧ Aside0 (∀ y ∈ l.take j, okR y = true)) (fun i _ => l.length - (intOf i).toNat)
  case atStart => exact ⟨0, rfl, Nat.zero_le _, ⟨by simpa [recsL] using HSl.out⟩, ⟨by simp⟩⟩
  case round =>
    obtain ⟨j, rfl, hj, HSr, HOr⟩ := hrel
    by_cases hlt : j < l.length
    · obtain ⟨ad, ea, x0, x1, x2, x3⟩ := at_T47 HR.out (j : Int) (by omega) (by omega)
      subst ea
      rw [Int.toNat_natCast] at x0 x1 x2 x3
      rw [rd_rec l j hlt] at x0 x1 x2 x3
      replace x0 := (HSr.out.bel.cell (World.block_lt_of_cell? w _ x0)).trans x0
      replace x1 := (HSr.out.bel.cell (World.block_lt_of_cell? w _ x1)).trans x1
      replace x2 := (HSr.out.bel.cell (World.block_lt_of_cell? w _ x2)).trans x2
      replace x3 := (HSr.out.bel.cell (World.block_lt_of_cell? w _ x3)).trans x3
      obtain ⟨x, hx⟩ : ∃ x, x = l[j] := ⟨_, rfl⟩
      rw [← hx] at x0 x1 x2 x3
      have HX := Aside0.mk hx
      clear hx
      obtain ⟨Wd, hWd⟩ : ∃ W, wr.alloc (.cells #[.int .i64 x.f0, .string x.f1, .string x.f2, .int .i64 x.f3] 47) = W := ⟨_, rfl⟩
      obtain ⟨g9, hg9⟩ : ∃ g, wr.heap.size = g := ⟨_, rfl⟩
      have hyd : Wd.heap[g9]? = some (.cells #[.int .i64 x.f0, .string x.f1, .string x.f2, .int .i64 x.f3] 47 (0, 0)) := by rw [← hWd, ← hg9]; exact blk_new wr _
      have HSd : Aside0 (Sb w b (hdL n l ++ recsL (l.take j)) #[.int .i64 n, .slice (some ad) l.length c] Wd) := ⟨by rw [← hWd]; exact HSr.out.alloc _⟩
      have HNB : Aside0 (g9 ≠ b) := ⟨by have := HSr.out.is.lt; omega⟩
      have v0 : Wd.cell? ⟨g9, 0, none⟩ = some (.int .i64 x.f0) := (blk_cell hyd 0).trans rfl
      have v1 : Wd.cell? ⟨g9, 1, none⟩ = some (.string x.f1) := (blk_cell hyd 1).trans rfl
      have v2 : Wd.cell? ⟨g9, 2, none⟩ = some (.string x.f2) := (blk_cell hyd 2).trans rfl
      have v3 : Wd.cell? ⟨g9, 3, none⟩ = some (.int .i64 x.f3) := (blk_cell hyd 3).trans rfl
      have HYd := Aside0.mk hyd
      clear hyd
      have HSh : Aside0 (Shp u v Wd) := ⟨HS0.out.below (Nat.le_refl _) HSd.out.bel⟩
      cases hrec : recB x with
      | false =>
        have hno := bat_no n l x (by rw [HX.out]; exact List.getElem_mem _) (by unfold okR; rw [hrec]; rfl)
        obtain rfl : RB = ⟨#[]⟩ := HRB.out.trans hno.1
        obtain rfl : RA = false := HRA.out.trans hno.2
        clear hno
        go_wp2_with fail
        refine (lift_bad x Wd hrec u v HSh.out).mono ?_
        rintro e Wl ⟨rfl, hbl⟩
        have HSl2 := Aside0.mk (HSd.out.below hbl)
        clear hbl
        exact door_bad w Wl #[.int .i64 n, .slice (some ad) l.length c] u v _ rfl rfl HSl2.out.out HSl2.out.ok HSl2.out.bel
      | true =>
        go_wp2_with fail
        refine (lift_ok x Wd hrec).mono ?_
        rintro e Wl ⟨⟨vl, rfl⟩, hbl⟩
        have HSL := Aside0.mk (HSd.out.below hbl)
        have HYL := Aside0.mk ((hbl.block _ (blk_lt HYd.out)).trans HYd.out)
        have hg : Wl.cell? ⟨0, 0, none⟩ = some (.iface u v) := HS0.out.below (Nat.le_refl _) HSL.out.bel
        clear hbl HSd HYd HSh v0 v1 v2 v3 hWd hg9 x0 x1 x2 x3
        have v0 : Wl.cell? ⟨g9, 0, none⟩ = some (.int .i64 x.f0) := (blk_cell HYL.out 0).trans rfl
        have v1 : Wl.cell? ⟨g9, 1, none⟩ = some (.string x.f1) := (blk_cell HYL.out 1).trans rfl
        have v2 : Wl.cell? ⟨g9, 2, none⟩ = some (.string x.f2) := (blk_cell HYL.out 2).trans rfl
        have v3 : Wl.cell? ⟨g9, 3, none⟩ = some (.int .i64 x.f3) := (blk_cell HYL.out 3).trans rfl
        by_cases hbig : 255 < x.f1.size ∨ 65535 < x.f2.size
        · have hno := bat_no n l x (by rw [HX.out]; exact List.getElem_mem _) (by
            unfold okR
            rw [hrec, Bool.true_and, Bool.and_eq_false_iff, decide_eq_false_iff_not, decide_eq_false_iff_not]
            omega)
          obtain rfl : RB = ⟨#[]⟩ := HRB.out.trans hno.1
          obtain rfl : RA = false := HRA.out.trans hno.2
          clear hno
          have hcs : 255 < x.f1.size ∨ (x.f1.size ≤ 255 ∧ 65535 < x.f2.size) := by omega
          clear hbig
          rcases hcs with h | h
          all_goals
            go_wp2
            exact door_bad w Wl #[.int .i64 n, .slice (some ad) l.length c] u v _ rfl rfl HSL.out.out HSL.out.ok HSL.out.bel
        · have hok : Aside0 (okR x = true) := ⟨by
            unfold okR
            rw [hrec, Bool.true_and, Bool.and_eq_true, decide_eq_true_iff, decide_eq_true_iff]
            omega⟩
          have h1 : x.f1.size ≤ 255 := by omega
          have h2 : x.f2.size ≤ 65535 := by omega
          have HLn : Aside0 ((hdL n l ++ recsL (l.take j)).length ≤ 40000000) := ⟨by
            have e1 := recs_le (l.take j) HOr.out
            rw [List.length_append, hdL_length]
            rw [List.length_take] at e1
            have e2 : min j l.length * 65802 ≤ 500 * 65802 := Nat.mul_le_mul_right _ (by omega)
            omega⟩
          clear hbig hg
          go_wp2_with fail
          go_region_held3 (fun W' => W'.cell? ⟨g9, 0, none⟩ = some (.int .i64 x.f0) ∧ W'.cell? ⟨g9, 1, none⟩ = some (.string x.f1) ∧ W'.cell? ⟨g9, 2, none⟩ = some (.string x.f2) ∧ W'.cell? ⟨g9, 3, none⟩ = some (.int .i64 x.f3))
            (first | exact ⟨v0, v1, v2, v3⟩ | exact ⟨cr10, cr11, cr12, cr13⟩ | exact ⟨cr20, cr21, cr22, cr23⟩ | exact ⟨cr30, cr31, cr32, cr33⟩ | exact ⟨cr40, cr41, cr42, cr43⟩ | exact ⟨Lib.cell?_alloc_some _ cr40, Lib.cell?_alloc_some _ cr41, Lib.cell?_alloc_some _ cr42, Lib.cell?_alloc_some _ cr43⟩ | exact ⟨cr50, cr51, cr52, cr53⟩ | exact ⟨cr60, cr61, cr62, cr63⟩)
            (first | (go_at_call 45; have _t := HSL; clear _t; refine (impl_num.calls 1 x.f0 (Num.bytes 1 x.f0) _ (num1 x.f0)).mono ?_; rintro e Wr1 ⟨rfl, hbr1⟩; have HSr1 := Aside0.mk (HSL.out.drew.below hbr1); have HYL_r1 := Aside0.mk ((hbr1.block _ (blk_lt HYL.out)).trans HYL.out); have cr10 : Wr1.cell? ⟨g9, 0, none⟩ = some (.int .i64 x.f0) := (blk_cell HYL_r1.out 0).trans rfl; have cr11 : Wr1.cell? ⟨g9, 1, none⟩ = some (.string x.f1) := (blk_cell HYL_r1.out 1).trans rfl; have cr12 : Wr1.cell? ⟨g9, 2, none⟩ = some (.string x.f2) := (blk_cell HYL_r1.out 2).trans rfl; have cr13 : Wr1.cell? ⟨g9, 3, none⟩ = some (.int .i64 x.f3) := (blk_cell HYL_r1.out 3).trans rfl; clear hbr1 HSL)
                   | (go_at_call 47; have _t := HSr1; clear _t; refine (impl_s8.calls x.f1 (s8B x.f1) _ (s8f x.f1 (by omega))).mono ?_; rintro e Wr2 ⟨rfl, hbr2⟩; have HSr2 := Aside0.mk (HSr1.out.below hbr2); have HYL_r2 := Aside0.mk ((hbr2.block _ (blk_lt HYL_r1.out)).trans HYL_r1.out); have cr20 : Wr2.cell? ⟨g9, 0, none⟩ = some (.int .i64 x.f0) := (blk_cell HYL_r2.out 0).trans rfl; have cr21 : Wr2.cell? ⟨g9, 1, none⟩ = some (.string x.f1) := (blk_cell HYL_r2.out 1).trans rfl; have cr22 : Wr2.cell? ⟨g9, 2, none⟩ = some (.string x.f2) := (blk_cell HYL_r2.out 2).trans rfl; have cr23 : Wr2.cell? ⟨g9, 3, none⟩ = some (.int .i64 x.f3) := (blk_cell HYL_r2.out 3).trans rfl; clear hbr2 HSr1)
                   | (go_at_call 48; have _t := HSr2; clear _t; refine (impl_s16.calls x.f2 (s16B x.f2) _ (s16f x.f2 (by omega))).mono ?_; rintro e Wr3 ⟨rfl, hbr3⟩; have HSr3 := Aside0.mk (HSr2.out.below hbr3); have HYL_r3 := Aside0.mk ((hbr3.block _ (blk_lt HYL_r2.out)).trans HYL_r2.out); have cr30 : Wr3.cell? ⟨g9, 0, none⟩ = some (.int .i64 x.f0) := (blk_cell HYL_r3.out 0).trans rfl; have cr31 : Wr3.cell? ⟨g9, 1, none⟩ = some (.string x.f1) := (blk_cell HYL_r3.out 1).trans rfl; have cr32 : Wr3.cell? ⟨g9, 2, none⟩ = some (.string x.f2) := (blk_cell HYL_r3.out 2).trans rfl; have cr33 : Wr3.cell? ⟨g9, 3, none⟩ = some (.int .i64 x.f3) := (blk_cell HYL_r3.out 3).trans rfl; clear hbr3 HSr2)
                   | (go_at_call 45; have _t := HSr3; clear _t; refine (impl_num.calls 8 x.f3 (Num.bytes 8 x.f3) _ (num8 x.f3)).mono ?_; rintro e Wr4 ⟨rfl, hbr4⟩; have HSr4 := Aside0.mk (HSr3.out.below hbr4); have HYL_r4 := Aside0.mk ((hbr4.block _ (blk_lt HYL_r3.out)).trans HYL_r3.out); have cr40 : Wr4.cell? ⟨g9, 0, none⟩ = some (.int .i64 x.f0) := (blk_cell HYL_r4.out 0).trans rfl; have cr41 : Wr4.cell? ⟨g9, 1, none⟩ = some (.string x.f1) := (blk_cell HYL_r4.out 1).trans rfl; have cr42 : Wr4.cell? ⟨g9, 2, none⟩ = some (.string x.f2) := (blk_cell HYL_r4.out 2).trans rfl; have cr43 : Wr4.cell? ⟨g9, 3, none⟩ = some (.int .i64 x.f3) := (blk_cell HYL_r4.out 3).trans rfl; clear hbr4 HSr3)
                   | (go_at_call 44; have _t := HSr4; clear _t; refine (Bld.join4 Wr4.heap.size (Num.bytes 1 x.f0) (s8B x.f1) (s16B x.f2) (Num.bytes 8 x.f3) _ ((blk_cell (blk_new Wr4 _) 0).trans rfl) ((blk_cell (blk_new Wr4 _) 1).trans rfl) ((blk_cell (blk_new Wr4 _) 2).trans rfl) ((blk_cell (blk_new Wr4 _) 3).trans rfl) ?_).mono ?_; (· simp only [num_size, s8B_size, s16B_size]; omega); rintro e Wr5 ⟨rfl, hbr5⟩; have HSr5 := Aside0.mk ((HSr4.out.alloc _).below hbr5); have HYL_r5 := Aside0.mk ((hbr5.block _ (blk_lt (blk_alloc HYL_r4.out _))).trans (blk_alloc HYL_r4.out _)); have cr50 : Wr5.cell? ⟨g9, 0, none⟩ = some (.int .i64 x.f0) := (blk_cell HYL_r5.out 0).trans rfl; have cr51 : Wr5.cell? ⟨g9, 1, none⟩ = some (.string x.f1) := (blk_cell HYL_r5.out 1).trans rfl; have cr52 : Wr5.cell? ⟨g9, 2, none⟩ = some (.string x.f2) := (blk_cell HYL_r5.out 2).trans rfl; have cr53 : Wr5.cell? ⟨g9, 3, none⟩ = some (.int .i64 x.f3) := (blk_cell HYL_r5.out 3).trans rfl; clear hbr5 HSr4)
                   | (go_at_call 43; have _t := HSr5; clear _t; refine (Bld.write b b (hdL n l ++ recsL (l.take j)) (⟨((Num.bytes 1 x.f0).data.toList ++ ((s8B x.f1).data.toList ++ ((s16B x.f2).data.toList ++ (Num.bytes 8 x.f3).data.toList))).toArray⟩ : ByteArray) Wr5 HSr5.out.is ?_).mono ?_; (· have q1 := HLn.out; have q2 := recL_le x hok.out; have q3 : List.length ((Num.bytes 1 x.f0).data.toList ++ ((s8B x.f1).data.toList ++ ((s16B x.f2).data.toList ++ (Num.bytes 8 x.f3).data.toList))) = (recL x).length := congrArg List.length (rec_eq x []); show _ + List.length (_ ++ (_ ++ (_ ++ _))) ≤ _; rw [q3]; omega); rintro e Wr6 ⟨rfl, hi, hbr6, hkr6⟩; have HSr6 := Aside0.mk (HSr5.out.write hi hbr6); have HYL_r6 := Aside0.mk (hkr6.block HYL_r5.out HNB.out (by decide)); have cr60 : Wr6.cell? ⟨g9, 0, none⟩ = some (.int .i64 x.f0) := (blk_cell HYL_r6.out 0).trans rfl; have cr61 : Wr6.cell? ⟨g9, 1, none⟩ = some (.string x.f1) := (blk_cell HYL_r6.out 1).trans rfl; have cr62 : Wr6.cell? ⟨g9, 2, none⟩ = some (.string x.f2) := (blk_cell HYL_r6.out 2).trans rfl; have cr63 : Wr6.cell? ⟨g9, 3, none⟩ = some (.int .i64 x.f3) := (blk_cell HYL_r6.out 3).trans rfl; clear hi hbr6 hkr6 HSr5))
          go_wp2_with fail
          go_roundw
          case rel =>
            refine ⟨j + 1, by go_num, by omega, ⟨?_⟩, ⟨fun y hy => ?_⟩⟩
            · have := HSr6.out
              rw [rec_eq, List.append_assoc, HX.out, ← recs_snoc, ← take_snoc l j hlt] at this
              exact this
            · rw [take_snoc l j hlt] at hy
              rcases List.mem_append.1 hy with hy | hy
              · exact HOr.out y hy
              · rw [List.mem_singleton] at hy
                rw [hy, ← HX.out]
                exact hok.out
          case measure => simp [intOf]; omega
    · obtain rfl : j = l.length := by omega
      have hOK : Aside0 (l.all okR = true) := ⟨by
        have := HOr.out
        rw [List.take_of_length_le (Nat.le_refl _)] at this
        exact List.all_eq_true.2 this⟩
      have hfin : Aside0 (bat n l = ⟨(hdL n l ++ recsL (l.take l.length)).toArray⟩) := ⟨by
        unfold bat batOK
        rw [hOK.out, decide_eq_true HH.out, decide_eq_true ⟨hl0, hl1⟩, List.take_of_length_le (Nat.le_refl _)]
        rfl⟩
      obtain rfl : RA = true := HRA.out.trans hOK.out
      have HRB2 := Aside0.mk (HRB.out.trans hfin.out)
      go_wp2_with fail
      refine (Bld.string b b _ wr HSr.out.is).mono ?_
      rintro e Ws ⟨rfl, his, hbs, hks⟩
      rw [← HRB2.out]
      have HSs := Aside0.mk (HSr.out.write his hbs)
      clear his hbs hks
      have o1 : Ws.cell? ⟨w.heap.size + 1, 0, none⟩ = some (.string ⟨#[]⟩) := (blk_cell HSs.out.out 0).trans rfl
      have f1 : Ws.frozen? ⟨w.heap.size + 1, 0, none⟩ = false := blk_frozen HSs.out.out _
      have b2 : (Ws.setCell ⟨w.heap.size + 1, 0, none⟩ (.string RB)).heap[w.heap.size + 2]? = some (.cells #[.bool false] 4 (0, 0)) := blk_far (p := ⟨w.heap.size + 1, 0, none⟩) HSs.out.ok (by simp) _
      have o2 : (Ws.setCell ⟨w.heap.size + 1, 0, none⟩ (.string RB)).cell? ⟨w.heap.size + 2, 0, none⟩ = some (.bool false) := (blk_cell b2 0).trans rfl
      have f2 : (Ws.setCell ⟨w.heap.size + 1, 0, none⟩ (.string RB)).frozen? ⟨w.heap.size + 2, 0, none⟩ = false := blk_frozen b2 _
      have b1 : (Ws.setCell ⟨w.heap.size + 1, 0, none⟩ (.string RB)).heap[w.heap.size + 1]? = some (.cells #[.string RB] 9 (0, 0)) := (blk_set HSs.out.out _ _).trans rfl
      have HB1 := Aside0.mk (blk_far (p := ⟨w.heap.size + 2, 0, none⟩) b1 (by simp) (.bool true))
      have HB2 := Aside0.mk ((blk_set b2 0 (.bool true)).trans rfl : ((Ws.setCell ⟨w.heap.size + 1, 0, none⟩ (.string RB)).setCell ⟨w.heap.size + 2, 0, none⟩ (.bool true)).heap[w.heap.size + 2]? = some (.cells #[.bool true] 4 (0, 0)))
      have HBl : Aside0 (Below w.heap.size w ((Ws.setCell ⟨w.heap.size + 1, 0, none⟩ (.string RB)).setCell ⟨w.heap.size + 2, 0, none⟩ (.bool true))) := ⟨below_set (below_set HSs.out.bel (by simp)) (by simp)⟩
      clear b1 b2
      go_wp2
      exact door_good w _ RB true _ rfl rfl HB1.out HB2.out HBl.out
end Bat
def impl_batchText.f (n : Int) (l : List Bat.Rc) : Option (ByteArray × Bool) := some (Bat.bat n l, Bat.batOK n l)
theorem impl_batchText.calls (n : Int) (A : Option Addr) (c : Nat) (l : List Bat.Rc) (r1 : ByteArray) (r2 : Bool) (w : World) (hr : Kd.C k47 w A l.length l) (hc : l.length ≤ c) (h : impl_batchText.f n l = some (r1, r2)) (hT : Tabs w) :
    Calls Tryd.prog 25 #[.agg #[.int .i64 n, .slice A l.length c]] w fun e w' => e = .returned (.tuple #[.string r1, .bool r2]) ∧ Below w.heap.size w w' := by
  obtain ⟨u, v, hS⟩ := hT
  have h := Option.some.inj h
  obtain ⟨rfl, rfl⟩ := Prod.mk.inj h
  by_cases hn : 1 ≤ n ∧ n ≤ 1000000000000000
  · by_cases hl : 1 ≤ l.length ∧ l.length ≤ 500
    · have e : Bat.batOK n l = l.all Bat.okR := by unfold Bat.batOK; rw [decide_eq_true hn, decide_eq_true hl]; rfl
      rw [e]
      exact Bat.good_head n A c l w hr hc u v hS hn hl
    · have e : Bat.batOK n l = false := by unfold Bat.batOK; rw [decide_eq_false hl, Bool.false_and, Bool.and_false]
      have e2 : Bat.bat n l = ⟨#[]⟩ := by unfold Bat.bat; rw [e]; rfl
      rw [e, e2]
      exact Bat.bad_head n A c l w hc u v hS (.inr hl)
  · have e : Bat.batOK n l = false := by unfold Bat.batOK; rw [decide_eq_false hn, Bool.false_and]
    have e2 : Bat.bat n l = ⟨#[]⟩ := by unfold Bat.bat; rw [e]; rfl
    rw [e, e2]
    exact Bat.bad_head n A c l w hc u v hS (.inl hn)
end Go.Proofs.YtogoblkehdmapaaDoor.M
