import Derived.Test.YtikbfjnbhogihaaGreatDoorAdd
import Derived.Test.YtikbfjnbhogihaaGreatDoorM0
import Derived.Test.YtikbfjnbhogihaaGreatDoorMetC
import Derived.Test.YtikbfjnbhogihaaGreatDoorLabLen
/- openBook: walked. -/
namespace Go.Proofs.YtikbfjnbhogihaaGreatDoor.Bk
open Go.RowKit Go.Proofs.YtikbfjnbhogihaaGreatDoor.M Go.Proofs.YtikbfjnbhogihaaGreatDoor.Loops Go.Proofs.YtikbfjnbhogihaaGreatDoorW.PrintWords Go.Proofs.YtikbfjnbhogihaaGreatDoorW.PrintLast Go.Proofs.YtikbfjnbhogihaaGreatDoorW.PrintMore
set_option linter.unusedVariables false
set_option linter.unusedSimpArgs false
abbrev cB (a b c d e f now : Int) (tb : Nat) : Obj := .cells #[.int .i64 a, .int .i64 b, .int .i64 c, .int .i64 d, .int .i64 e, .int .i64 f, .int .i64 now, .map (some tb)] 106
abbrev cM (k : ByteArray) (n : Int) : Obj := .cells #[.string k, .int .i64 n] 91
abbrev cT (s : ByteArray) (n : Int) (u v : Value) : Obj := .cells #[.string s, .int .i64 n, u, v] 87
abbrev cC (a b c d e f : Int) : Obj := .cells #[.int .i64 a, .int .i64 b, .int .i64 c, .int .i64 d, .int .i64 e, .int .i64 f] 29
abbrev cS (now : Int) (A : Option Addr) (n cp : Nat) : Obj := .cells #[.int .i64 now, .slice A n cp] 33
theorem c4 {W : World} {g : Nat} {x y z u : Value} {t : TypeId} (h : W.heap[g]? = some (.cells #[x, y, z, u] t (0, 0))) : W.cell? ⟨g, 0, none⟩ = some x ∧ W.cell? ⟨g, 1, none⟩ = some y ∧ W.cell? ⟨g, 2, none⟩ = some z ∧ W.cell? ⟨g, 3, none⟩ = some u := ⟨(blk_cell h 0).trans rfl, (blk_cell h 1).trans rfl, (blk_cell h 2).trans rfl, (blk_cell h 3).trans rfl⟩
theorem c8 {W : World} {g : Nat} {x1 x2 x3 x4 x5 x6 x7 x8 : Value} {t : TypeId} (h : W.heap[g]? = some (.cells #[x1, x2, x3, x4, x5, x6, x7, x8] t (0, 0))) : W.cell? ⟨g, 6, none⟩ = some x7 ∧ W.cell? ⟨g, 7, none⟩ = some x8 := ⟨(blk_cell h 6).trans rfl, (blk_cell h 7).trans rfl⟩
structure Fl (z wr : World) (a : Nat) (now : Int) (t : Tn) (i j : Nat) (B : Ac) : Prop where
 at_ : At wr z.heap.size a B
 bel : Below z.heap.size z wr
 lim : B.lim = t.f1
 met : B.met = t.f2.take i
 ser : B.ser.map fS = t.f3.take j
 inv : Inv B now j
theorem Fl.below {z wr wr' : World} {a : Nat} {now : Int} {t : Tn} {i j : Nat} {B : Ac} (h : Fl z wr a now t i j B) (hb : Below wr.heap.size wr wr') : Fl z wr' a now t i j B :=
 ⟨h.at_.below hb, below_then h.bel h.bel.size hb, h.lim, h.met, h.ser, h.inv⟩
theorem Fl.limit {z wr w2 : World} {a : Nat} {now : Int} {t : Tn} {i : Nat} {B : Ac} (h : Fl z wr a now t i 0 B) (hG : GoodT now t) (hi : i < t.f2.length) (m : Ml) (em : t.f2.getD i z91 = m)
  (hl : Mp.Is Tryz.prog 9 w2 B.mb (Mp.put (B.met.map fM) m.f0 (.int .i64 m.f1))) (ht : wr.mapTurned w2 B.mb) : Fl z w2 a now t (i + 1) 0 { B with met := t.f2.take (i + 1) } := by
 have e : Mp.put (B.met.map fM) m.f0 (.int .i64 m.f1) = (t.f2.take (i + 1)).map fM := by
  rw [h.met, take_snoc' t.f2 z91 i hi, em]
  exact put_last fM (x := m) fun y hy => em ▸ ahead hG.m2 z91 i hi y hy
 exact ⟨h.at_.met' (e ▸ hl) ht, below_turned h.bel ht (h.at_.lo _ (.inr (.inl rfl))), h.lim, rfl, h.ser, ⟨h.inv.ok, h.inv.cov, h.inv.cnt, h.inv.le, h.inv.key, h.inv.n1, h.inv.n2, h.inv.n3⟩⟩
theorem sers_ahead {t : Tn} {now : Int} (hG : GoodT now t) {l : List Sx} {j : Nat} (hj : j < t.f3.length) (h : l.map fS = t.f3.take j) : ∀ x ∈ l, bef x.k (t.f3.getD j z93).f0 := fun x hx => by
 have h1 : fS x ∈ t.f3.take j := h ▸ List.mem_map.2 ⟨x, hx, rfl⟩
 exact ahead hG.m3 z93 j hj (fS x) h1
theorem dec1 (n i : Nat) (h : i < n) (hn : i < 1048576) : n - (intOf (.int .i64 ((i : Int) + 1))).toNat < n - (intOf (.int .i64 (i : Int))).toNat := by simp only [intOf, Int.toNat_natCast]; omega
theorem Inv.mono {A : Ac} {now : Int} {N M : Nat} (h : Inv A now N) (hn : N ≤ M) : Inv A now M := ⟨h.ok, h.cov, h.cnt, h.le, h.key, Nat.le_trans h.n1 hn, Nat.le_trans h.n2 hn, Nat.le_trans h.n3 hn⟩
theorem names_ahead {now : Int} {ts : List Tn} (hG : Good now ts) {l : List Tb} {j : Nat} (hj : j < ts.length) (h : l.map Tb.tn = ts.take j) : ∀ x ∈ l, bef x.name (ts.getD j z87).f0 := fun x hx => by
 have h1 : x.tn ∈ ts.take j := h ▸ List.mem_map.2 ⟨x, hx, rfl⟩
 exact ahead hG.up z87 j hj x.tn h1
theorem Fl.done {z wr : World} {a : Nat} {now : Int} {t : Tn} {B : Ac} (h : Fl z wr a now t t.f2.length t.f3.length B) : Ac.tn t.f0 B = t := by
 unfold Ac.tn
 rw [h.lim, h.met, h.ser, List.take_length, List.take_length]
set_option maxHeartbeats 8000000 in
set_option maxRecDepth 100000 in
theorem open_c (w : World) (a b c d e f now : Int) (A : Option Addr) (cp : Nat) (ts : List Tn) (hr : Kd.C k87 w A ts.length ts) (hc : ts.length ≤ cp) (hT : Tabs w) (hG : Good now ts) :
  Calls Tryz.prog 64 #[.agg #[.int .i64 a, .int .i64 b, .int .i64 c, .int .i64 d, .int .i64 e, .int .i64 f], .agg #[.int .i64 now, .slice A ts.length cp]] w fun x w' => x = .returned (ptr (w.heap.size + 3)) ∧ ∃ l, w'.heap[w.heap.size + 3]? = some (cB a b c d e f now (w.heap.size + 2)) ∧ Bk w' w.heap.size (w.heap.size + 2) l ∧ l.map Tb.tn = ts ∧ (∀ x ∈ l, Inv x.A now 1048576) ∧ Below w.heap.size w w' := by
 have hu1 := Tryz.underlying116
 have hu2 := Tryz.underlying93
 have hu3 := Tryz.underlying87
 have hu4 := Tryz.underlying91
 have hu5 := Tryz.underlying106
 have hu6 := Tryz.underlying29
 have hu7 := Tryz.underlying33
 have hmm := @run_makeMap Tryz.prog
 have HR := Aside0.mk hr
 have HC := Aside0.mk hc
 have HT := Aside0.mk hT
 have HG := Aside0.mk hG
 clear hr hc hT hG
 go_enter Tryz.func64, Tryz.ntmps64
 have eW : (w.alloc (cC a b c d e f)).heap.size = w.heap.size + 1 := World.size_alloc _ _
 obtain ⟨W4, hW4⟩ : ∃ W, (((w.alloc (cC a b c d e f)).alloc (cS now A ts.length cp)).alloc (.map #[] 0)).alloc (cB a b c d e f now (w.heap.size + 2)) = W := ⟨_, rfl⟩
 have HW : Aside0 (W4.heap[w.heap.size + 3]? = some (cB a b c d e f now (w.heap.size + 2)) ∧ Bk W4 w.heap.size (w.heap.size + 2) [] ∧ Below w.heap.size w W4) := ⟨by
  rw [← hW4]
  refine ⟨?_, ⟨?_, fun x hx => (by cases hx), List.Pairwise.nil, fun x hx => (by cases hx)⟩, below_alloc (below_alloc (below_alloc (below_alloc (Below.refl _ _) _) _) _) _⟩
  ·have h := blk_new (((w.alloc (cC a b c d e f)).alloc (cS now A ts.length cp)).alloc (.map #[] 0)) (cB a b c d e f now (w.heap.size + 2))
   rwa [show (((w.alloc (cC a b c d e f)).alloc (cS now A ts.length cp)).alloc (.map #[] 0)).heap.size = w.heap.size + 3 by simp] at h
  ·exact (Mp.made' ((w.alloc (cC a b c d e f)).alloc (cS now A ts.length cp)) Tryz.prog 9 (by simp)).alloc _⟩
 clear eW
 replace hW4 := Aside0.mk hW4
 go_wp2
 rw [hW4.out]
 clear hW4
 have hlt := HG.out.len
 go_loopw [22] (fun v22 wr => ∃ (j : Nat) (l : List Tb), v22 = .int .i64 j ∧ j ≤ ts.length ∧ Aside0 (wr.heap[w.heap.size + 3]? = some (cB a b c d e f now (w.heap.size + 2)) ∧ Bk wr w.heap.size (w.heap.size + 2) l ∧ Below w.heap.size w wr) ∧ Aside0 (l.map Tb.tn = ts.take j) ∧ Aside0 (∀ x ∈ l, Inv x.A now 1048576)) (fun v22 wr => ts.length - (intOf v22).toNat)
 case atStart => exact ⟨0, [], rfl, Nat.zero_le _, HW, ⟨rfl⟩, ⟨fun x hx => by cases hx⟩⟩
 case round =>
  rename World => wq
  clear HW
  obtain ⟨j, l, rfl, hj, HW, HL, HI⟩ := hrel
  rcases Nat.lt_or_ge j ts.length with hjl | hjl
  ·obtain ⟨ad, A2, c2', A3, c3', rfl, x0, x1, x2, x3, l2, i2, l3, i3⟩ := at_T87 HR.out (j : Int) (by omega) (by omega)
   obtain ⟨t, et⟩ : ∃ t, rd_T87 ts (j : Int) = t := ⟨_, rfl⟩
   have et2 : ts.getD j z87 = t := et
   rw [et] at x0 x1 x2 x3 l2 i2 l3 i3
   simp only [Int.toNat_natCast] at x0 x1 x2 x3
   have hgt := HG.out.all t (et2 ▸ mem_getD ts z87 j hjl)
   replace x0 := (HW.out.2.2.cell (World.block_lt_of_cell? w _ x0)).trans x0
   replace x1 := (HW.out.2.2.cell (World.block_lt_of_cell? w _ x1)).trans x1
   replace x2 := (HW.out.2.2.cell (World.block_lt_of_cell? w _ x2)).trans x2
   replace x3 := (HW.out.2.2.cell (World.block_lt_of_cell? w _ x3)).trans x3
   have HGT := Aside0.mk hgt
   have HET := Aside0.mk et2
   have I2 := Aside0.mk (And.intro i2 l2)
   have I3 := Aside0.mk (And.intro i3 l3)
   obtain ⟨Wz, hWz⟩ : ∃ W, wq.alloc (cT t.f0 t.f1 (.slice A2 t.f2.length c2') (.slice A3 t.f3.length c3')) = W := ⟨_, rfl⟩
   have HZ : Aside0 (Wz.heap[wq.heap.size]? = some (cT t.f0 t.f1 (.slice A2 t.f2.length c2') (.slice A3 t.f3.length c3')) ∧ Wz.heap[w.heap.size + 3]? = some (cB a b c d e f now (w.heap.size + 2)) ∧ Bk Wz w.heap.size (w.heap.size + 2) l ∧ Below w.heap.size w Wz) := ⟨by
    rw [← hWz]
    exact ⟨blk_new wq _, blk_alloc HW.out.1 _, HW.out.2.1.below (below_alloc (Below.refl _ _) _), below_alloc HW.out.2.2 _⟩⟩
   obtain ⟨r, hr⟩ : ∃ r, wq.heap.size = r := ⟨_, rfl⟩
   obtain ⟨g, hg⟩ : ∃ g, Wz.heap.size + 3 = g := ⟨_, rfl⟩
   rw [hr] at HZ
   replace hg := Aside0.mk hg
   clear et et2 i2 l2 i3 l3 hgt HW
   go_wp2_with (first
    | (go_at_call 66; refine (new_c Wz).mono ?_; rintro e w2 ⟨rfl, hA, hB⟩; rw [hg.out] at hA ⊢; obtain ⟨q0, _, _, _, _, _⟩ := c6 hA.blk; have f0 := blk_frozen hA.blk 0; have y1 := (c4 (blk_below HZ.out.1 hB)).2.1; have y2 := (c4 (blk_below HZ.out.1 hB)).2.2.1; have HA := Aside0.mk (And.intro hA hB); clear hA hB))
   have hF : Aside0 (Fl Wz (w2.setCell ⟨g, 0, none⟩ (.int .i64 t.f1)) g now t 0 0 { A0 Wz.heap.size with lim := t.f1 }) := ⟨⟨HA.out.1.lim' _, below_set HA.out.2 (HA.out.1.lo g (.inl rfl)), rfl, rfl, rfl, ⟨fun j _ h => absurd h (Nat.not_lt_zero _), (fun x h => by cases h), fun m => rfl, (fun x h => by cases h), (fun x h => by cases h), Nat.zero_le _, Nat.zero_le _, Nat.zero_le _⟩⟩⟩
   clear HA y1 y2 q0 f0 x0 x1 x2 x3
   have hn2 := HGT.out.n2
   have hn3 := HGT.out.n3
   go_loopw [35] (fun v35 wr => ∃ (i : Nat) (B : Ac), v35 = .int .i64 i ∧ i ≤ t.f2.length ∧ Aside0 (Fl Wz wr g now t i 0 B)) (fun v35 wr => t.f2.length - (intOf v35).toNat)
   case atStart => exact ⟨0, _, rfl, Nat.zero_le _, hF⟩
   case round =>
    rename World => wi
    clear hF
    obtain ⟨i, B, rfl, hi, HF⟩ := hrel
    rcases Nat.lt_or_ge i t.f2.length with hil | hil
    ·obtain ⟨ad2, eA, u0, u1⟩ := at_T91 I2.out.1 (i : Int) (by omega) (by omega)
     subst eA
     obtain ⟨m, em⟩ : ∃ m, rd_T91 t.f2 (i : Int) = m := ⟨_, rfl⟩
     have em2 := Aside0.mk (show t.f2.getD i z91 = m from em)
     rw [em] at u0 u1
     simp only [Int.toNat_natCast] at u0 u1
     have hbw := below_then HZ.out.2.2.2 HZ.out.2.2.2.size HF.out.bel
     replace u0 := (hbw.cell (World.block_lt_of_cell? w _ u0)).trans u0
     replace u1 := (hbw.cell (World.block_lt_of_cell? w _ u1)).trans u1
     have hms : m.f0.size ≤ maxLen := Nat.le_trans (HGT.out.z2 m (em2.out ▸ mem_getD t.f2 z91 i hil)) (by decide)
     clear em hbw
     go_wp2
     have HF2 : Aside0 (Fl Wz (wi.alloc (cM m.f0 m.f1)).drew g now t i 0 B) := ⟨HF.out.below (below_drew (below_alloc (Below.refl _ _) _))⟩
     have hbx : Aside0 ((wi.alloc (cM m.f0 m.f1)).drew.heap[wi.heap.size]? = some (cM m.f0 m.f1)) := ⟨blk_new wi _⟩
     have H1 : Aside0 ((wi.alloc (cM m.f0 m.f1)).drew.cell? ⟨g, 1, none⟩ = some (.map (some B.mb)) ∧ (wi.alloc (cM m.f0 m.f1)).drew.cell? ⟨wi.heap.size, 0, none⟩ = some (.string m.f0) ∧ (wi.alloc (cM m.f0 m.f1)).drew.cell? ⟨wi.heap.size, 1, none⟩ = some (.int .i64 m.f1)) := ⟨(c6 HF2.out.at_.blk).2.1, c2 hbx.out⟩
     have hms3 := Aside0.mk hms
     clear hbx HF u0 u1 hms
     refine start_ (n := 9) (S := fun w' => w'.cell? ⟨g, 1, none⟩ = some (.map (some B.mb)) ∧ w'.cell? ⟨wi.heap.size, 0, none⟩ = some (.string m.f0) ∧ w'.cell? ⟨wi.heap.size, 1, none⟩ = some (.int .i64 m.f1)) (ds := [8]) #[false, false, false, false, false, false, false, false, false] (by kernel_rfl) rfl rfl H1.out (fun hHeld => ?_)
     generalize (wi.alloc (cM m.f0 m.f1)).drew = w3 at HF2 hHeld ⊢
     refine pu_ 0 (some 39) (h := ?_)
     refine pu_ 1 (some 40) (h := ?_)
     refine pu_ 2 (some 41) (h := ?_)
     refine tk_ 3 (some 42) (hy := by rintro w' ⟨s0, s1, s2⟩; go_simp; with_reducible rfl) (hS := hHeld) (h := ?_)
     refine pu_ 4 (some 43) (h := ?_)
     refine tk_ 5 (some 44) (hy := by rintro w' ⟨s0, s1, s2⟩; go_simp; with_reducible rfl) (hS := hHeld) (h := ?_)
     refine pu_ 6 (some 45) (h := ?_)
     refine tk_ 7 (some 46) (hy := by rintro w' ⟨s0, s1, s2⟩; go_simp; with_reducible rfl) (hS := hHeld) (h := ?_)
     refine la_ 8 none (h := fun K hK => ?_)
     obtain ⟨w4, hrun, his, ht⟩ := HF2.out.at_.mm.upd Tryz.underlying9 Tryz.underlying109 (by have h1 := HF2.out.met; have h2 := HGT.out.n2; rw [List.length_map, h1, List.length_take]; simp only [maxLen]; omega) m.f0 hms3.out (.int .i64 m.f1) rfl
     have HF3 := Aside0.mk (HF2.out.limit HGT.out hil m em2.out his ht)
     clear his ht
     refine sk_ (h := ?_)
     refine hK.out _ _ ?_
     clear hK K
     refine done_ (by kernel_rfl) ?_
     go_wp2
     go_roundw
     case rel => exact ⟨i + 1, _, by go_num, hil, HF3⟩
     case measure => exact dec1 _ i hil (Nat.lt_of_lt_of_le hil hn2)
    ·obtain rfl : i = t.f2.length := by omega
     have y3 := (c4 (blk_below HZ.out.1 HF.out.bel)).2.2.2
     go_wp2
     clear y3
     go_loopw [51] (fun v51 wr => ∃ (i : Nat) (B : Ac), v51 = .int .i64 i ∧ i ≤ t.f3.length ∧ Aside0 (Fl Wz wr g now t t.f2.length i B)) (fun v51 wr => t.f3.length - (intOf v51).toNat)
     case atStart => exact ⟨0, B, rfl, Nat.zero_le _, HF⟩
     case round =>
      rename World => wk
      clear HF
      clear B
      obtain ⟨i, B, rfl, hi, HF⟩ := hrel
      rcases Nat.lt_or_ge i t.f3.length with hil | hil
      ·obtain ⟨ad3, eA, u0, u1⟩ := at_T93 I3.out.1 (i : Int) (by omega) (by omega)
       subst eA
       obtain ⟨m, em⟩ : ∃ m, rd_T93 t.f3 (i : Int) = m := ⟨_, rfl⟩
       have em2 := Aside0.mk (show t.f3.getD i z93 = m from em)
       rw [em] at u0 u1
       simp only [Int.toNat_natCast] at u0 u1
       have hbw := below_then HZ.out.2.2.2 HZ.out.2.2.2.size HF.out.bel
       replace u0 := (hbw.cell (World.block_lt_of_cell? w _ u0)).trans u0
       replace u1 := (hbw.cell (World.block_lt_of_cell? w _ u1)).trans u1
       have hms := Aside0.mk (HGT.out.z3 m (em2.out ▸ mem_getD t.f3 z93 i hil))
       have HT2 := Aside0.mk (HT.out.below HZ.out.2.2.2)
       have hah := Aside0.mk (sers_ahead HGT.out hil HF.out.ser)
       clear em hbw
       go_wp2_with (first
        | (go_at_call 113; have HF2 := HF.out.below (below_alloc (Below.refl _ _) (cX m.f0 m.f1)); refine (add_c Wz _ g B m.f0 m.f1 now i HF2.at_ HF2.bel HT2.out HF2.inv (by omega) hms.out.1 hms.out.2 (fun x hx e => before_ne (hah.out x hx) (by rw [em2.out]; exact e))).mono ?_; rintro e w5 ⟨rfl, B', gg, hat, hinv, hlim, hmet, hser, hbel, _, _⟩; have HF3 : Aside0 (Fl Wz w5 g now t t.f2.length (i + 1) B') := ⟨⟨hat, hbel, hlim.trans HF.out.lim, hmet.trans HF.out.met, by rw [hser, gins_last (fun x hx => by have := hah.out x hx; rw [em2.out] at this; exact this), List.map_append, HF.out.ser, take_snoc' t.f3 z93 i hil, em2.out]; rfl, hinv⟩⟩; clear hat hinv hlim hmet hser hbel HF2))
       go_roundw
       case rel => exact ⟨i + 1, _, by go_num, hil, HF3⟩
       case measure => exact dec1 _ i hil (Nat.lt_of_lt_of_le hil hn3)
      ·obtain rfl : i = t.f3.length := by omega
       go_wp2
       have HF2 : Aside0 (Fl Wz wk.drew g now t t.f2.length t.f3.length B) := ⟨HF.out.below (below_drew (Below.refl _ _))⟩
       have HK := Aside0.mk (HZ.out.2.2.1.below HF2.out.bel)
       have H2 : Aside0 (wk.drew.cell? ⟨w.heap.size + 3, 7, none⟩ = some (.map (some (w.heap.size + 2))) ∧ wk.drew.cell? ⟨r, 0, none⟩ = some (.string t.f0)) := ⟨(c8 (blk_below HZ.out.2.1 HF2.out.bel)).2, (c4 (blk_below HZ.out.1 HF2.out.bel)).1⟩
       clear HF
       refine start_ (n := 8) (S := fun w' => w'.cell? ⟨w.heap.size + 3, 7, none⟩ = some (.map (some (w.heap.size + 2))) ∧ w'.cell? ⟨r, 0, none⟩ = some (.string t.f0)) (ds := [7]) #[false, false, false, false, false, false, false, false] (by kernel_rfl) rfl rfl H2.out (fun hHeld => ?_)
       generalize wk.drew = w6 at HF2 HK hHeld ⊢
       refine pu_ 0 (some 62) (h := ?_)
       refine pu_ 1 (some 63) (h := ?_)
       refine pu_ 2 (some 64) (h := ?_)
       refine tk_ 3 (some 65) (hy := by rintro w' ⟨s0, s1⟩; go_simp; with_reducible rfl) (hS := hHeld) (h := ?_)
       refine pu_ 4 (some 66) (h := ?_)
       refine tk_ 5 (some 67) (hy := by rintro w' ⟨s0, s1⟩; go_simp; with_reducible rfl) (hS := hHeld) (h := ?_)
       refine pu_ 6 (some 68) (h := ?_)
       refine la_ 7 none (h := fun K hK => ?_)
       obtain ⟨w7, hrun, his, ht⟩ := HK.out.mp.upd Tryz.underlying9 Tryz.underlying104 (by have h1 := congrArg List.length HL.out; rw [List.length_map, List.length_take] at h1; simp only [tens, List.length_map, maxLen]; omega) t.f0 (Nat.le_trans HGT.out.n0 (by decide)) (ptr g) rfl
       have hput : Mp.put (tens l) t.f0 (ptr g) = tens (l ++ [(⟨t.f0, g, B⟩ : Tb)]) := put_last fT (x := (⟨t.f0, g, B⟩ : Tb)) fun y hy => by have := names_ahead HG.out hjl HL.out y hy; rw [HET.out] at this; exact this
       rw [hput] at his
       have hbase : w.heap.size ≤ Wz.heap.size := HZ.out.2.2.2.size
       have HW2 := Aside0.mk (And.intro ((turned_blk ht (by omega) (blk_lt (blk_below HZ.out.2.1 HF2.out.bel))).trans (blk_below HZ.out.2.1 HF2.out.bel)) (And.intro (HZ.out.2.2.1.enter HF2.out.bel HF2.out.at_ hbase (List.Perm.refl _) his ht) (below_turned (below_then HZ.out.2.2.2 HZ.out.2.2.2.size HF2.out.bel) ht (by omega))))
       have HL2 : Aside0 ((l ++ [(⟨t.f0, g, B⟩ : Tb)]).map Tb.tn = ts.take (j + 1)) := ⟨by rw [List.map_append, HL.out, take_snoc' ts z87 j hjl, HET.out]; exact congrArg (fun q => ts.take j ++ [q]) HF2.out.done⟩
       have HI2 : Aside0 (∀ x ∈ l ++ [(⟨t.f0, g, B⟩ : Tb)], Inv x.A now 1048576) := ⟨fun x hx => by
        rcases List.mem_append.1 hx with hx | hx
        ·exact HI.out x hx
        ·obtain rfl := List.mem_singleton.1 hx
         exact HF2.out.inv.mono HGT.out.n3⟩
       clear his ht hput
       refine sk_ (h := ?_)
       refine hK.out _ _ ?_
       clear hK K
       refine done_ (by kernel_rfl) ?_
       go_wp2
       go_roundw
       case rel => exact ⟨j + 1, _, by go_num, hjl, HW2, HL2, HI2⟩
       case measure => exact dec1 _ j hjl (Nat.lt_of_lt_of_le hjl hlt)
  ·obtain rfl : j = ts.length := by omega
   go_wp2
   go_ret
   exact ⟨rfl, l, HW.out.1, HW.out.2.1, by rw [HL.out, List.take_length], HI.out, HW.out.2.2⟩
end Go.Proofs.YtikbfjnbhogihaaGreatDoor.Bk
namespace Go.Proofs.YtikbfjnbhogihaaGreatDoor.M
open Go.RowKit Go.Proofs.YtikbfjnbhogihaaGreatDoorW.PrintWords Go.Proofs.YtikbfjnbhogihaaGreatDoorW.PrintLast Go.Proofs.YtikbfjnbhogihaaGreatDoorW.PrintMore
attribute [local go_sem] max2_int min2_int max_two min_two max_three min_three max_four min_four
set_option linter.unusedVariables false
set_option linter.unusedSimpArgs false
/-! ### laws_szSeriesS: function 147 -/
def laws_szSeriesS.l0 : Nat → List (S225) → Int → Int → Option (Int)
 | 0, _, _, _ => none
 | k + 1, x0, x1, x5 => if x5 < (x0.length : Int) then (if 0 ≤ x5 then ((laws_szSeries.f ((rd_T225 x0 x5).f0) ((rd_T225 x0 x5).f1) x1).bind fun t106 => (if t106 < 0 then (some (-1)) else (laws_szSeriesS.l0 k x0 t106 (wrap64 (x5 + 1))))) else (none)) else (some x1)
def laws_szSeriesS.f (k : Nat) (l0 : List (S225)) (a1 : Int) : Option (Int) := if (wrap64 (a1 - (l0.length : Int))) < 0 then (some (-1)) else (laws_szSeriesS.l0 k l0 (wrap64 (a1 - (l0.length : Int))) 0)
theorem laws_szSeriesS.mono_l : ∀ k, (∀ y0 y1 y2, LeO (laws_szSeriesS.l0 k y0 y1 y2) (laws_szSeriesS.l0 (k + 1) y0 y1 y2))
 | 0 => fun _ _ _ r h => by simp [laws_szSeriesS.l0] at h
 | k + 1 => by
  have ih0 := laws_szSeriesS.mono_l k
  ·intro y0 y1 y2
   unfold laws_szSeriesS.l0
   repeat' first
   | (with_reducible exact ih0 _ _ _)
   | (with_reducible exact LeO.refl _)
   | (with_reducible exact LeO.none _)
   | (with_reducible refine LeO.ite ?_ ?_)
   | (with_reducible refine LeO.bind ?_ (fun _ => ?_))
   | exact ih0 _ _ _
   | exact LeO.none _
   | refine LeO.ite ?_ ?_
   | refine LeO.bind ?_ (fun _ => ?_)
theorem laws_szSeriesS.mono : ∀ a0 a1 k, LeO (laws_szSeriesS.f k a0 a1) (laws_szSeriesS.f (k + 1) a0 a1) := by
 intro a0 a1 k
 have ih0 := laws_szSeriesS.mono_l k
 unfold laws_szSeriesS.f
 repeat' first
   | (with_reducible exact ih0 _ _ _)
   | (with_reducible exact LeO.refl _)
   | (with_reducible exact LeO.none _)
   | (with_reducible refine LeO.ite ?_ ?_)
   | (with_reducible refine LeO.bind ?_ (fun _ => ?_))
   | exact ih0 _ _ _
   | exact LeO.none _
   | refine LeO.ite ?_ ?_
   | refine LeO.bind ?_ (fun _ => ?_)
set_option maxHeartbeats 8000000 in
set_option maxRecDepth 100000 in
theorem laws_szSeriesS.calls (k : Nat) (A0 : Option Addr) (c0 : Nat) (l0 : List (S225)) (a1 : Int) (r : Int) (w : World) (hr0 : Kd.C k225 w A0 l0.length l0) (hc0 : l0.length ≤ c0) (h : laws_szSeriesS.f k l0 a1 = some r) :
  Calls Tryz.prog 147 #[.slice A0 l0.length c0, .int .i64 a1] w fun e w' => e = .returned (.int .i64 r) ∧ Below w.heap.size w w' := by
 have hu225 := Tryz.underlying225
 have HR0 := Aside0.mk hr0
 have HC0 := Aside0.mk hc0
 clear hr0 hc0
 have HB := Aside0.mk (Below.refl w.heap.size w)
 have H : (if (wrap64 (a1 - (l0.length : Int))) < 0 then (some (-1)) else (laws_szSeriesS.l0 k l0 (wrap64 (a1 - (l0.length : Int))) 0)) = some r := h
 clear h
 by_cases c3 : (wrap64 (a1 - (l0.length : Int))) < 0
 ·rw [if_pos c3] at H
  have c3b0 : decide ((wrap64 (a1 - (l0.length : Int))) < 0) = true := decide_eq_true c3
  clear c3
  obtain rfl := Option.some.inj H
  go_enter Tryz.func147, Tryz.ntmps147
  go_wp2
  go_ret
  exact ⟨by first | rfl | (simp [errW_none, errW_some] <;> rfl) | (simp [*, errW_none, errW_some] <;> rfl), by repeat (first | (with_reducible first | exact HB.out | apply below_alloc | apply pw_below_drewN | apply below_drew1) | exact HB.out)⟩
 ·rw [if_neg c3] at H
  have c3b0 : decide ((wrap64 (a1 - (l0.length : Int))) < 0) = false := decide_eq_false c3
  clear c3
  have H' := Aside0.mk H
  clear H
  go_enter Tryz.func147, Tryz.ntmps147
  go_wp2
  go_loopg [1, 5] k (fun kq v1 v5 w' => ∃ (x1_1 : Int) (x5_1 : Int), v1 = .int .i64 x1_1 ∧ v5 = .int .i64 x5_1 ∧ Aside0 (laws_szSeriesS.l0 kq l0 x1_1 x5_1 = some r) ∧ Aside0 (kq ≤ k) ∧ Aside0 (Below w.heap.size w w'))
  case atStart => exact ⟨(wrap64 (a1 - (l0.length : Int))), (0), (by first | rfl | (simp; done) | (simp [*]; done)), (by first | rfl | (simp; done) | (simp [*]; done)), H', ⟨Nat.le_refl _⟩, ⟨by repeat (first | (with_reducible first | exact HB.out | apply below_alloc | apply pw_below_drewN | apply below_drew1) | exact HB.out)⟩⟩
  case round =>
   clear H'
   try clear c1
   try clear p2
   try clear c3
   try clear c3b0
   obtain ⟨x1_1, x5_1, rfl, rfl, HA, HK1, HB⟩ := hrel
   cases gk with
   | zero => exact absurd HA.out (by simp [laws_szSeriesS.l0])
   | succ k1 =>
    have H := HA.out
    clear HA
    simp only [laws_szSeriesS.l0] at H
    by_cases c4 : x5_1 < (l0.length : Int)
    ·rw [if_pos c4] at H
     have c4b0 : decide (x5_1 < (l0.length : Int)) = true := decide_eq_true c4
     clear c4
     by_cases c5 : 0 ≤ x5_1
     ·rw [if_pos c5] at H
      have c5b0 : decide (0 ≤ x5_1) = true := decide_eq_true c5
      clear c5
      replace H := Option.bind_eq_some_iff.mp H
      obtain ⟨t106, A60, H⟩ := H
      replace H : (if t106 < 0 then (some (-1)) else (laws_szSeriesS.l0 k1 l0 t106 (wrap64 (x5_1 + 1)))) = some r := H
      have A6 := Aside0.mk A60
      clear A60
      by_cases c7 : t106 < 0
      ·rw [if_pos c7] at H
       have c7b0 : decide (t106 < 0) = true := decide_eq_true c7
       clear c7
       obtain rfl := Option.some.inj H
       have p105 : 0 ≤ (x5_1 : Int) := of_decide_eq_true (by first | (with_reducible assumption) | assumption)
       have q105 : x5_1 < (l0.length : Int) := of_decide_eq_true (by first | (with_reducible assumption) | assumption)
       obtain ⟨ad105, e105, hx105_0, hx105_1⟩ := at_T225 HR0.out x5_1 p105 q105
       cases e105
       replace hx105_0 := (HB.out.cell (World.block_lt_of_cell? w _ hx105_0)).trans hx105_0
       replace hx105_1 := (HB.out.cell (World.block_lt_of_cell? w _ hx105_1)).trans hx105_1
       replace p105 := eq_true p105
       replace q105 := eq_true q105
       go_wp2_with (first | ((with_reducible refine gate_callee (f := 167) rfl ?_); refine goesL_ (some 23) rfl rfl Tryz.func167 (by kernel_rfl) rfl #[.agg #[.string ((rd_T225 l0 x5_1).f0), .int .i64 ((rd_T225 l0 x5_1).f1)], .int .i64 x1_1] rfl (by (try simp only [List.map_toArray, List.map_cons, List.map_nil]); first | done | rfl | (simp only [List.length_drop, List.length_take]; rfl)) ?_; (with_reducible refine (laws_szSeries.calls ((rd_T225 l0 x5_1).f0) ((rd_T225 l0 x5_1).f1) x1_1 t106 _ A6.out).mono ?_); rintro e w8 ⟨rfl, hb⟩; refine ⟨_, rfl, ?_⟩; have n0_ := Aside0.mk (below_step (by repeat (first | (with_reducible first | exact HB.out | apply below_alloc | apply pw_below_drewN | apply below_drew1) | exact HB.out)) hb); clear HB; have HB := n0_; clear n0_; (try clear hb); (try clear hb2); (try clear hk); (try clear hi)))
       go_ret
       exact ⟨by first | rfl | (simp [errW_none, errW_some] <;> rfl) | (simp [*, errW_none, errW_some] <;> rfl), by repeat (first | (with_reducible first | exact HB.out | apply below_alloc | apply pw_below_drewN | apply below_drew1) | exact HB.out)⟩
      ·rw [if_neg c7] at H
       have c7b0 : decide (t106 < 0) = false := decide_eq_false c7
       clear c7
       have H' := Aside0.mk H
       clear H
       have p105 : 0 ≤ (x5_1 : Int) := of_decide_eq_true (by first | (with_reducible assumption) | assumption)
       have q105 : x5_1 < (l0.length : Int) := of_decide_eq_true (by first | (with_reducible assumption) | assumption)
       obtain ⟨ad105, e105, hx105_0, hx105_1⟩ := at_T225 HR0.out x5_1 p105 q105
       cases e105
       replace hx105_0 := (HB.out.cell (World.block_lt_of_cell? w _ hx105_0)).trans hx105_0
       replace hx105_1 := (HB.out.cell (World.block_lt_of_cell? w _ hx105_1)).trans hx105_1
       replace p105 := eq_true p105
       replace q105 := eq_true q105
       go_wp2_with (first | ((with_reducible refine gate_callee (f := 167) rfl ?_); refine goesL_ (some 23) rfl rfl Tryz.func167 (by kernel_rfl) rfl #[.agg #[.string ((rd_T225 l0 x5_1).f0), .int .i64 ((rd_T225 l0 x5_1).f1)], .int .i64 x1_1] rfl (by (try simp only [List.map_toArray, List.map_cons, List.map_nil]); first | done | rfl | (simp only [List.length_drop, List.length_take]; rfl)) ?_; (with_reducible refine (laws_szSeries.calls ((rd_T225 l0 x5_1).f0) ((rd_T225 l0 x5_1).f1) x1_1 t106 _ A6.out).mono ?_); rintro e w9 ⟨rfl, hb⟩; refine ⟨_, rfl, ?_⟩; have n0_ := Aside0.mk (below_step (by repeat (first | (with_reducible first | exact HB.out | apply below_alloc | apply pw_below_drewN | apply below_drew1) | exact HB.out)) hb); clear HB; have HB := n0_; clear n0_; (try clear hb); (try clear hb2); (try clear hk); (try clear hi)))
       go_roundg k1
       case measure => have := HK1.out; omega
       case rel => exact ⟨(t106), (wrap64 (x5_1 + 1)), (by first | rfl | (simp; done) | (simp [*]; done)), (by first | rfl | (simp; done) | (simp [*]; done)), H', ⟨by have := HK1.out; omega⟩, ⟨by repeat (first | (with_reducible first | exact HB.out | apply below_alloc | apply pw_below_drewN | apply below_drew1) | exact HB.out)⟩⟩
     ·rw [if_neg c5] at H
      exact absurd H (by simp)
    ·rw [if_neg c4] at H
     have c4b0 : decide (x5_1 < (l0.length : Int)) = false := decide_eq_false c4
     clear c4
     obtain rfl := Option.some.inj H
     go_wp2
     go_ret
     exact ⟨by first | rfl | (simp [errW_none, errW_some] <;> rfl) | (simp [*, errW_none, errW_some] <;> rfl), by repeat (first | (with_reducible first | exact HB.out | apply below_alloc | apply pw_below_drewN | apply below_drew1) | exact HB.out)⟩
end Go.Proofs.YtikbfjnbhogihaaGreatDoor.M
/- A state that StateOK takes is in order. Plain. -/
namespace Go.Proofs.YtikbfjnbhogihaaGreatDoor.Bk
open Go.RowKit Go.Proofs.YtikbfjnbhogihaaGreatDoor.M Go.Proofs.YtikbfjnbhogihaaGreatDoor.StOK Go.Proofs.YtikbfjnbhogihaaGreatDoorW.PrintWords Go.Proofs.YtikbfjnbhogihaaGreatDoorW.PrintLast Go.Proofs.YtikbfjnbhogihaaGreatDoorW.PrintMore
set_option linter.unusedVariables false
theorem less_before : ∀ a b : List UInt8, Op.bytesLess a b = bytesBefore a b
 | [], [] => rfl
 | [], _ :: _ => rfl
 | _ :: _, [] => rfl
 | a :: x, b :: y => by rw [Op.bytesLess, bytesBefore, less_before x y]
theorem tl_eq (s : ByteArray) : s.toList = s.data.toList := ByteArray.toList_eq s
theorem up_pair {α : Type} (kf : α → ByteArray) : ∀ l : List α, M.Rise.up (l.map kf) = true → l.Pairwise fun x y => bef (kf x) (kf y)
 | [], _ => List.Pairwise.nil
 | [_], _ => List.pairwise_singleton _ _
 | x :: y :: r, h => by
  obtain ⟨h1, h2⟩ := Bool.and_eq_true_iff.1 (show (Op.bytesLess (kf x).toList (kf y).toList && M.Rise.up ((y :: r).map kf)) = true from h)
  have ih := up_pair kf (y :: r) h2
  rw [less_before, tl_eq, tl_eq] at h1
  refine List.pairwise_cons.2 ⟨fun z hz => ?_, ih⟩
  rcases List.mem_cons.1 hz with rfl | hz
  ·exact h1
  ·exact bef_trans h1 ((List.pairwise_cons.1 ih).1 z hz)
theorem good_of {a b c d e f now : Int} {ts : List Tn} (h : stB a b c d e f now ts = true) (hs : ts.length ≤ 1048576 ∧ ∀ t ∈ ts, Sm t) : Good now ts := by
 unfold stB at h
 simp only [Bool.and_eq_true] at h
 obtain ⟨_, _, _, h1, h2⟩ := h
 refine ⟨up_pair _ ts h1, hs.1, fun t ht => ?_⟩
 have h3 := List.all_eq_true.1 h2 t ht
 have h4 := hs.2 t ht
 unfold tnB at h3
 simp only [Bool.and_eq_true] at h3
 obtain ⟨_, _, _, _, h5, h6, h7⟩ := h3
 refine ⟨up_pair _ t.f2 h6, up_pair _ t.f3 h7, h4.z0, h4.n2, h4.n3, h4.z2, fun x hx => ⟨h4.z3 x hx, ?_⟩⟩
 have h8 := List.all_eq_true.1 h5 x hx
 unfold srB at h8
 simp only [Bool.and_eq_true, decide_eq_true_eq] at h8
 exact h8.1.2
end Go.Proofs.YtikbfjnbhogihaaGreatDoor.Bk
namespace Go.Proofs.YtikbfjnbhogihaaGreatDoor.M
open Go.RowKit Go.Proofs.YtikbfjnbhogihaaGreatDoorW.PrintWords Go.Proofs.YtikbfjnbhogihaaGreatDoorW.PrintLast Go.Proofs.YtikbfjnbhogihaaGreatDoorW.PrintMore
attribute [local go_sem] max2_int min2_int max_two min_two max_three min_three max_four min_four
set_option linter.unusedVariables false
set_option linter.unusedSimpArgs false
open Go.Proofs.YtikbfjnbhogihaaGreatDoor.Opn
theorem opensP23 : Opens Tryz.prog 23 (Kd.pair (Kd.int .i64) (Kd.pair (Kd.int .i64) (Kd.pair (Kd.int .i64) (Kd.pair (Kd.int .i64) (Kd.pair (Kd.int .i64) (Kd.int .i64)))))) (fun x => (Lit.int .i64 x.1).wf = true ∧ (Lit.int .i64 x.2.1).wf = true ∧ (Lit.int .i64 x.2.2.1).wf = true ∧ (Lit.int .i64 x.2.2.2.1).wf = true ∧ (Lit.int .i64 x.2.2.2.2.1).wf = true ∧ (Lit.int .i64 x.2.2.2.2.2).wf = true) := Opens.struct Tryz.underlying23 (by kernel_rfl) (OpensFrom.cons rfl (by kernel_rfl) (Opens.int Tryz.underlying3) (OpensFrom.cons rfl (by kernel_rfl) (Opens.int Tryz.underlying3) (OpensFrom.cons rfl (by kernel_rfl) (Opens.int Tryz.underlying3) (OpensFrom.cons rfl (by kernel_rfl) (Opens.int Tryz.underlying3) (OpensFrom.cons rfl (by kernel_rfl) (Opens.int Tryz.underlying3) (OpensFrom.one rfl (by kernel_rfl) (Opens.int Tryz.underlying3)))))))
instance : Inhabited S223 := ⟨z223⟩
def b223 (x : S223) : Prop := x.f0.size ≤ maxLen ∧ (Lit.int .i64 x.f1).wf = true
theorem opens223 : Opens Tryz.prog 223 k223 b223 := Opens.iso (Opens.struct Tryz.underlying223 (by kernel_rfl) (OpensFrom.cons rfl (by kernel_rfl) (Opens.string Tryz.underlying9) (OpensFrom.one rfl (by kernel_rfl) (Opens.int Tryz.underlying3)))) (fun x : S223 => (x.f0, x.f1)) (fun a => (⟨a.1, a.2⟩ : S223)) (fun _ => rfl)
instance : Inhabited S225 := ⟨z225⟩
def b225 (x : S225) : Prop := x.f0.size ≤ maxLen ∧ (Lit.int .i64 x.f1).wf = true
theorem opens225 : Opens Tryz.prog 225 k225 b225 := Opens.iso (Opens.struct Tryz.underlying225 (by kernel_rfl) (OpensFrom.cons rfl (by kernel_rfl) (Opens.string Tryz.underlying9) (OpensFrom.one rfl (by kernel_rfl) (Opens.int Tryz.underlying3)))) (fun x : S225 => (x.f0, x.f1)) (fun a => (⟨a.1, a.2⟩ : S225)) (fun _ => rfl)
instance : Inhabited S159 := ⟨z159⟩
def b159 (x : S159) : Prop := x.f0.size ≤ maxLen ∧ (Lit.int .i64 x.f1).wf = true ∧ (x.f2.length ≤ maxLen ∧ ∀ y_ ∈ x.f2, b223 y_) ∧ (x.f3.length ≤ maxLen ∧ ∀ y_ ∈ x.f3, b225 y_)
theorem opens159 : Opens Tryz.prog 159 k159 b159 := Opens.iso (Opens.struct Tryz.underlying159 (by kernel_rfl) (OpensFrom.cons rfl (by kernel_rfl) (Opens.string Tryz.underlying9) (OpensFrom.cons rfl (by kernel_rfl) (Opens.int Tryz.underlying3) (OpensFrom.cons rfl (by kernel_rfl) (Opens.slice Tryz.underlying156 (by kernel_rfl) opens223) (OpensFrom.one rfl (by kernel_rfl) (Opens.slice Tryz.underlying157 (by kernel_rfl) opens225)))))) (fun x : S159 => (x.f0, x.f1, x.f2, x.f3)) (fun a => (⟨a.1, a.2.1, a.2.2.1, a.2.2.2⟩ : S159)) (fun _ => rfl)
theorem opensP26 : Opens Tryz.prog 26 (Kd.pair (Kd.int .i64) (Kd.slice 159 k159)) (fun x => (Lit.int .i64 x.1).wf = true ∧ (x.2.length ≤ maxLen ∧ ∀ y_ ∈ x.2, b159 y_)) := Opens.struct Tryz.underlying26 (by kernel_rfl) (OpensFrom.cons rfl (by kernel_rfl) (Opens.int Tryz.underlying3) (OpensFrom.one rfl (by kernel_rfl) (Opens.slice Tryz.underlying24 (by kernel_rfl) opens159)))
end Go.Proofs.YtikbfjnbhogihaaGreatDoor.M
namespace Go.Proofs.YtikbfjnbhogihaaGreatDoor.M
open Go.RowKit Go.Proofs.YtikbfjnbhogihaaGreatDoorW.PrintWords Go.Proofs.YtikbfjnbhogihaaGreatDoorW.PrintLast Go.Proofs.YtikbfjnbhogihaaGreatDoorW.PrintMore
attribute [local go_sem] max2_int min2_int max_two min_two max_three min_three max_four min_four
set_option linter.unusedVariables false
set_option linter.unusedSimpArgs false
/-! ### laws_toMetricLimit: function 169 -/
def laws_toMetricLimit.f (a0_0 : ByteArray) (a0_1 : Int) : Option (ByteArray × Int) := some (a0_0, a0_1)
set_option maxHeartbeats 8000000 in
set_option maxRecDepth 100000 in
theorem laws_toMetricLimit.calls (a0_0 : ByteArray) (a0_1 : Int) (r1 : ByteArray) (r2 : Int) (w : World) (h : laws_toMetricLimit.f a0_0 a0_1 = some (r1, r2)) :
  Calls Tryz.prog 169 #[.agg #[.string a0_0, .int .i64 a0_1]] w fun e w' => e = .returned (.agg #[.string r1, .int .i64 r2]) ∧ Below w.heap.size w w' := by
 have HB := Aside0.mk (Below.refl w.heap.size w)
 have H : (some (a0_0, a0_1)) = some (r1, r2) := h
 clear h
 simp only [Option.some.injEq, Prod.mk.injEq] at H
 obtain ⟨rfl, rfl⟩ := H
 go_enter Tryz.func169, Tryz.ntmps169
 go_wp2_with (first | ((with_reducible refine gate_dst (N := 1) rfl ?_); refine box_event ?hg (N := 1) ?hd (cs := #[.string a0_0, .int .i64 a0_1]) (t := 223) ?hr ?_; (case hd => rfl); (case hg => rfl); (case hr => (go_simp; done)); intro gb182 hg w2 hbox hb; have n0_ := Aside0.mk (below_step (by repeat ((with_reducible exact HB.out))) hb); have n1_ := Aside0.mk (hbox); clear HB; have HB := n0_; have BK182 := n1_; clear n0_ n1_; clear hb hbox hg) | ((with_reducible refine gate_dst (N := 2) rfl ?_); refine box_event ?hg (N := 2) ?hd (cs := #[.string (⟨#[]⟩ : ByteArray), .int .i64 0]) (t := 91) ?hr ?_; (case hd => rfl); (case hg => rfl); (case hr => (go_simp; done)); intro gb183 hg w3 hbox hb; have n0_ := Aside0.mk (blk_below (g := gb182) (o := .cells #[.string a0_0, .int .i64 a0_1] 223 (0, 0)) (by (with_reducible repeat (first | refine blk_drewN ?_ _ | refine blk_drew ?_ | refine blk_alloc ?_ _)); exact BK182.out) hb); have n1_ := Aside0.mk (below_step (by repeat ((with_reducible exact HB.out))) hb); have n2_ := Aside0.mk (hbox); have n4_ := Aside0.mk ((by rw [hg]; exact (below_size (by repeat ((with_reducible exact HB.out)))) : w.heap.size ≤ gb183)); clear BK182; clear HB; have BK182 := n0_; have HB := n1_; have BK183 := n2_; have GE183 := n4_; clear n0_ n1_ n2_ n4_; clear hb hbox hg) | ((with_reducible refine gate_dst (N := 3) rfl ?_); refine box_event ?hg (N := 3) ?hd (cs := #[.string (⟨#[]⟩ : ByteArray), .int .i64 0]) (t := 91) ?hr ?_; (case hd => rfl); (case hg => rfl); (case hr => (go_simp; done)); intro gb184 hg w4 hbox hb; have n0_ := Aside0.mk (blk_below (g := gb182) (o := .cells #[.string a0_0, .int .i64 a0_1] 223 (0, 0)) (by (with_reducible repeat (first | refine blk_drewN ?_ _ | refine blk_drew ?_ | refine blk_alloc ?_ _)); exact BK182.out) hb); have n1_ := Aside0.mk (blk_below (g := gb183) (o := .cells #[.string (⟨#[]⟩ : ByteArray), .int .i64 0] 91 (0, 0)) (by (with_reducible repeat (first | refine blk_drewN ?_ _ | refine blk_drew ?_ | refine blk_alloc ?_ _)); exact BK183.out) hb); have n2_ := Aside0.mk (below_step (by repeat ((with_reducible exact HB.out))) hb); have n3_ := Aside0.mk (hbox); have n5_ := Aside0.mk ((by rw [hg]; exact (below_size (by repeat ((with_reducible exact HB.out)))) : w.heap.size ≤ gb184)); have n8_ := Aside0.mk ((by rw [hg]; exact Nat.ne_of_lt (blk_lt (g := gb183) (o := .cells #[.string (⟨#[]⟩ : ByteArray), .int .i64 0] 91 (0, 0)) (by (with_reducible repeat (first | refine blk_drewN ?_ _ | refine blk_drew ?_ | refine blk_alloc ?_ _)); exact BK183.out)) : gb183 ≠ gb184)); clear BK182; clear BK183; clear HB; have BK182 := n0_; have BK183 := n1_; have HB := n2_; have BK184 := n3_; have GE184 := n5_; have NB183_184 := n8_; clear n0_ n1_ n2_ n3_ n5_ n8_; clear hb hbox hg; have hcz7_0 : w4.cell? ⟨gb182, 0, none⟩ = some (.string a0_0) := (blk_cell BK182.out 0).trans rfl; have hcz7_1 : w4.cell? ⟨gb182, 1, none⟩ = some (.int .i64 a0_1) := (blk_cell BK182.out 1).trans rfl; have hnc8 := NB183_184.out; have hcz9_0 : w4.cell? ⟨gb184, 0, none⟩ = some (.string (⟨#[]⟩ : ByteArray)) := (blk_cell BK184.out 0).trans rfl; have hcz9_1 : w4.cell? ⟨gb184, 1, none⟩ = some (.int .i64 0) := (blk_cell BK184.out 1).trans rfl; have hfz9_0 := blk_frozen BK184.out 0; have hfz9_1 := blk_frozen BK184.out 1; have hcz10_0 : w4.cell? ⟨gb183, 0, none⟩ = some (.string (⟨#[]⟩ : ByteArray)) := (blk_cell BK183.out 0).trans rfl; have hcz10_1 : w4.cell? ⟨gb183, 1, none⟩ = some (.int .i64 0) := (blk_cell BK183.out 1).trans rfl; have hfz10_0 := blk_frozen BK183.out 0; have hfz10_1 := blk_frozen BK183.out 1))
 refine bodyPost_ret (results_cell_row rfl _ _ gb183 91 #[.string a0_0, .int .i64 a0_1] (0, 0) _ rfl (by (with_reducible repeat (first | refine blk_drewN ?_ _ | refine blk_drew ?_ | refine blk_alloc ?_ _)); refine blk_put (cs := #[.string a0_0, .int .i64 0]) ?_ 1 _ rfl; (with_reducible repeat (first | refine blk_drewN ?_ _ | refine blk_drew ?_ | refine blk_alloc ?_ _)); refine blk_put (cs := #[.string (⟨#[]⟩ : ByteArray), .int .i64 0]) ?_ 0 _ rfl; (with_reducible repeat (first | refine blk_drewN ?_ _ | refine blk_drew ?_ | refine blk_alloc ?_ _)); refine blk_far ?_ NB183_184.out _; (with_reducible repeat (first | refine blk_drewN ?_ _ | refine blk_drew ?_ | refine blk_alloc ?_ _)); refine blk_far ?_ NB183_184.out _; (with_reducible repeat (first | refine blk_drewN ?_ _ | refine blk_drew ?_ | refine blk_alloc ?_ _)); exact BK183.out) Tryz.underlying91 rfl (by kernel_rfl)) rfl ?_
 exact ⟨by rfl, by repeat ((with_reducible first | exact HB.out | refine below_set ?_ GE183.out | refine below_set ?_ GE184.out))⟩
end Go.Proofs.YtikbfjnbhogihaaGreatDoor.M
