import Derived.Test.YtikbfjnbhogihaaGreatDoorKeyLaw
import Derived.Test.YtikbfjnbhogihaaGreatDoorSShelf
import Derived.Test.YtikbfjnbhogihaaGreatDoorMarkSS
import Derived.Test.YtikbfjnbhogihaaGreatDoorF15
import Derived.Test.YtikbfjnbhogihaaGreatDoorMkT
/- Shards, plain: the lists, the same. -/
namespace Go.Proofs.YtikbfjnbhogihaaGreatDoor.Shd
open Go.RowKit Go.Proofs.YtikbfjnbhogihaaGreatDoor.M Go.Proofs.YtikbfjnbhogihaaGreatDoor.Loops Go.Proofs.YtikbfjnbhogihaaGreatDoor.StOK Go.Proofs.YtikbfjnbhogihaaGreatDoorW.PrintWords Go.Proofs.YtikbfjnbhogihaaGreatDoorW.PrintLast Go.Proofs.YtikbfjnbhogihaaGreatDoorW.PrintMore
set_option linter.unusedVariables false
noncomputable def hsh (s : ByteArray) : Int := @dite _ (s.size ≤ 1048576) (Classical.propDecidable _) (fun h => Classical.choose (hash_same s h)) (fun _ => 0)
theorem hsh_is (s : ByteArray) (hn : s.size ≤ 1048576) : (-9223372036854775808 ≤ hsh s ∧ hsh s ≤ 9223372036854775807) ∧ Ev (fun k => spec_Hash64.f k s) (hsh s) ∧ Ev (fun k => impl_Hash64.f k s) (hsh s) := by
 unfold hsh
 rw [dif_pos hn]
 exact Classical.choose_spec (hash_same s hn)
noncomputable def shd (n e : Int) (s : ByteArray) : Int := if e = 0 then (hsh s % 18446744073709551616) % n else if e = 2 then (s.size : Int) % n else 0
theorem shd_lt (n e : Int) (s : ByteArray) (hn : 1 ≤ n) : 0 ≤ shd n e s ∧ shd n e s < n := by
 unfold shd
 split
 ·exact ⟨Int.emod_nonneg _ (by omega), Int.emod_lt_of_pos _ (by omega)⟩
 ·split
  ·exact ⟨Int.emod_nonneg _ (by omega), Int.emod_lt_of_pos _ (by omega)⟩
  ·omega
theorem impl_shard (a b c n e f : Int) (s : ByteArray) (hn : 1 ≤ n ∧ n ≤ 64) (hs : s.size ≤ 1048576) : Ev (fun k => impl_Config_shard.f k a b c n e f s) (shd n e s) := by
 unfold impl_Config_shard.f
 obtain ⟨h0, _, h2⟩ := hsh_is s hs
 by_cases h : e = 0
 ·refine Ev.ite_pos h (Ev.bind h2 ?_)
  rw [(uns (hsh s) n h0 hn).2]
  exact Ev.eq (Ev.now _) (by unfold shd; rw [if_pos h])
 ·refine Ev.ite_neg h ?_
  by_cases h2 : e = 2
  ·exact Ev.eq (Ev.ite_pos h2 (Ev.ite_neg (by omega) (Ev.now _))) (by unfold shd; rw [if_neg h, if_pos h2])
  ·exact Ev.eq (Ev.ite_neg h2 (Ev.now _)) (by unfold shd; rw [if_neg h, if_neg h2])
noncomputable def lst (n e : Int) (q : List Sr) (i : Int) : List ByteArray := (q.filter fun x => decide (shd n e x.f0 = i)).map (·.f0)
noncomputable def lsts (n e : Int) (q : List Sr) : List (List ByteArray) := (List.range n.toNat).map fun i : Nat => lst n e q (i : Int)
theorem lst_len (n e : Int) (q : List Sr) (i : Int) : (lst n e q i).length ≤ q.length := by unfold lst; rw [List.length_map]; exact List.length_filter_le _ _
theorem lst_snoc (n e : Int) (q : List Sr) (x : Sr) (i : Int) : lst n e (q ++ [x]) i = if shd n e x.f0 = i then lst n e q i ++ [x.f0] else lst n e q i := by
 unfold lst
 rw [List.filter_append, List.map_append]
 by_cases h : shd n e x.f0 = i
 ·rw [if_pos h]; simp [h]
 ·rw [if_neg h]; simp [h]
theorem take_at {α : Type} (l : List α) (z : α) (j : Nat) (hj : j < l.length) : l.take (j + 1) = l.take j ++ [l.getD j z] := by
 rw [List.take_add_one, List.getD_eq_getElem?_getD, List.getElem?_eq_getElem hj]; rfl
theorem lsts_snoc (n e : Int) (hn : 1 ≤ n) (q : List Sr) (x : Sr) : (lsts n e q).set (shd n e x.f0).toNat (((lsts n e q).getD (shd n e x.f0).toNat []) ++ [x.f0]) = lsts n e (q ++ [x]) := by
 have hs := shd_lt n e x.f0 hn
 refine List.ext_getElem (by simp [lsts]) fun i h1 h2 => ?_
 have hi : i < n.toNat := by simpa [lsts] using h2
 rw [List.getElem_set]
 have e2 : (lsts n e (q ++ [x]))[i] = lst n e (q ++ [x]) (i : Int) := by simp [lsts]
 rw [e2, lst_snoc]
 by_cases h : (shd n e x.f0).toNat = i
 ·rw [if_pos h, if_pos (by omega)]
  congr 1
  rw [h, List.getD_eq_getElem?_getD, List.getElem?_eq_getElem (by simpa [lsts] using hi)]
  simp [lsts]
 ·rw [if_neg h, if_neg (by omega)]
  simp [lsts]
end Go.Proofs.YtikbfjnbhogihaaGreatDoor.Shd
/- A state that StateOK takes is in order. Plain. -/
namespace Go.Proofs.YtikbfjnbhogihaaGreatDoor.Bk
open Go.RowKit Go.Proofs.YtikbfjnbhogihaaGreatDoor.M Go.Proofs.YtikbfjnbhogihaaGreatDoor.StOK Go.Proofs.YtikbfjnbhogihaaGreatDoorW.PrintWords Go.Proofs.YtikbfjnbhogihaaGreatDoorW.PrintLast Go.Proofs.YtikbfjnbhogihaaGreatDoorW.PrintMore
set_option linter.unusedVariables false
theorem less_before : ∀ a b : List UInt8, Op.bytesLess a b = bytesBefore a b
 | [], [] => rfl
 | [], _ :: _ => rfl
 | _ :: _, [] => rfl
 | a :: x, b :: y => by rw [Op.bytesLess, bytesBefore, less_before x y]
theorem tl_eq (s : ByteArray) : s.toList = s.data.toList := ByteArray.toList_eq s
theorem up_pair {α : Type} (kf : α → ByteArray) : ∀ l : List α, M.Rise.up (l.map kf) = true → l.Pairwise fun x y => bef (kf x) (kf y)
 | [], _ => List.Pairwise.nil
 | [_], _ => List.pairwise_singleton _ _
 | x :: y :: r, h => by
  obtain ⟨h1, h2⟩ := Bool.and_eq_true_iff.1 (show (Op.bytesLess (kf x).toList (kf y).toList && M.Rise.up ((y :: r).map kf)) = true from h)
  have ih := up_pair kf (y :: r) h2
  rw [less_before, tl_eq, tl_eq] at h1
  refine List.pairwise_cons.2 ⟨fun z hz => ?_, ih⟩
  rcases List.mem_cons.1 hz with rfl | hz
  ·exact h1
  ·exact bef_trans h1 ((List.pairwise_cons.1 ih).1 z hz)
theorem good_of {a b c d e f now : Int} {ts : List Tn} (h : stB a b c d e f now ts = true) (hs : ts.length ≤ 1048576 ∧ ∀ t ∈ ts, Sm t) : Good now ts := by
 unfold stB at h
 simp only [Bool.and_eq_true] at h
 obtain ⟨_, _, _, h1, h2⟩ := h
 refine ⟨up_pair _ ts h1, hs.1, fun t ht => ?_⟩
 have h3 := List.all_eq_true.1 h2 t ht
 have h4 := hs.2 t ht
 unfold tnB at h3
 simp only [Bool.and_eq_true] at h3
 obtain ⟨_, _, _, _, h5, h6, h7⟩ := h3
 refine ⟨up_pair _ t.f2 h6, up_pair _ t.f3 h7, h4.z0, h4.n2, h4.n3, h4.z2, fun x hx => ⟨h4.z3 x hx, ?_⟩⟩
 have h8 := List.all_eq_true.1 h5 x hx
 unfold srB at h8
 simp only [Bool.and_eq_true, decide_eq_true_eq] at h8
 exact h8.1.2
end Go.Proofs.YtikbfjnbhogihaaGreatDoor.Bk
/- openBook: walked. -/
namespace Go.Proofs.YtikbfjnbhogihaaGreatDoor.Bk
open Go.RowKit Go.Proofs.YtikbfjnbhogihaaGreatDoor.M Go.Proofs.YtikbfjnbhogihaaGreatDoor.Loops Go.Proofs.YtikbfjnbhogihaaGreatDoorW.PrintWords Go.Proofs.YtikbfjnbhogihaaGreatDoorW.PrintLast Go.Proofs.YtikbfjnbhogihaaGreatDoorW.PrintMore
set_option linter.unusedVariables false
set_option linter.unusedSimpArgs false
abbrev cT (s : ByteArray) (n : Int) (u v : Value) : Obj := .cells #[.string s, .int .i64 n, u, v] 87
abbrev cC (a b c d e f : Int) : Obj := .cells #[.int .i64 a, .int .i64 b, .int .i64 c, .int .i64 d, .int .i64 e, .int .i64 f] 29
abbrev cS (now : Int) (A : Option Addr) (n cp : Nat) : Obj := .cells #[.int .i64 now, .slice A n cp] 33
theorem c4 {W : World} {g : Nat} {x y z u : Value} {t : TypeId} (h : W.heap[g]? = some (.cells #[x, y, z, u] t (0, 0))) : W.cell? ⟨g, 0, none⟩ = some x ∧ W.cell? ⟨g, 1, none⟩ = some y ∧ W.cell? ⟨g, 2, none⟩ = some z ∧ W.cell? ⟨g, 3, none⟩ = some u := ⟨(blk_cell h 0).trans rfl, (blk_cell h 1).trans rfl, (blk_cell h 2).trans rfl, (blk_cell h 3).trans rfl⟩
theorem c8 {W : World} {g : Nat} {x1 x2 x3 x4 x5 x6 x7 x8 : Value} {t : TypeId} (h : W.heap[g]? = some (.cells #[x1, x2, x3, x4, x5, x6, x7, x8] t (0, 0))) : W.cell? ⟨g, 6, none⟩ = some x7 ∧ W.cell? ⟨g, 7, none⟩ = some x8 := ⟨(blk_cell h 6).trans rfl, (blk_cell h 7).trans rfl⟩
structure Fl (z wr : World) (a : Nat) (now : Int) (t : Tn) (i j : Nat) (B : Ac) : Prop where
 at_ : At wr z.heap.size a B
 bel : Below z.heap.size z wr
 lim : B.lim = t.f1
 met : B.met = t.f2.take i
 ser : B.ser.map fS = t.f3.take j
 inv : Inv B now j
theorem dec1 (n i : Nat) (h : i < n) (hn : i < 1048576) : n - (intOf (.int .i64 ((i : Int) + 1))).toNat < n - (intOf (.int .i64 (i : Int))).toNat := by simp only [intOf, Int.toNat_natCast]; omega
theorem Fl.done {z wr : World} {a : Nat} {now : Int} {t : Tn} {B : Ac} (h : Fl z wr a now t t.f2.length t.f3.length B) : Ac.tn t.f0 B = t := by
 unfold Ac.tn
 rw [h.lim, h.met, h.ser, List.take_length, List.take_length]
end Go.Proofs.YtikbfjnbhogihaaGreatDoor.Bk
/- spec.l4Tenant: walked. The slices that it hands on are the state's own. -/
namespace Go.Proofs.YtikbfjnbhogihaaGreatDoor.Bk
open Go.RowKit Go.Proofs.YtikbfjnbhogihaaGreatDoor.M Go.Proofs.YtikbfjnbhogihaaGreatDoor.Loops Go.Proofs.YtikbfjnbhogihaaGreatDoor.StOK Go.Proofs.YtikbfjnbhogihaaGreatDoorW.PrintWords Go.Proofs.YtikbfjnbhogihaaGreatDoorW.PrintLast Go.Proofs.YtikbfjnbhogihaaGreatDoorW.PrintMore
set_option linter.unusedVariables false
set_option linter.unusedSimpArgs false
noncomputable def tenOf (n : ByteArray) (ts : List Tn) : Tn := (gget (fun t : Tn => t.f0) n ts).getD ⟨n, -1, [], []⟩
theorem put4 {W : World} {g t : Nat} {a b c d a' b' c' d' : Value} (h : W.heap[g]? = some (.cells #[a, b, c, d] t (0, 0))) : ((((W.setCell ⟨g, 0, none⟩ a').setCell ⟨g, 1, none⟩ b').setCell ⟨g, 2, none⟩ c').setCell ⟨g, 3, none⟩ d').heap[g]? = some (.cells #[a', b', c', d'] t (0, 0)) := blk_set (blk_set (blk_set (blk_set h 0 a') 1 b') 2 c') 3 d'
theorem bel4 {w W : World} {g : Nat} {a b c d : Value} (h : Below w.heap.size w W) (hg : w.heap.size ≤ g) : Below w.heap.size w ((((W.setCell ⟨g, 0, none⟩ a).setCell ⟨g, 1, none⟩ b).setCell ⟨g, 2, none⟩ c).setCell ⟨g, 3, none⟩ d) := below_set (below_set (below_set (below_set h hg) hg) hg) hg
theorem gget_drop {α : Type} (kf : α → ByteArray) (n : ByteArray) (l : List α) (z : α) (j : Nat) (hj : j < l.length) (x : α) (hx : l.getD j z = x) : gget kf n (l.drop j) = if ((kf x).toList == n.toList) = true then some x else gget kf n (l.drop (j + 1)) := by
 have e : l.drop j = x :: l.drop (j + 1) := by
  rw [List.drop_eq_getElem_cons hj, ← hx, List.getD_eq_getElem?_getD, List.getElem?_eq_getElem hj]; rfl
 rw [e]
 unfold gget
 rw [List.find?_cons, ByteArray.toList_eq, ByteArray.toList_eq]
 cases ((kf x).data.toList == n.data.toList) <;> rfl
set_option maxHeartbeats 4000000 in
set_option maxRecDepth 100000 in
theorem lten_c (w0 w : World) (now : Int) (A : Option Addr) (cp : Nat) (ts : List Tn) (n : ByteArray) (hr : Kd.C k87 w0 A ts.length ts) (hB : Below w0.heap.size w0 w) (hc : ts.length ≤ cp) (hl : ts.length ≤ 1048576) :
  Calls Tryz.prog 61 #[.agg #[.int .i64 now, .slice A ts.length cp], .string n] w fun x w' => ∃ (t : Tn) (A2 : Option Addr) (c2 : Nat) (A3 : Option Addr) (c3 : Nat), x = .returned (.agg #[.string t.f0, .int .i64 t.f1, .slice A2 t.f2.length c2, .slice A3 t.f3.length c3]) ∧ t = tenOf n ts ∧ Kd.C k91 w0 A2 t.f2.length t.f2 ∧ t.f2.length ≤ c2 ∧ Kd.C k93 w0 A3 t.f3.length t.f3 ∧ t.f3.length ≤ c3 ∧ Below w.heap.size w w' := by
 have hu1 := Tryz.underlying33
 have hu2 := Tryz.underlying87
 obtain ⟨T0, hT0⟩ : ∃ o, o = cT ⟨#[]⟩ 0 (.slice none 0 0) (.slice none 0 0) := ⟨_, rfl⟩
 obtain ⟨L, hL⟩ : ∃ L, L = [(w.heap.size + 1, T0), (w.heap.size, cS now A ts.length cp)] := ⟨_, rfl⟩
 have K0 : Aside0 (Kp w ((w.alloc (cS now A ts.length cp)).alloc (cT ⟨#[]⟩ 0 (.slice none 0 0) (.slice none 0 0))) L) := ⟨hT0 ▸ hL ▸ St.two w _ _⟩
 have hm0 : (w.heap.size + 1, T0) ∈ L ∧ (w.heap.size, cS now A ts.length cp) ∈ L := by rw [hL]; simp
 replace hm0 := Aside0.mk hm0
 replace hT0 := Aside0.mk hT0
 have HR := Aside0.mk (And.intro hr hc)
 have HN := Aside0.mk hl
 have HB := Aside0.mk hB
 clear hr hc hl hL hB
 go_enter Tryz.func61, Tryz.ntmps61
 go_wp2
 go_loopw [10] (fun v wr => ∃ j : Nat, j ≤ ts.length ∧ v = .int .i64 j ∧ Aside0 (Kp w wr L) ∧ Aside0 (gget (fun t : Tn => t.f0) n ts = gget (fun t : Tn => t.f0) n (ts.drop j))) (fun v wr => ts.length - (intOf v).toNat)
 case atStart => exact ⟨0, by omega, by simp, K0, ⟨by rw [List.drop_zero]⟩⟩
 case round =>
  rename World => wo
  clear K0
  obtain ⟨j, hj, rfl, K, HV⟩ := hrel
  obtain hj5 | hj6 : ts.length ≤ j ∨ j < ts.length := by omega
  ·obtain rfl : j = ts.length := by omega
   have hz : _ = some (cT ⟨#[]⟩ 0 (.slice none 0 0) (.slice none 0 0)) := (K.out.has _ hm0.out.1).trans (by rw [hT0.out])
   obtain ⟨z0, z1, z2, z3⟩ := c4 hz
   have zf0 := blk_frozen hz 0
   have zf1 := blk_frozen hz 1
   have zf2 := blk_frozen hz 2
   have zf3 := blk_frozen hz 3
   replace hz := Aside0.mk hz
   go_wp2
   refine bodyPost_ret (results_cell_row rfl _ _ (w.heap.size + 1) 87 #[.string n, .int .i64 (-1), .slice none 0 0, .slice none 0 0] (0, 0) _ rfl (put4 hz.out) Tryz.underlying87 rfl (by kernel_rfl)) rfl ?_
   exact ⟨⟨n, -1, [], []⟩, none, 0, none, 0, rfl, by unfold tenOf; rw [HV.out, List.drop_length]; rfl, Kd.C_nil _ _, Nat.le_refl _, Kd.C_nil _ _, Nat.le_refl _, bel4 K.out.bel (Nat.le_succ _)⟩
  ·obtain ⟨ad, A2, c2, A3, c3, rfl, x0, x1, x2, x3, l2, i2, l3, i3⟩ := at_T87 HR.out.1 (j : Int) (by omega) (by omega)
   have hn := Aside0.mk HN.out
   obtain ⟨t, et⟩ : ∃ t, rd_T87 ts (j : Int) = t := ⟨_, rfl⟩
   have et2 := Aside0.mk (show ts.getD j z87 = t from et)
   rw [et] at x0 x1 x2 x3 l2 i2 l3 i3
   simp only [Int.toNat_natCast] at x0 x1 x2 x3
   replace l2 := Aside0.mk l2
   replace l3 := Aside0.mk l3
   replace i2 := Aside0.mk i2
   replace i3 := Aside0.mk i3
   replace x0 := ((below_then HB.out HB.out.size K.out.bel).cell (World.block_lt_of_cell? w0 _ x0)).trans x0
   replace x1 := ((below_then HB.out HB.out.size K.out.bel).cell (World.block_lt_of_cell? w0 _ x1)).trans x1
   replace x2 := ((below_then HB.out HB.out.size K.out.bel).cell (World.block_lt_of_cell? w0 _ x2)).trans x2
   replace x3 := ((below_then HB.out HB.out.size K.out.bel).cell (World.block_lt_of_cell? w0 _ x3)).trans x3
   clear et
   have K4 := Aside0.mk (K.out.alloc (cT t.f0 t.f1 (.slice A2 t.f2.length c2) (.slice A3 t.f3.length c3)))
   obtain ⟨q, hq⟩ : ∃ q, (t.f0.toList == n.toList) = q := ⟨_, rfl⟩
   have hg := Aside0.mk (HV.out.trans ((gget_drop (fun t : Tn => t.f0) n ts _ j hj6 t et2.out).trans (by rw [hq] : _ = if q = true then some t else gget (fun t : Tn => t.f0) n (ts.drop (j + 1)))))
   have hnew := blk_new wo (cT t.f0 t.f1 (.slice A2 t.f2.length c2) (.slice A3 t.f3.length c3))
   obtain ⟨b0, b1, b2, b3⟩ := c4 hnew
   clear HV hnew
   cases q
   ·go_wp2
    go_roundw
    case rel => have hn3 := hn.out; exact ⟨j + 1, by omega, by rw [St.sc j (by omega)], K4, hg⟩
    case measure => exact St.dec _ j hj6 (Nat.lt_of_lt_of_le hj6 hn.out)
   ·have hz : _ = some (cT ⟨#[]⟩ 0 (.slice none 0 0) (.slice none 0 0)) := (K4.out.has _ hm0.out.1).trans (by rw [hT0.out])
    obtain ⟨z0, z1, z2, z3⟩ := c4 hz
    have zf0 := blk_frozen hz 0
    have zf1 := blk_frozen hz 1
    have zf2 := blk_frozen hz 2
    have zf3 := blk_frozen hz 3
    replace hz := Aside0.mk hz
    go_wp2
    refine bodyPost_ret (results_cell_row rfl _ _ (w.heap.size + 1) 87 #[.string t.f0, .int .i64 t.f1, .slice A2 t.f2.length c2, .slice A3 t.f3.length c3] (0, 0) _ rfl (put4 hz.out) Tryz.underlying87 rfl (by kernel_rfl)) rfl ?_
    have hb := bel4 (a := .string t.f0) (b := .int .i64 t.f1) (c := .slice A2 t.f2.length c2) (d := .slice A3 t.f3.length c3) K4.out.bel (Nat.le_succ _)
    exact ⟨t, A2, c2, A3, c3, rfl, by unfold tenOf; rw [hg.out]; rfl, i2.out, l2.out, i3.out, l3.out, hb⟩
end Go.Proofs.YtikbfjnbhogihaaGreatDoor.Bk
/- The lists of shards hold each key once: their length in all. Plain. -/
namespace Go.Proofs.YtikbfjnbhogihaaGreatDoor.Shd
open Go.RowKit Go.Proofs.YtikbfjnbhogihaaGreatDoor.M Go.Proofs.YtikbfjnbhogihaaGreatDoor.Mark Go.Proofs.YtikbfjnbhogihaaGreatDoor.StOK
def sumR (g : Nat → Nat) : Nat → Nat
 | 0 => 0
 | n + 1 => sumR g n + g n
theorem tot_append : ∀ (l r : List (List ByteArray)), tot (l ++ r) = tot l + tot r
 | [], r => by simp [tot]
 | x :: l, r => by show x.length + tot (l ++ r) = x.length + tot l + tot r; rw [tot_append l r]; omega
theorem tot_range (g : Nat → List ByteArray) : ∀ n, tot ((List.range n).map g) = sumR (fun i => (g i).length) n
 | 0 => rfl
 | n + 1 => by
  rw [List.range_succ, List.map_append, tot_append, tot_range g n]
  show _ + ((g n).length + 0) = _
  rfl
theorem one_of (t : Int) : ∀ n : Nat, sumR (fun i => if t = (i : Int) then 1 else 0) n = if 0 ≤ t ∧ t < (n : Int) then 1 else 0
 | 0 => by rw [if_neg (by omega)]; rfl
 | n + 1 => by
  show sumR _ n + (if t = (n : Int) then 1 else 0) = _
  rw [one_of t n]
  by_cases h : t = (n : Int)
  ·rw [if_pos h, if_neg (by omega), if_pos (by omega)]
  ·rw [if_neg h]
   by_cases h2 : 0 ≤ t ∧ t < (n : Int)
   ·rw [if_pos h2, if_pos (by omega)]
   ·rw [if_neg h2, if_neg (by omega)]
theorem sumR_add (f g : Nat → Nat) : ∀ n, sumR (fun i => f i + g i) n = sumR f n + sumR g n
 | 0 => rfl
 | n + 1 => by
  show sumR _ n + (f n + g n) = (sumR f n + f n) + (sumR g n + g n)
  rw [sumR_add f g n]; omega
theorem tot_lsts (d e : Int) : ∀ q : List Sr, tot (lsts d e q) ≤ q.length
 | [] => by
  unfold lsts
  rw [tot_range]
  have : ∀ n, sumR (fun i => (lst d e [] (i : Int)).length) n = 0 := by
   intro n
   induction n with
   | zero => rfl
   | succ n ih => show sumR _ n + 0 = 0; rw [ih]
  rw [this]; exact Nat.le_refl _
 | x :: q => by
  have ih := tot_lsts d e q
  unfold lsts at ih ⊢
  rw [tot_range] at ih ⊢
  have e1 : (fun i : Nat => (lst d e (x :: q) (i : Int)).length) = fun i : Nat => (if shd d e x.f0 = (i : Int) then 1 else 0) + (lst d e q (i : Int)).length := by
   funext i
   unfold lst
   rw [List.filter_cons]
   by_cases h : shd d e x.f0 = (i : Int)
   ·simp [h]; omega
   ·simp [h]
  rw [e1, sumR_add, one_of, List.length_cons]
  split <;> omega
end Go.Proofs.YtikbfjnbhogihaaGreatDoor.Shd
/- A state that the laws let in is small; so are its marks. Plain. -/
namespace Go.Proofs.YtikbfjnbhogihaaGreatDoor.StLaws
open Go.Proofs.YtikbfjnbhogihaaGreatDoor.M Go.Proofs.YtikbfjnbhogihaaGreatDoor.Loops Go.Proofs.YtikbfjnbhogihaaGreatDoorW.PrintWords Go.Proofs.YtikbfjnbhogihaaGreatDoorW.PrintLast Go.RowKit
theorem small_all (l : List TI) (h : l.length + total wtTI l ≤ 1048576) : ∀ t ∈ l.map cT, StOK.Sm t := by
 intro t ht
 obtain ⟨x, hx, rfl⟩ := List.mem_map.1 ht
 have h5 : wtTI x ≤ total wtTI l := wt_le_total wtTI l x hx
 have h6 : wtTI x = x.f0.size + (x.f2.length + total wtM x.f2) + (x.f3.length + total wtR x.f3) := rfl
 refine ⟨?_, ?_, ?_, ?_, ?_⟩
 ·show (x.f2.map cM).length ≤ _; rw [List.length_map]; omega
 ·show (x.f3.map cR).length ≤ _; rw [List.length_map]; omega
 ·show x.f0.size ≤ _; omega
 ·intro m hm
  obtain ⟨y, hy, rfl⟩ := List.mem_map.1 hm
  have : wtM y ≤ total wtM x.f2 := wt_le_total wtM x.f2 y hy
  show wtM y ≤ _
  omega
 ·intro m hm
  obtain ⟨y, hy, rfl⟩ := List.mem_map.1 hm
  have : wtR y ≤ total wtR x.f3 := wt_le_total wtR x.f3 y hy
  show wtR y ≤ _
  omega
theorem cells_le : ∀ l : List TI, Mark.cellsT (l.map cT) ≤ 2 * (l.length + total wtTI l)
 | [] => Nat.zero_le _
 | x :: l => by
  have ih := cells_le l
  have e : total wtTI (x :: l) = wtTI x + total wtTI l := rfl
  show (2 + 2 * (x.f2.map cM).length + 2 * (x.f3.map cR).length) + Mark.cellsT (l.map cT) ≤ 2 * ((l.length + 1) + total wtTI (x :: l))
  rw [e, List.length_map, List.length_map]
  have h6 : wtTI x = x.f0.size + (x.f2.length + total wtM x.f2) + (x.f3.length + total wtR x.f3) := rfl
  omega
theorem st_all (now : Int) (l : List TI) (hf : l.length + total wtTI l ≤ 1048576) : ∃ (K : Nat), laws_toState.f K now l = some (now, l.map cT) ∧ laws_eqState.f K now (l.map cT) now (l.map cT) = some true ∧ MkT.mk K (l.map cT) 1 = some (((1 + Mark.cellsT (l.map cT) : Nat) : Int), Mark.mT (l.map cT) 1) ∧ (l.map cT).length ≤ 1048576 ∧ ∀ t ∈ l.map cT, StOK.Sm t := by
 have hi := in_bounds l hf
 have hi2 := len_map l hi
 have hlen : (l.map cT).length ≤ 1048576 := by rw [List.length_map]; omega
 have hc := cells_le l
 obtain ⟨k1, h1⟩ := to_state now l (by omega) hi
 obtain ⟨k2, h2⟩ := eq_state now (l.map cT) (by omega) (fun x hx => by have := hi2 x hx; omega)
 obtain ⟨k3, h3⟩ := Mark.mk_tens (l.map cT) 1 hi2 (by omega)
 exact ⟨max k1 (max k2 k3), h1 _ (by omega), h2 _ (by omega), h3 _ (by omega), hlen, small_all l hf⟩
end Go.Proofs.YtikbfjnbhogihaaGreatDoor.StLaws
/- Shards, plain: what both answer. -/
namespace Go.Proofs.YtikbfjnbhogihaaGreatDoor.Shd
open Go.RowKit Go.Proofs.YtikbfjnbhogihaaGreatDoor.M Go.Proofs.YtikbfjnbhogihaaGreatDoor.Loops Go.Proofs.YtikbfjnbhogihaaGreatDoor.StOK Go.Proofs.YtikbfjnbhogihaaGreatDoorW.PrintWords Go.Proofs.YtikbfjnbhogihaaGreatDoorW.PrintLast Go.Proofs.YtikbfjnbhogihaaGreatDoorW.PrintMore
set_option linter.unusedVariables false
def serOf (n : ByteArray) (ts : List Tn) : List Sr := ((ts.find? fun t => t.f0.toList == n.toList).map (·.f3)).getD []
theorem range_snoc (d e : Int) (q : List Sr) (i : Nat) : ((List.range i).map fun j : Nat => lst d e q (j : Int)) ++ [lst d e q (i : Int)] = (List.range (i + 1)).map fun j : Nat => lst d e q (j : Int) := by
 rw [List.range_succ, List.map_append]; rfl
theorem lsts_len (d e : Int) (q : List Sr) : (lsts d e q).length = d.toNat := by simp [lsts]
theorem lsts_nil (d e : Int) : lsts d e [] = List.replicate d.toNat [] := by
 refine List.ext_getElem (by simp [lsts]) fun i h1 h2 => by simp [lsts, lst]
noncomputable def shR (a b c d e f now : Int) (ts : List Tn) (n : ByteArray) : List (List ByteArray) := if (stB a b c d e f now ts && TenN.ok n) = true then lsts d e (serOf n ts) else []
theorem facts {a b c d e f now : Int} {ts : List Tn} (h : stB a b c d e f now ts = true) (hs : ts.length ≤ 1048576 ∧ ∀ t ∈ ts, Sm t) (n : ByteArray) : (1 ≤ d ∧ d ≤ 64) ∧ (ts.Pairwise fun x y => x.f0.toList ≠ y.f0.toList) ∧ (∀ t ∈ ts, t.f3.length ≤ 1048576 ∧ ∀ x ∈ t.f3, x.f0.size ≤ 1048576) ∧ (serOf n ts).length ≤ 1048576 ∧ ∀ x ∈ serOf n ts, x.f0.size ≤ 1048576 := by
 have hg := Bk.good_of h hs
 have hall : ∀ t ∈ ts, t.f3.length ≤ 1048576 ∧ ∀ x ∈ t.f3, x.f0.size ≤ 1048576 := fun t ht => ⟨(hs.2 t ht).n3, (hs.2 t ht).z3⟩
 refine ⟨?_, hg.up.imp fun {x y} hb he => ?_, hall, ?_⟩
 ·unfold stB St.cfgB at h
  simp only [Bool.and_eq_true, decide_eq_true_eq] at h
  exact h.1.2.2.2.1
 ·rw [ByteArray.toList_eq, ByteArray.toList_eq] at he
  exact Bk.before_ne hb (Mp.key_inj he)
 ·unfold serOf
  cases hf : ts.find? fun t => t.f0.toList == n.toList with
  | none => exact ⟨Nat.zero_le _, fun x hx => by cases hx⟩
  | some t => exact hall t (List.mem_of_find?_eq_some hf)
theorem ser_ten (n : ByteArray) (ts : List Tn) : (Bk.tenOf n ts).f3 = serOf n ts := by
 have e : (fun t : Tn => t.f0.toList == n.toList) = fun t : Tn => t.f0.data.toList == n.data.toList := by
  funext t; rw [ByteArray.toList_eq, ByteArray.toList_eq]
 unfold Bk.tenOf Bk.gget serOf
 rw [e]
 cases ts.find? fun t : Tn => t.f0.data.toList == n.data.toList <;> rfl
end Go.Proofs.YtikbfjnbhogihaaGreatDoor.Shd
/- Shards: what the law asks for, at once. Plain. -/
namespace Go.Proofs.YtikbfjnbhogihaaGreatDoor.Shd
open Go.RowKit Go.Proofs.YtikbfjnbhogihaaGreatDoor.M Go.Proofs.YtikbfjnbhogihaaGreatDoor.Loops Go.Proofs.YtikbfjnbhogihaaGreatDoor.StOK Go.Proofs.YtikbfjnbhogihaaGreatDoor.StLaws Go.Proofs.YtikbfjnbhogihaaGreatDoorW.PrintWords Go.Proofs.YtikbfjnbhogihaaGreatDoorW.PrintLast Go.Proofs.YtikbfjnbhogihaaGreatDoorW.PrintMore
set_option linter.unusedVariables false
theorem ser_le {l : List TI} (hf : l.length + total wtTI l ≤ 1048576) (n : ByteArray) : 1 + (serOf n (l.map cT)).length ≤ 1048576 := by
 unfold serOf
 cases hg : (l.map cT).find? fun t => t.f0.toList == n.toList with
 | none => decide
 | some t =>
  obtain ⟨x, hx, rfl⟩ := List.mem_map.1 (List.mem_of_find?_eq_some hg)
  have h5 : wtTI x ≤ total wtTI l := wt_le_total wtTI l x hx
  have h6 : wtTI x = x.f0.size + (x.f2.length + total wtM x.f2) + (x.f3.length + total wtR x.f3) := rfl
  have h7 : 0 < l.length := List.length_pos_of_mem hx
  show 1 + (x.f3.map cR).length ≤ _
  rw [List.length_map]
  omega
theorem sh_all (a b c d e f now : Int) (l : List TI) (n : ByteArray) (hf : l.length + total wtTI l ≤ 1048576) : ∃ (K : Nat) (R G : List (List ByteArray)) (M : Nat), R = shR a b c d e f now (l.map cT) n ∧ laws_eqStringSS.f K R R = some true ∧ MkSS.mk K R 1 = some ((M : Int), G) ∧ laws_heldStringSS.f K G 1 = some (M : Int) ∧ R.length ≤ 1048576 ∧ G.length = R.length := by
 have hs := ser_le hf n
 have hsm := small_all l hf
 have hlen : (l.map cT).length ≤ 1048576 := by rw [List.length_map]; omega
 obtain ⟨R, hR⟩ : ∃ R, R = shR a b c d e f now (l.map cT) n := ⟨_, rfl⟩
 have hq : R.length ≤ 1048576 ∧ (∀ y ∈ R, y.length ≤ 1048576) ∧ 1 + Mark.tot R ≤ 1048576 := by
  rw [hR]
  unfold shR
  by_cases h : (stB a b c d e f now (l.map cT) && TenN.ok n) = true
  ·rw [if_pos h]
   have hd := (facts (Bool.and_eq_true_iff.1 h).1 ⟨hlen, hsm⟩ n).1
   have ht := tot_lsts d e (serOf n (l.map cT))
   refine ⟨by rw [lsts_len]; omega, fun y hy => ?_, by omega⟩
   obtain ⟨i, _, rfl⟩ := List.mem_map.1 hy
   have := lst_len d e (serOf n (l.map cT)) (i : Int)
   omega
  ·rw [if_neg h]
   exact ⟨Nat.zero_le _, (fun y hy => by cases hy), by decide⟩
 obtain ⟨k3, h3⟩ := Mark.eq_rows R hq.1 hq.2.1
 obtain ⟨k4, h4⟩ := Mark.mk_rows R 1 hq.2.2
 obtain ⟨k5, h5⟩ := Mark.held_rows R 1 hq.2.2 hq.1
 refine ⟨max k3 (max k4 k5), R, Mark.mSS R 1, 1 + Mark.tot R, hR, h3 _ (by omega), h4 _ (by omega), h5 _ (by omega), hq.1, Mark.mSS_len R 1⟩
end Go.Proofs.YtikbfjnbhogihaaGreatDoor.Shd
