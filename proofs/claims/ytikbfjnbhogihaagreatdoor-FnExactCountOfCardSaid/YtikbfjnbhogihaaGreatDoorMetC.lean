import Derived.Test.YtikbfjnbhogihaaGreatDoorF49
import Derived.Test.YtikbfjnbhogihaaGreatDoorF35
import Derived.Test.YtikbfjnbhogihaaGreatDoorM0
import Derived.Test.YtikbfjnbhogihaaGreatDoorBk
import Derived.Test.YtikbfjnbhogihaaGreatDoorXSSt
import Derived.Test.YtikbfjnbhogihaaGreatDoorMetr
import Derived.Test.YtikbfjnbhogihaaGreatDoorF168
import Derived.Test.YtikbfjnbhogihaaGreatDoorF136
/- The metric of a key: what impl.Metric answers, and how long it is. -/
namespace Go.Proofs.YtikbfjnbhogihaaGreatDoor.Bk
open Go.RowKit Go.Proofs.YtikbfjnbhogihaaGreatDoor.M Go.Proofs.YtikbfjnbhogihaaGreatDoor.StOK Go.Proofs.YtikbfjnbhogihaaGreatDoor.Key Go.Proofs.YtikbfjnbhogihaaGreatDoor.KeyDec Go.Proofs.YtikbfjnbhogihaaGreatDoor.Metr Go.Proofs.YtikbfjnbhogihaaGreatDoorW.PrintWords
theorem imetric_c (s : ByteArray) (hs : s.size ≤ 1048576) (W : World) (hT : Tabs W) : Calls Tryz.prog 35 #[.string s] W fun e w' => e = .returned (.string (StOK.metS s)) ∧ Below W.heap.size W w' := by
 obtain ⟨l, e, h1, _⟩ := dec_is s hs
 have hlen : (StOK.dec s).1.length ≤ 16 := by rw [e]; exact fin_len s l
 have hm : Ev (fun k => impl_Metric.f k s) (StOK.metS s) := by
  unfold impl_Metric.f StOK.metS
  exact Ev.bind h1 (metr_loop impl_Metric.l0 (fun k a b c => by simp only [impl_Metric.l0]) (StOK.dec s).1 (by omega) (StOK.dec s).1.length 0 (by omega))
 obtain ⟨k, hk⟩ := hm.rounds
 exact impl_Metric.calls k s _ W hk hT
theorem metr_in (n : Nat) : ∀ l : List S141, (∀ x ∈ l, x.f1.size ≤ n) → (metr l).size ≤ n
 | [], _ => Nat.zero_le _
 | x :: l, h => by
  unfold metr
  split
  ·exact h x List.mem_cons_self
  ·exact metr_in n l fun y hy => h y (List.mem_cons_of_mem _ hy)
theorem metS_le (s : ByteArray) (hs : s.size ≤ 1048576) : (StOK.metS s).size ≤ 1073741824 := by
 obtain ⟨l, e, _, _⟩ := dec_is s hs
 unfold StOK.metS
 rw [e]
 unfold KeyDec.fin
 by_cases h0 : s.toList = []
 ·rw [if_pos h0]; exact Nat.zero_le _
 ·rw [if_neg h0]
  by_cases h1 : (key l).toList = s.toList
  ·rw [if_pos h1]
   have hg := (key_good l s h1 h0).1
   exact metr_in _ l fun x hx => (fit_good hg.2 x hx).2
  ·rw [if_neg h1]; exact Nat.zero_le _
end Go.Proofs.YtikbfjnbhogihaaGreatDoor.Bk
/- pop of the heap of sights: walked. -/
namespace Go.Proofs.YtikbfjnbhogihaaGreatDoor.Bk
open Go.RowKit Go.Proofs.YtikbfjnbhogihaaGreatDoor.M Go.Proofs.YtikbfjnbhogihaaGreatDoor.Loops Go.Proofs.YtikbfjnbhogihaaGreatDoorW.PrintWords Go.Proofs.YtikbfjnbhogihaaGreatDoorW.PrintLast Go.Proofs.YtikbfjnbhogihaaGreatDoorW.PrintMore
set_option linter.unusedVariables false
set_option linter.unusedSimpArgs false
theorem Hk.head {w0 w wr : World} {a : Nat} {l : Int} {m s c g cp n N : Nat} {q x : List Sg} {S : Nat → Prop} (h : Hk w0 w wr a l m s c (.slice (some ⟨g, 0, none⟩) N cp) N q x S) (hN : N = n + 1) (y : Sg) (ey : q.getD n z93 = y) (ha : w0.heap.size ≤ a) (hSa : S a) (hx : x = q) :
  Hk w0 w (((wr.setCell ⟨g, 0, none⟩ (.string y.f0)).setCell ⟨g, 1, none⟩ (.int .i64 y.f1)).setCell ⟨a, 4, none⟩ (.slice (some ⟨g, 0, none⟩) n cp)) a l m s c (.slice (some ⟨g, 0, none⟩) n cp) n (Hp.cut z93 q) (Hp.cut z93 q) S := by
 have hg := h.own g rfl
 have hne : a ≠ g := fun e => by
  obtain ⟨cells, hc⟩ := Kd.R_typed h.row g rfl
  rw [← e, h.blk] at hc
  cases hc
 have hb : w0.heap.size ≤ g := by
  rcases Kd.R_base2 h.row with h1 | ⟨k, h1, h2⟩
  ·cases h1
  ·cases h1; exact h2
 have hl := h.len
 have r := seg2 h.row 0 (by omega) y
 have hblk := blk_far (blk_far h.blk hne (.string y.f0) (p := ⟨g, 0, none⟩)) hne (.int .i64 y.f1) (p := ⟨g, 1, none⟩)
 have r2 := Kd.R_take (m := n) (Kd.R_set (g := a) r hblk (by decide) 4 (.slice (some ⟨g, 0, none⟩) n cp)) (by simp; omega)
 refine ⟨blk_set hblk 4 _, ?_, below_set (below_set (below_set h.bel hb) hb) ha, by rw [Hp.cut_len]; omega, List.Perm.refl _, ((h.kep.setCell hg _).setCell hg _).setCell (.inl hSa) _, h.own⟩
 unfold Hp.cut
 rw [show q.length - 1 = n by omega, ey]
 exact r2
theorem Hk.far {w0 w wr : World} {a : Nat} {l : Int} {m s c : Nat} {v : Value} {n : Nat} {q x : List Sg} {S : Nat → Prop} (h : Hk w0 w wr a l m s c v n q x S) (r : Nat) (hra : r ≠ a) (hrv : v.ownBlock ≠ some r) (hr : w.heap.size ≤ r) (hr0 : w0.heap.size ≤ r) (j : Nat) (u : Value) : Hk w0 w (wr.setCell ⟨r, j, none⟩ u) a l m s c v n q x S :=
 ⟨blk_far (p := ⟨r, j, none⟩) h.blk (Ne.symm hra) u, Kd.R_mono (Kd.R_far (p := ⟨r, j, none⟩) (sg_own h.row) (fun k hk e => hrv (by rw [hk]; exact congrArg some e)) u) (fun _ _ => trivial), below_set h.bel hr0, h.len, h.perm, h.kep.setCell (.inr hr) u, h.own⟩
end Go.Proofs.YtikbfjnbhogihaaGreatDoor.Bk
namespace Go.Proofs.YtikbfjnbhogihaaGreatDoor.M
open Go.RowKit Go.Proofs.YtikbfjnbhogihaaGreatDoorW.PrintWords Go.Proofs.YtikbfjnbhogihaaGreatDoorW.PrintLast Go.Proofs.YtikbfjnbhogihaaGreatDoorW.PrintMore
attribute [local go_sem] max2_int min2_int max_two min_two max_three min_three max_four min_four
set_option linter.unusedVariables false
set_option linter.unusedSimpArgs false
/-! ### laws_szSeries: function 167 -/
def laws_szSeries.f (a0_0 : ByteArray) (a0_1 : Int) (a1 : Int) : Option (Int) := if (wrap64 (a1 - (a0_0.size : Int))) < 0 then (some (-1)) else (some (wrap64 (a1 - (a0_0.size : Int))))
set_option maxHeartbeats 8000000 in
set_option maxRecDepth 100000 in
theorem laws_szSeries.calls (a0_0 : ByteArray) (a0_1 : Int) (a1 : Int) (r : Int) (w : World) (h : laws_szSeries.f a0_0 a0_1 a1 = some r) :
  Calls Tryz.prog 167 #[.agg #[.string a0_0, .int .i64 a0_1], .int .i64 a1] w fun e w' => e = .returned (.int .i64 r) ∧ Below w.heap.size w w' := by
 have hu225 := Tryz.underlying225
 have HB := Aside0.mk (Below.refl w.heap.size w)
 have H : (if (wrap64 (a1 - (a0_0.size : Int))) < 0 then (some (-1)) else (some (wrap64 (a1 - (a0_0.size : Int))))) = some r := h
 clear h
 by_cases c3 : (wrap64 (a1 - (a0_0.size : Int))) < 0
 ·rw [if_pos c3] at H
  have c3b0 : decide ((wrap64 (a1 - (a0_0.size : Int))) < 0) = true := decide_eq_true c3
  clear c3
  obtain rfl := Option.some.inj H
  go_enter Tryz.func167, Tryz.ntmps167
  go_wp2_with (first | ((with_reducible refine gate_dst (N := 2) rfl ?_); refine box_event ?hg (N := 2) ?hd (cs := #[.string a0_0, .int .i64 a0_1]) (t := 225) ?hr ?_; (case hd => rfl); (case hg => rfl); (case hr => first | (go_simp; done) | (go_simp; rfl)); intro gb104 hg w4 hbox hb; have n0_ := Aside0.mk (below_step (by repeat (first | (with_reducible first | exact HB.out | apply below_alloc | apply pw_below_drewN | apply below_drew1) | exact HB.out)) hb); have n1_ := Aside0.mk (hbox); have n2_ := Aside0.mk ((by rw [hg]; exact (below_size (by repeat (first | (with_reducible first | exact HB.out | apply below_alloc | apply pw_below_drewN | apply below_drew1) | exact HB.out))) : w.heap.size ≤ gb104)); have n3_ := Aside0.mk ((by rw [hg]; exact (below_size (by repeat (first | (with_reducible first | exact HB.out | apply below_alloc | apply pw_below_drewN | apply below_drew1) | exact HB.out))) : w.heap.size ≤ gb104)); clear HB; have HB := n0_; have BK104 := n1_; have GW104 := n2_; have GE104 := n3_; clear n0_ n1_ n2_ n3_; clear hb hbox hg; have hcz5_0 : w4.cell? ⟨gb104, 0, none⟩ = some (.string a0_0) := (blk_cell BK104.out 0).trans rfl; have hcz5_1 : w4.cell? ⟨gb104, 1, none⟩ = some (.int .i64 a0_1) := (blk_cell BK104.out 1).trans rfl; have hfz5_0 := blk_frozen BK104.out 0; have hfz5_1 := blk_frozen BK104.out 1))
  go_ret
  exact ⟨by first | rfl | (simp [errW_none, errW_some] <;> rfl) | (simp [*, errW_none, errW_some] <;> rfl), by repeat (first | (with_reducible first | exact HB.out | apply below_alloc | apply pw_below_drewN | apply below_drew1 | refine below_set ?_ GE104.out) | exact HB.out)⟩
 ·rw [if_neg c3] at H
  have c3b0 : decide ((wrap64 (a1 - (a0_0.size : Int))) < 0) = false := decide_eq_false c3
  clear c3
  obtain rfl := Option.some.inj H
  go_enter Tryz.func167, Tryz.ntmps167
  go_wp2_with (first | ((with_reducible refine gate_dst (N := 2) rfl ?_); refine box_event ?hg (N := 2) ?hd (cs := #[.string a0_0, .int .i64 a0_1]) (t := 225) ?hr ?_; (case hd => rfl); (case hg => rfl); (case hr => first | (go_simp; done) | (go_simp; rfl)); intro gb104 hg w6 hbox hb; have n0_ := Aside0.mk (below_step (by repeat (first | (with_reducible first | exact HB.out | apply below_alloc | apply pw_below_drewN | apply below_drew1) | exact HB.out)) hb); have n1_ := Aside0.mk (hbox); have n2_ := Aside0.mk ((by rw [hg]; exact (below_size (by repeat (first | (with_reducible first | exact HB.out | apply below_alloc | apply pw_below_drewN | apply below_drew1) | exact HB.out))) : w.heap.size ≤ gb104)); have n3_ := Aside0.mk ((by rw [hg]; exact (below_size (by repeat (first | (with_reducible first | exact HB.out | apply below_alloc | apply pw_below_drewN | apply below_drew1) | exact HB.out))) : w.heap.size ≤ gb104)); clear HB; have HB := n0_; have BK104 := n1_; have GW104 := n2_; have GE104 := n3_; clear n0_ n1_ n2_ n3_; clear hb hbox hg; have hcz7_0 : w6.cell? ⟨gb104, 0, none⟩ = some (.string a0_0) := (blk_cell BK104.out 0).trans rfl; have hcz7_1 : w6.cell? ⟨gb104, 1, none⟩ = some (.int .i64 a0_1) := (blk_cell BK104.out 1).trans rfl; have hfz7_0 := blk_frozen BK104.out 0; have hfz7_1 := blk_frozen BK104.out 1))
  go_ret
  exact ⟨by first | rfl | (simp [errW_none, errW_some] <;> rfl) | (simp [*, errW_none, errW_some] <;> rfl), by repeat (first | (with_reducible first | exact HB.out | apply below_alloc | apply pw_below_drewN | apply below_drew1 | refine below_set ?_ GE104.out) | exact HB.out)⟩
end Go.Proofs.YtikbfjnbhogihaaGreatDoor.M
/- An account of the book: what holds of it between two calls. Plain. -/
namespace Go.Proofs.YtikbfjnbhogihaaGreatDoor.Mp
theorem find_hit {p : ByteArray × Value → Bool} {x : ByteArray × Value} (hx : p x = true) : ∀ l : Al, (∀ y ∈ l, p y = false) → (ins x l).find? p = some x
 | [], _ => by simp [ins, hx]
 | y :: r, h => by
  unfold ins
  split
  ·simp [hx]
  ·rw [List.find?_cons_of_neg (by rw [h y List.mem_cons_self]; simp), find_hit hx r fun z hz => h z (List.mem_cons_of_mem _ hz)]
theorem find_miss {p : ByteArray × Value → Bool} {x : ByteArray × Value} (hx : p x = false) : ∀ l : Al, (ins x l).find? p = l.find? p
 | [] => by simp [ins, hx]
 | y :: r => by
  unfold ins
  split
  ·rw [List.find?_cons_of_neg (by rw [hx]; simp)]
  ·rw [List.find?_cons, List.find?_cons, find_miss hx r]
theorem get_put_same (l : Al) (s : ByteArray) (v : Value) : get (put l s v) s = some v := by
 unfold get put
 rw [find_hit (by simp) _ fun y hy => by
  have := (List.mem_filter.1 hy).2
  simpa using this]
 rfl
theorem get_put_other (l : Al) (s t : ByteArray) (v : Value) (h : t ≠ s) : get (put l s v) t = get l t := by
 unfold get put
 rw [find_miss (by rw [beq_eq_false_iff_ne]; exact fun e => h (key_inj e).symm)]
 unfold del
 rw [List.find?_filter]
 congr 1
 congr 1
 funext p
 by_cases e : p.1.data.toList == t.data.toList
 ·have e2 : (p.1.data.toList == s.data.toList) = false := by
   rw [beq_eq_false_iff_ne]
   exact fun e3 => h (key_inj ((eq_of_beq e).symm.trans e3))
  simp [e, e2]
 ·simp [e]
end Go.Proofs.YtikbfjnbhogihaaGreatDoor.Mp
namespace Go.Proofs.YtikbfjnbhogihaaGreatDoor.Bk
open Go.RowKit Go.Proofs.YtikbfjnbhogihaaGreatDoor.M
set_option linter.unusedVariables false
noncomputable def nOf (l : List Sx) (m : ByteArray) : Nat := (l.filter fun x => decide (StOK.metS x.k = m)).length
theorem nOf_perm {l l' : List Sx} (h : l.Perm l') (m : ByteArray) : nOf l m = nOf l' m := (h.filter _).length_eq
theorem nOf_cons (x : Sx) (l : List Sx) (m : ByteArray) : nOf (x :: l) m = nOf l m + if StOK.metS x.k = m then 1 else 0 := by
 unfold nOf
 rw [List.filter_cons]
 by_cases h : StOK.metS x.k = m <;> simp [h]
theorem nOf_le (l : List Sx) (m : ByteArray) : nOf l m ≤ l.length := List.length_filter_le _ _
structure Inv (A : Ac) (now : Int) (N : Nat) : Prop where
 ok : Hp.Ok (Hp.fn (·.f1) z93 A.its) A.its.length
 cov : ∀ x ∈ A.ser, ∃ y ∈ A.its, y.f0 = x.k ∧ y.f1 ≤ x.last
 cnt : ∀ m, (Mp.get A.cnt m).getD (.int .i64 0) = .int .i64 (nOf A.ser m : Nat)
 le : ∀ y ∈ A.its, y.f1 ≤ now ∧ y.f0.size ≤ 1048576
 key : ∀ x ∈ A.ser, x.k.size ≤ 1048576 ∧ x.last ≤ now
 n1 : A.ser.length ≤ N
 n2 : A.cnt.length ≤ N
 n3 : A.its.length ≤ N
theorem Inv.nil (n : Nat) (now : Int) (N : Nat) : Inv ⟨-1, n, n + 1, n + 2, .slice none 0 0, [], [], [], []⟩ now N where
 ok := fun j _ h => absurd h (Nat.not_lt_zero _)
 cov := fun x h => by cases h
 cnt := fun m => rfl
 le := fun x h => by cases h
 key := fun x h => by cases h
 n1 := Nat.zero_le _
 n2 := Nat.zero_le _
 n3 := Nat.zero_le _
theorem Inv.add {A : Ac} {now : Int} {N : Nat} (h : Inv A now N) (k : ByteArray) (g : Nat) (last : Int) (hk : k.size ≤ 1048576) (hl : last ≤ now) {v : Value} {its : List Sg} (hp : its.Perm (A.its ++ [⟨k, last⟩])) (ho : Hp.Ok (Hp.fn (·.f1) z93 its) its.length) :
  Inv { A with ser := gins (·.k) ⟨k, g, last⟩ A.ser, cnt := Mp.put A.cnt (StOK.metS k) (.int .i64 ((nOf A.ser (StOK.metS k) : Nat) + 1)), v := v, its := its } now (N + 1) where
 ok := ho
 cov := fun x hx => by
  rcases gins_mem.1 hx with rfl | hx
  ·exact ⟨⟨k, last⟩, hp.mem_iff.2 (by simp), rfl, Int.le_refl _⟩
  ·obtain ⟨y, hy, h1⟩ := h.cov x hx
   exact ⟨y, hp.mem_iff.2 (by simp [hy]), h1⟩
 cnt := fun m => by
  show _ = Value.int .i64 (nOf (gins (·.k) ⟨k, g, last⟩ A.ser) m : Nat)
  rw [nOf_perm (gins_perm _ _), nOf_cons]
  by_cases e : StOK.metS k = m
  ·subst e
   show (Mp.get (Mp.put A.cnt (StOK.metS k) _) (StOK.metS k)).getD _ = _
   rw [Mp.get_put_same, if_pos rfl]
   simp
  ·show (Mp.get (Mp.put A.cnt (StOK.metS k) _) m).getD _ = _
   rw [Mp.get_put_other _ _ _ _ (Ne.symm e), if_neg e, h.cnt]
   simp
 le := fun y hy => by
  rcases List.mem_append.1 (hp.mem_iff.1 hy) with hy | hy
  ·exact h.le y hy
  ·obtain rfl := List.mem_singleton.1 hy
   exact ⟨hl, hk⟩
 key := fun x hx => by
  rcases gins_mem.1 hx with rfl | hx
  ·exact ⟨hk, hl⟩
  ·exact h.key x hx
 n1 := by
  show (gins (·.k) _ A.ser).length ≤ _
  rw [(gins_perm _ _).length_eq]
  have := h.n1
  simp; omega
 n2 := Nat.le_trans (Mp.put_len _ _ _) (Nat.succ_le_succ h.n2)
 n3 := by
  show its.length ≤ _
  rw [hp.length_eq]
  have := h.n3
  simp; omega
def Up (l : List Sx) : Prop := l.Pairwise fun x y => bytesBefore x.k.data.toList y.k.data.toList = true
theorem before_ne {a b : ByteArray} (h : bytesBefore a.data.toList b.data.toList = true) : a ≠ b := fun e => by
 have : (Lit.string a.data.toList).before (Lit.string b.data.toList) = true := h
 rw [e, WideShapes.before_irrefl] at this
 cases this
theorem At.up {w : World} {base a : Nat} {A : Ac} (h : At w base a A) : Up A.ser := List.pairwise_map.1 (h.ms.rise Tryz.underlying9)
theorem Up.one {l : List Sx} (h : Up l) {x y : Sx} (hx : x ∈ l) (hy : y ∈ l) (e : x.k = y.k) : x = y := by
 induction l with
 | nil => cases hx
 | cons z r ih =>
  obtain ⟨h1, h2⟩ := List.pairwise_cons.1 h
  rcases List.mem_cons.1 hx with rfl | hx'
  ·rcases List.mem_cons.1 hy with rfl | hy'
   ·rfl
   ·exact absurd e (before_ne (h1 y hy'))
  ·rcases List.mem_cons.1 hy with rfl | hy'
   ·exact absurd e.symm (before_ne (h1 x hx'))
   ·exact ih h2 hx' hy'
section
variable {A : Ac} {now : Int} {N : Nat} {its' : List Sg}
theorem pop_perm (hp : 0 < A.its.length) (h : its'.Perm (Hp.cut z93 A.its)) : (A.its.getD 0 z93 :: its').Perm A.its := (h.cons _).trans (Hp.cut_perm z93 A.its hp)
theorem Inv.skip (h : Inv A now N) (hp : 0 < A.its.length) (hq : its'.Perm (Hp.cut z93 A.its)) (ho : Hp.Ok (Hp.fn (·.f1) z93 its') its'.length) (hn : ∀ x ∈ A.ser, x.k ≠ (A.its.getD 0 z93).f0) (v : Value) : Inv { A with v := v, its := its' } now N where
 ok := ho
 cov := fun x hx => by
  obtain ⟨y, hy, h1, h2⟩ := h.cov x hx
  rcases List.mem_cons.1 ((pop_perm hp hq).mem_iff.2 hy) with rfl | hy'
  ·exact absurd h1.symm (hn x hx)
  ·exact ⟨y, hy', h1, h2⟩
 cnt := h.cnt
 le := fun y hy => h.le y ((pop_perm hp hq).mem_iff.1 (List.mem_cons_of_mem _ hy))
 key := h.key
 n1 := h.n1
 n2 := h.n2
 n3 := by
  show its'.length ≤ N
  have := (pop_perm hp hq).length_eq
  have := h.n3
  simp at *; omega
theorem Inv.again (h : Inv A now N) (hp : 0 < A.its.length) (hq : its'.Perm (Hp.cut z93 A.its)) (hu : Up A.ser) {s : Sx} (hs : s ∈ A.ser) (hk : s.k = (A.its.getD 0 z93).f0) {its2 : List Sg} (h2 : its2.Perm (its' ++ [⟨(A.its.getD 0 z93).f0, s.last⟩]))
  (ho : Hp.Ok (Hp.fn (·.f1) z93 its2) its2.length) (v : Value) : Inv { A with v := v, its := its2 } now N where
 ok := ho
 cov := fun x hx => by
  by_cases e : x.k = s.k
  ·obtain rfl := hu.one hx hs e
   exact ⟨_, h2.mem_iff.2 (List.mem_append_right _ List.mem_cons_self), hk.symm, Int.le_refl _⟩
  ·obtain ⟨y, hy, h1, h3⟩ := h.cov x hx
   rcases List.mem_cons.1 ((pop_perm hp hq).mem_iff.2 hy) with rfl | hy'
   ·exact absurd (h1.symm.trans hk.symm) e
   ·exact ⟨y, h2.mem_iff.2 (List.mem_append_left _ hy'), h1, h3⟩
 cnt := h.cnt
 le := fun y hy => by
  rcases List.mem_append.1 (h2.mem_iff.1 hy) with hy | hy
  ·exact h.le y ((pop_perm hp hq).mem_iff.1 (List.mem_cons_of_mem _ hy))
  ·obtain rfl := List.mem_singleton.1 hy
   exact ⟨(h.key s hs).2, hk ▸ (h.key s hs).1⟩
 key := h.key
 n1 := h.n1
 n2 := h.n2
 n3 := by
  show its2.length ≤ N
  have h1 := (pop_perm hp hq).length_eq
  have h3 := h2.length_eq
  have := h.n3
  simp at *; omega
end
end Go.Proofs.YtikbfjnbhogihaaGreatDoor.Bk
/- impl.tenantOK, impl.StateOK: their walks by hand. -/
namespace Go.Proofs.YtikbfjnbhogihaaGreatDoor.M
open Go.RowKit Go.Proofs.YtikbfjnbhogihaaGreatDoor.StOK Go.Proofs.YtikbfjnbhogihaaGreatDoorW.PrintWords Go.Proofs.YtikbfjnbhogihaaGreatDoorW.PrintLast Go.Proofs.YtikbfjnbhogihaaGreatDoorW.PrintMore
set_option linter.unusedVariables false
set_option linter.unusedSimpArgs false
namespace St
theorem tn_imp (a now : Int) (t : Tn) : tnB a now t = (TenN.ok t.f0 && (decide (-1 ≤ t.f1 ∧ t.f1 ≤ 1000000) && (!(idleB t.f1 t.f2 t.f3) && (allFrom (fun i => mlB (t.f2.getD i z91)) 0 (t.f2.length - 0) && (allFrom (fun i => srB a now (t.f3.getD i z93)) 0 (t.f3.length - 0) && (Rise.up (t.f2.map (·.f0)) && (Rise.up (t.f3.map (·.f0)) && true))))))) := by
 rw [Nat.sub_zero, Nat.sub_zero, allFrom_all mlB z91 t.f2 t.f2.length 0 (by omega), allFrom_all (srB a now) z93 t.f3 t.f3.length 0 (by omega), List.drop_zero, List.drop_zero, Bool.and_true]
 rfl
theorem iidle_c (n : ByteArray) (x : Int) (A2 : Option Addr) (c2 : Nat) (m : List S91) (A3 : Option Addr) (c3 : Nat) (s : List S93) (W : World) (hm : Kd.C k91 W A2 m.length m) (h2 : m.length ≤ c2) (hs : Kd.C k93 W A3 s.length s) (h3 : s.length ≤ c3) :
  Calls Tryz.prog 106 #[.agg #[.string n, .int .i64 x, .slice A2 m.length c2, .slice A3 s.length c3]] W fun e w' => ∃ b, e = .returned (.bool (!b)) ∧ (!(idleB x m s)) = b ∧ Below W.heap.size W w' := by
 refine (impl_idle.calls n x A2 c2 m A3 c3 s _ W hm h2 hs h3 (impl_idl n x m s)).mono ?_
 rintro e w' ⟨rfl, h⟩
 exact ⟨_, by rw [Bool.not_not], rfl, h⟩
theorem imet_c (s : ByteArray) (hs : s.size ≤ 1048576) (W : World) (hT : Tabs W) : Calls Tryz.prog 63 #[.string s] W fun e w' => ∃ b, e = .returned (.bool b) ∧ metB s = b ∧ Below W.heap.size W w' := by
 refine (impl_isMetric.calls s _ W (impl_met s (by omega)) hT).mono ?_
 rintro e w' ⟨rfl, h⟩
 exact ⟨_, rfl, rfl, h⟩
theorem ikey_c (s : ByteArray) (hs : s.size ≤ 1048576) (W : World) (hT : Tabs W) : Calls Tryz.prog 88 #[.string s] W fun e w' => ∃ v b, e = .returned (.tuple #[v, .bool b]) ∧ keyB s = b ∧ Below W.heap.size W w' := by
 obtain ⟨l, el, h2, h3⟩ := dec_is s hs
 obtain ⟨k, hk⟩ := h2.rounds
 refine (impl_DecodeKey.calls k s (StOK.dec s).1 (StOK.dec s).2 W hk hT).mono ?_
 rintro e w' ⟨v, rfl, _, h⟩
 exact ⟨v, _, rfl, rfl, h⟩
theorem mlN (l : List Ml) (i : Nat) (hi : i < l.length) (m : Ml) (hm : l.getD i z91 = m) (q : Bool) : (allFrom (fun i => mlB (l.getD i z91)) i (l.length - i) && q) = (metB m.f0 && (decide (0 ≤ m.f1 ∧ m.f1 ≤ 1000000) && (allFrom (fun i => mlB (l.getD i z91)) (i + 1) (l.length - (i + 1)) && q))) := by
 rw [all_step _ i l.length hi, hm]
 unfold mlB
 simp only [Bool.and_assoc]
theorem srN (a now : Int) (l : List Sr) (i : Nat) (hi : i < l.length) (m : Sr) (hm : l.getD i z93 = m) (q : Bool) : (allFrom (fun i => srB a now (l.getD i z93)) i (l.length - i) && q) = (decide (0 ≤ m.f1 ∧ m.f1 ≤ now) && (decide (now - m.f1 < a) && (keyB m.f0 && (allFrom (fun i => srB a now (l.getD i z93)) (i + 1) (l.length - (i + 1)) && q)))) := by
 rw [all_step _ i l.length hi, hm]
 unfold srB
 simp only [Bool.and_assoc]
end St
set_option maxHeartbeats 4000000 in
set_option maxRecDepth 100000 in
theorem St.tn_c (a b c d e f now : Int) (hn : 0 ≤ now) (hn2 : now ≤ 1000000000000) (t : Tn) (hs : Sm t) (A2 : Option Addr) (c2 : Nat) (A3 : Option Addr) (c3 : Nat) (w : World) (i2 : Kd.C k91 w A2 t.f2.length t.f2) (l2 : t.f2.length ≤ c2) (i3 : Kd.C k93 w A3 t.f3.length t.f3) (l3 : t.f3.length ≤ c3) (hT : Tabs w) :
  Calls Tryz.prog 58 #[.agg #[.int .i64 a, .int .i64 b, .int .i64 c, .int .i64 d, .int .i64 e, .int .i64 f], .int .i64 now, .agg #[.string t.f0, .int .i64 t.f1, .slice A2 t.f2.length c2, .slice A3 t.f3.length c3]] w fun x w' => x = .returned (.bool (tnB a now t)) ∧ Below w.heap.size w w' := by
 have hu29 := Tryz.underlying29
 have hu87 := Tryz.underlying87
 have hu91 := Tryz.underlying91
 have hu93 := Tryz.underlying93
 obtain ⟨r, hr⟩ : ∃ r, r = tnB a now t := ⟨_, rfl⟩
 rw [← hr]
 have HV := Aside0.mk (hr.trans (St.tn_imp a now t))
 have HS := Aside0.mk hs
 replace i2 := Aside0.mk i2
 replace i3 := Aside0.mk i3
 replace l2 := Aside0.mk l2
 replace l3 := Aside0.mk l3
 replace hT := Aside0.mk hT
 have hN := Aside0.mk (And.intro hn hn2)
 clear hr hs hn hn2
 obtain ⟨L, hL⟩ : ∃ L, L = [(w.heap.size + 1, St.cT (.string t.f0) (.int .i64 t.f1) (.slice A2 t.f2.length c2) (.slice A3 t.f3.length c3)), (w.heap.size, St.cC a b c d e f)] := ⟨_, rfl⟩
 replace hL := Aside0.mk hL
 go_enter Tryz.func58, Tryz.ntmps58
 go_wp2_with (first
  | (go_at_call 62; refine (impl_isTenant.calls _ _ _ rfl).mono ?_; rintro x w1 ⟨rfl, hB⟩; have K := Aside0.mk (hL.out ▸ (St.two w (St.cC a b c d e f) (St.cT (.string t.f0) (.int .i64 t.f1) (.slice A2 t.f2.length c2) (.slice A3 t.f3.length c3))).step hB : Kp w w1 L); obtain ⟨t0, t1, t2, t3⟩ := St.cells4 (K.out.has _ (by rw [hL.out]; exact List.mem_cons_self)); clear hB; generalize hb : TenN.ok t.f0 = bb; rcases St.and_split HV.out hb with ⟨rfl, h⟩ | ⟨rfl, h⟩ <;> (clear HV hb; have HV := Aside0.mk h; clear h))
  | (go_at_call 55; refine (St.ibetw_c _ _ _ _).mono ?_; rintro x w' ⟨bb, rfl, hb, ⟨nd, rfl⟩⟩; rcases St.and_split HV.out hb with ⟨rfl, h⟩ | ⟨rfl, h⟩ <;> (clear HV hb; have HV := Aside0.mk h; clear h))
  | (go_at_call 106; refine (St.iidle_c _ _ _ _ _ _ _ _ _ (Kd.C_below i2.out (K.out.drewN _).bel) l2.out (Kd.C_below i3.out (K.out.drewN _).bel) l3.out).mono ?_; rintro x w2 ⟨bb, rfl, hb, hB⟩; have K2 := Aside0.mk ((K.out.drewN _).step hB); clear K t0 t1 t2 t3 hB; have K := K2; clear K2; obtain ⟨t0, t1, t2, t3⟩ := St.cells4 (K.out.has _ (by rw [hL.out]; exact List.mem_cons_self)); rcases St.and_split HV.out hb with ⟨rfl, h⟩ | ⟨rfl, h⟩ <;> (simp only [Bool.not_true, Bool.not_false]; clear HV hb; have HV := Aside0.mk h; clear h)))
 all_goals try (go_ret; exact ⟨by rw [HV.out]; rfl, by first | exact K.out.bel | exact (K.out.drewN _).bel⟩)
 case _ =>
 clear t0 t1 t2 t3
 go_loopw [30] (fun v wr => ∃ i : Nat, i ≤ t.f2.length ∧ v = .int .i64 i ∧ Aside0 (Kp w wr L) ∧ Aside0 (r = (allFrom (fun i => mlB (t.f2.getD i z91)) i (t.f2.length - i) && (allFrom (fun i => srB a now (t.f3.getD i z93)) 0 (t.f3.length - 0) && (Rise.up (t.f2.map (·.f0)) && (Rise.up (t.f3.map (·.f0)) && true)))))) (fun v wr => t.f2.length - (intOf v).toNat)
 case atStart => exact ⟨0, by omega, by simp, K, HV⟩
 case round =>
  rename World => wq
  clear K HV
  obtain ⟨i, hi, rfl, K, HV⟩ := hrel
  obtain ⟨t0, t1, t2, t3⟩ := St.cells4 (K.out.has _ (by rw [hL.out]; exact List.mem_cons_self))
  obtain hi5 | hi6 : t.f2.length ≤ i ∨ i < t.f2.length := by omega
  ·obtain rfl : i = t.f2.length := by omega
   replace HV := Aside0.mk (HV.out.trans (by rw [Nat.sub_self]; rfl : _ = (allFrom (fun i => srB a now (t.f3.getD i z93)) 0 (t.f3.length - 0) && (Rise.up (t.f2.map (·.f0)) && (Rise.up (t.f3.map (·.f0)) && true)))))
   go_wp2
   clear t0 t1 t2 t3
   go_loopw [48] (fun v wr => ∃ i : Nat, i ≤ t.f3.length ∧ v = .int .i64 i ∧ Aside0 (Kp w wr L) ∧ Aside0 (r = (allFrom (fun i => srB a now (t.f3.getD i z93)) i (t.f3.length - i) && (Rise.up (t.f2.map (·.f0)) && (Rise.up (t.f3.map (·.f0)) && true))))) (fun v wr => t.f3.length - (intOf v).toNat)
   case atStart => exact ⟨0, by omega, by simp, K, HV⟩
   case round =>
    rename World => wz
    clear K HV
    obtain ⟨i, hi, rfl, K, HV⟩ := hrel
    obtain ⟨t0, t1, t2, t3⟩ := St.cells4 (K.out.has _ (by rw [hL.out]; exact List.mem_cons_self))
    obtain hi5 | hi6 : t.f3.length ≤ i ∨ i < t.f3.length := by omega
    ·obtain rfl : i = t.f3.length := by omega
     replace HV := Aside0.mk (HV.out.trans (by rw [Nat.sub_self]; rfl : _ = (Rise.up (t.f2.map (·.f0)) && (Rise.up (t.f3.map (·.f0)) && true))))
     have n2 := Aside0.mk HS.out.n2
     have n3 := Aside0.mk HS.out.n3
     go_wp2_with (first
      | (go_at_call 107; refine (impl_MetricLimit_string.calls _ _ _ _ _ (Kd.C_below i2.out K.out.bel) l2.out (if_pos (by have := n2.out; omega))).mono ?_; rintro x w1 ⟨rfl, hB⟩; have K2 := Aside0.mk (K.out.step hB); clear K hB t0 t1 t2 t3; have K := K2; clear K2; obtain ⟨t0, t1, t2, t3⟩ := St.cells4 (K.out.has _ (by rw [hL.out]; exact List.mem_cons_self)); generalize hb : Rise.up (t.f2.map (·.f0)) = bb; rcases St.and_split HV.out hb with ⟨rfl, h⟩ | ⟨rfl, h⟩ <;> (clear HV hb; have HV := Aside0.mk h; clear h))
      | (go_at_call 109; refine (impl_Series_string.calls _ _ _ _ _ (Kd.C_below i3.out K.out.bel) l3.out (if_pos (by have := n3.out; omega))).mono ?_; rintro x w1 ⟨rfl, hB⟩; have K2 := Aside0.mk (K.out.step hB); clear K hB t0 t1 t2 t3; have K := K2; clear K2; generalize hb : Rise.up (t.f3.map (·.f0)) = bb; rcases St.and_split HV.out hb with ⟨rfl, h⟩ | ⟨rfl, h⟩ <;> (clear HV hb; have HV := Aside0.mk h; clear h)))
     all_goals (go_ret; exact ⟨by rw [HV.out]; rfl, K.out.bel⟩)
    ·obtain ⟨ad4, eA, x0, x1⟩ := at_T93 i3.out (i : Int) (by omega) (by omega)
     subst eA
     have hz := HS.out.z3 _ (getD_mem t.f3 z93 i hi6)
     have hn2 := Aside0.mk HS.out.n3
     obtain ⟨m, em⟩ : ∃ m, rd_T93 t.f3 (i : Int) = m := ⟨_, rfl⟩
     have em2 := Aside0.mk (show t.f3.getD i z93 = m from em)
     rw [em2.out] at hz
     rw [em] at x0 x1
     simp only [Int.toNat_natCast] at x0 x1
     replace x0 := (K.out.bel.cell (World.block_lt_of_cell? w _ x0)).trans x0
     replace x1 := (K.out.bel.cell (World.block_lt_of_cell? w _ x1)).trans x1
     clear em t0 t1 t2 t3
     have c0 := St.cell6 ((K.out.alloc (.cells #[.string m.f0, .int .i64 m.f1] 93)).has _ (by rw [hL.out]; exact List.mem_cons_of_mem _ List.mem_cons_self))
     replace HV := Aside0.mk (HV.out.trans (St.srN a now t.f3 i hi6 m em2.out _))
     obtain ⟨b4, hb4⟩ : ∃ b, decide (now - m.f1 < a) = !b := ⟨!(decide (now - m.f1 < a)), (Bool.not_not _).symm⟩
     have hge := (St.win2 hb4).trans (Bool.not_not _)
     replace hb4 := Aside0.mk hb4
     go_wp2_with (first
      | (go_at_call 55; refine (St.ibetw_c _ _ _ _).mono ?_; rintro x w' ⟨bb, rfl, hb, ⟨nd, rfl⟩⟩; rcases St.and_split HV.out hb with ⟨rfl, h⟩ | ⟨rfl, h⟩ <;> ((try have hwr := St.win hb (decide_eq_true hN.out)); clear HV hb; have HV := Aside0.mk h; clear h))
      | (go_at_call 88; replace HV := Aside0.mk (HV.out.trans (by rw [hb4.out, ‹b4 = false›]; rfl : _ = (keyB m.f0 && (allFrom (fun i => srB a now (t.f3.getD i z93)) (i + 1) (t.f3.length - (i + 1)) && (Rise.up (t.f2.map (·.f0)) && (Rise.up (t.f3.map (·.f0)) && true)))))); refine (St.ikey_c m.f0 hz _ (hT.out.below ((K.out.alloc _).drewN _).bel)).mono ?_; rintro x w1 ⟨v, bb, rfl, hb, hB⟩; have K2 := Aside0.mk (((K.out.alloc _).drewN _).step hB); clear K hB; have K := K2; clear K2; rcases St.and_split HV.out hb with ⟨rfl, h⟩ | ⟨rfl, h⟩ <;> (clear HV hb; have HV := Aside0.mk h; clear h)))
     all_goals try (go_ret; exact ⟨by first | rw [HV.out]; rfl | (rw [HV.out, hb4.out]; simp [*]), by first | exact K.out.bel | exact ((K.out.alloc _).drewN _).bel⟩)
     case _ =>
     go_roundw
     case rel => have hn3 := hn2.out; exact ⟨i + 1, by omega, by rw [St.sc i (by omega)], K, HV⟩
     case measure => exact St.dec _ i hi6 (Nat.lt_of_lt_of_le hi6 hn2.out)
  ·obtain ⟨ad2, eA, x0, x1⟩ := at_T91 i2.out (i : Int) (by omega) (by omega)
   subst eA
   have hz := HS.out.z2 _ (getD_mem t.f2 z91 i hi6)
   have hn2 := Aside0.mk HS.out.n2
   obtain ⟨m, em⟩ : ∃ m, rd_T91 t.f2 (i : Int) = m := ⟨_, rfl⟩
   have em2 := Aside0.mk (show t.f2.getD i z91 = m from em)
   rw [em2.out] at hz
   rw [em] at x0 x1
   simp only [Int.toNat_natCast] at x0 x1
   replace x0 := (K.out.bel.cell (World.block_lt_of_cell? w _ x0)).trans x0
   replace x1 := (K.out.bel.cell (World.block_lt_of_cell? w _ x1)).trans x1
   clear em t0 t1 t2 t3
   replace HV := Aside0.mk (HV.out.trans (St.mlN t.f2 i hi6 m em2.out _))
   go_wp2_with (first
    | (go_at_call 63; refine (St.imet_c m.f0 hz _ (hT.out.below (K.out.alloc _).bel)).mono ?_; rintro x w1 ⟨bb, rfl, hb, hB⟩; have K2 := Aside0.mk ((K.out.new _).step hB); clear hB; obtain ⟨m0, m1⟩ := St.cells2 K2.out.fst; have K3 := Aside0.mk K2.out.tl; clear K; have K := K3; clear K2 K3; rcases St.and_split HV.out hb with ⟨rfl, h⟩ | ⟨rfl, h⟩ <;> (clear HV hb; have HV := Aside0.mk h; clear h))
    | (go_at_call 55; refine (St.ibetw_c _ _ _ _).mono ?_; rintro x w' ⟨bb, rfl, hb, ⟨nd, rfl⟩⟩; rcases St.and_split HV.out hb with ⟨rfl, h⟩ | ⟨rfl, h⟩ <;> (clear HV hb; have HV := Aside0.mk h; clear h)))
   all_goals try (go_ret; exact ⟨by rw [HV.out]; rfl, by first | exact K.out.bel | exact (K.out.drewN _).bel | exact K.out.tl.bel⟩)
   case _ =>
   skip
   go_roundw
   case rel => have hn3 := hn2.out; exact ⟨i + 1, by omega, by rw [St.sc i (by omega)], ⟨K.out.drewN _⟩, HV⟩
   case measure => exact St.dec _ i hi6 (Nat.lt_of_lt_of_le hi6 hn2.out)
noncomputable def impl_StateOK.f (a b c d e f now : Int) (ts : List S87) : Option Bool := spec_StateOK.f a b c d e f now ts
namespace St
theorem cells6 {W : World} {g : Nat} {a b c d e f : Value} {t : TypeId} (h : W.heap[g]? = some (.cells #[a, b, c, d, e, f] t (0, 0))) : W.cell? ⟨g, 0, none⟩ = some a ∧ W.cell? ⟨g, 1, none⟩ = some b ∧ W.cell? ⟨g, 2, none⟩ = some c ∧ W.cell? ⟨g, 3, none⟩ = some d ∧ W.cell? ⟨g, 4, none⟩ = some e ∧ W.cell? ⟨g, 5, none⟩ = some f := ⟨(blk_cell h 0).trans rfl, (blk_cell h 1).trans rfl, (blk_cell h 2).trans rfl, (blk_cell h 3).trans rfl, (blk_cell h 4).trans rfl, (blk_cell h 5).trans rfl⟩
theorem st_imp (a b c d e f now : Int) (ts : List Tn) : stB a b c d e f now ts = (St.cfgB a b c d e f && (decide (0 ≤ now ∧ now ≤ 1000000000000) && (decide (ts.length ≤ 10000) && (Rise.up (ts.map (·.f0)) && allFrom (fun i => tnB a now (ts.getD i z87)) 0 (ts.length - 0))))) := by
 rw [Nat.sub_zero, allFrom_all (tnB a now) z87 ts ts.length 0 (by omega), List.drop_zero]
 rfl
end St
set_option maxHeartbeats 4000000 in
set_option maxRecDepth 100000 in
theorem impl_StateOK.calls (a b c d e f now : Int) (A : Option Addr) (cp : Nat) (ts : List S87) (r : Bool) (w : World) (hr : Kd.C k87 w A ts.length ts) (hc : ts.length ≤ cp) (h : impl_StateOK.f a b c d e f now ts = some r) (hT : Tabs w) :
  Calls Tryz.prog 16 #[.agg #[.int .i64 a, .int .i64 b, .int .i64 c, .int .i64 d, .int .i64 e, .int .i64 f], .agg #[.int .i64 now, .slice A ts.length cp]] w fun e w' => e = .returned (.bool r) ∧ Below w.heap.size w w' := by
 have hu29 := Tryz.underlying29
 have hu33 := Tryz.underlying33
 have hu87 := Tryz.underlying87
 unfold impl_StateOK.f spec_StateOK.f at h
 by_cases hs : ts.length ≤ 1048576 ∧ ∀ t ∈ ts, Sm t
 case neg => rw [if_neg hs] at h; cases h
 rw [if_pos hs] at h
 have HV := Aside0.mk ((Option.some.inj h).symm.trans (St.st_imp a b c d e f now ts))
 have HS := Aside0.mk hs
 have HR := Aside0.mk hr
 have HC := Aside0.mk hc
 replace hT := Aside0.mk hT
 clear h hs hr hc
 obtain ⟨L, hL⟩ : ∃ L, L = [(w.heap.size + 1, St.cS now A ts.length cp), (w.heap.size, St.cC a b c d e f)] := ⟨_, rfl⟩
 replace hL := Aside0.mk hL
 obtain ⟨q, hq⟩ : ∃ q, decide ((10000 : Int) < (ts.length : Int)) = q := ⟨_, rfl⟩
 have hq2 := Aside0.mk (show decide (ts.length ≤ 10000) = !q by rw [← hq, ← decide_not]; exact decide_eq_decide.2 (by omega))
 cases q
 all_goals
  go_enter Tryz.func16, Tryz.ntmps16
  go_wp2_with (first
   | (go_at_call 54; refine (impl_ConfigOK.calls a b c d e f _ _ rfl).mono ?_; rintro x w1 ⟨rfl, hB⟩; have K := Aside0.mk (hL.out ▸ (St.two w (St.cC a b c d e f) (St.cS now A ts.length cp)).step hB : Kp w w1 L); obtain ⟨s0, s1⟩ := St.cells2 (K.out.has _ (by rw [hL.out]; exact List.mem_cons_self)); clear hB; generalize hb : St.cfgB a b c d e f = bb; rcases St.and_split HV.out hb with ⟨rfl, h⟩ | ⟨rfl, h⟩ <;> (clear HV hb; have HV := Aside0.mk h; clear h))
   | (go_at_call 55; refine (St.ibetw_c _ _ _ _).mono ?_; rintro x w' ⟨bb, rfl, hb, ⟨nd, rfl⟩⟩; rcases St.and_split HV.out hb with ⟨rfl, h⟩ | ⟨rfl, h⟩ <;> (have hNow := Aside0.mk hb; clear HV hb; have HV := Aside0.mk h; clear h))
   | (go_at_call 56; replace HV := Aside0.mk (HV.out.trans (by rw [hq2.out]; rfl : _ = (Rise.up (ts.map (·.f0)) && allFrom (fun i => tnB a now (ts.getD i z87)) 0 (ts.length - 0)))); refine (impl_Tenant_string.calls _ _ _ _ _ (Kd.C_below HR.out (K.out.drewN _).bel) HC.out (if_pos (by have := HS.out.1; omega))).mono ?_; rintro x w1 ⟨rfl, hB⟩; have K2 := Aside0.mk ((K.out.drewN _).step hB); clear K hB s0 s1; have K := K2; clear K2; obtain ⟨s0, s1⟩ := St.cells2 (K.out.has _ (by rw [hL.out]; exact List.mem_cons_self)); generalize hb : Rise.up (ts.map (·.f0)) = bb; rcases St.and_split HV.out hb with ⟨rfl, h⟩ | ⟨rfl, h⟩ <;> (clear HV hb; have HV := Aside0.mk h; clear h)))
 all_goals try (go_ret; exact ⟨by first | rw [HV.out]; rfl | (rw [HV.out, hq2.out]; rfl), by first | exact K.out.bel | exact (K.out.drewN _).bel⟩)
 case _ =>
 clear s0 s1
 go_loopw [31] (fun v wr => ∃ j : Nat, j ≤ ts.length ∧ v = .int .i64 j ∧ Aside0 (Kp w wr L) ∧ Aside0 (r = allFrom (fun i => tnB a now (ts.getD i z87)) j (ts.length - j))) (fun v wr => ts.length - (intOf v).toNat)
 case atStart => exact ⟨0, by omega, by simp, K, HV⟩
 case round =>
  rename World => wo
  clear K HV
  obtain ⟨j, hj, rfl, K, HV⟩ := hrel
  obtain hj5 | hj6 : ts.length ≤ j ∨ j < ts.length := by omega
  ·obtain rfl : j = ts.length := by omega
   go_wp2
   go_ret
   exact ⟨by rw [HV.out, Nat.sub_self]; rfl, K.out.bel⟩
  ·have ht := HS.out.2 _ (getD_mem ts z87 j hj6)
   have hn := Aside0.mk HS.out.1
   obtain ⟨ad, A2, c2, A3, c3, rfl, x0, x1, x2, x3, l2, i2, l3, i3⟩ := at_T87 HR.out (j : Int) (by omega) (by omega)
   obtain ⟨t, et⟩ : ∃ t, rd_T87 ts (j : Int) = t := ⟨_, rfl⟩
   have et2 := Aside0.mk (show ts.getD j z87 = t from et)
   rw [et2.out] at ht
   rw [et] at x0 x1 x2 x3 l2 i2 l3 i3
   simp only [Int.toNat_natCast] at x0 x1 x2 x3
   replace ht := Aside0.mk ht
   replace l2 := Aside0.mk l2
   replace l3 := Aside0.mk l3
   replace i2 := Aside0.mk i2
   replace i3 := Aside0.mk i3
   replace x0 := (K.out.bel.cell (World.block_lt_of_cell? w _ x0)).trans x0
   replace x1 := (K.out.bel.cell (World.block_lt_of_cell? w _ x1)).trans x1
   replace x2 := (K.out.bel.cell (World.block_lt_of_cell? w _ x2)).trans x2
   replace x3 := (K.out.bel.cell (World.block_lt_of_cell? w _ x3)).trans x3
   clear et
   have K4 := Aside0.mk (K.out.alloc (St.cT (.string t.f0) (.int .i64 t.f1) (.slice A2 t.f2.length c2) (.slice A3 t.f3.length c3)))
   obtain ⟨c0, c1, c2', c3', c4, c5⟩ := St.cells6 (K4.out.has _ (by rw [hL.out]; exact List.mem_cons_of_mem _ List.mem_cons_self))
   obtain ⟨s0, s1⟩ := St.cells2 (K4.out.has _ (by rw [hL.out]; exact List.mem_cons_self))
   replace HV := Aside0.mk (HV.out.trans ((St.all_step _ j ts.length hj6).trans (congrArg (· && _) (congrArg (tnB a now) et2.out))))
   go_wp2_with (go_at_call 58; refine (St.tn_c a b c d e f now (of_decide_eq_true hNow.out).1 (of_decide_eq_true hNow.out).2 t ht.out _ _ _ _ _ (Kd.C_below i2.out K4.out.bel) l2.out (Kd.C_below i3.out K4.out.bel) l3.out (hT.out.below K4.out.bel)).mono ?_; rintro x w1 ⟨rfl, hB⟩; have K2 := Aside0.mk (K4.out.step hB); clear K K4 hB c0 c1 c2' c3' c4 c5 s0 s1; have K := K2; clear K2; generalize hb : tnB a now t = bb; rcases St.and_split HV.out hb with ⟨rfl, h⟩ | ⟨rfl, h⟩ <;> (clear HV hb; have HV := Aside0.mk h; clear h))
   all_goals try (go_ret; exact ⟨by rw [HV.out]; rfl, K.out.bel⟩)
   case _ =>
   go_roundw
   case rel => have hn3 := hn.out; exact ⟨j + 1, by omega, by rw [St.sc j (by omega)], K, HV⟩
   case measure => exact St.dec _ j hj6 (Nat.lt_of_lt_of_le hj6 hn.out)
end Go.Proofs.YtikbfjnbhogihaaGreatDoor.M
