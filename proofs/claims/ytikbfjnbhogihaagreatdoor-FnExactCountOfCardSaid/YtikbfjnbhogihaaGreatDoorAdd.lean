import Derived.Test.YtikbfjnbhogihaaGreatDoorMetC
import Derived.Maps.OwnSet
import Derived.Test.YtikbfjnbhogihaaGreatDoorM0
import Derived.Test.YtikbfjnbhogihaaGreatDoorMetr
/- (*account).add, idle and expire: walked. -/
namespace Go.Proofs.YtikbfjnbhogihaaGreatDoor.Bk
open Go.RowKit Go.Proofs.YtikbfjnbhogihaaGreatDoor.M Go.Proofs.YtikbfjnbhogihaaGreatDoor.Loops Go.Proofs.YtikbfjnbhogihaaGreatDoorW.PrintWords Go.Proofs.YtikbfjnbhogihaaGreatDoorW.PrintLast Go.Proofs.YtikbfjnbhogihaaGreatDoorW.PrintMore
set_option linter.unusedVariables false
set_option linter.unusedSimpArgs false
theorem zint (w : World) : (zeroValue 3).run Tryz.prog w = .ok (.int .i64 0) w := by kernel_rfl
theorem tabs_of {w0 w : World} (hT : Tabs w0) (h : Below w0.heap.size w0 w) : Tabs w := hT.below h
theorem kept_turned {w w1 w2 : World} {S : Nat → Prop} {b : Nat} (h : Kept w w1 S) (ht : w1.mapTurned w2 b) (hb : S b ∨ w.heap.size ≤ b) : Kept w w2 S := h.of_grown ht.grown fun k hk => by injection hk with hk; exact hk ▸ hb
theorem below_turned {w0 w1 w2 : World} {b : Nat} (h : Below w0.heap.size w0 w1) (ht : w1.mapTurned w2 b) (hb : w0.heap.size ≤ b) : Below w0.heap.size w0 w2 := h.grown ht.grown h.size (fun j hj => by injection hj with hj; exact hj ▸ hb)
set_option maxHeartbeats 4000000 in
set_option maxRecDepth 100000 in
theorem add_c (w0 w : World) (a : Nat) (A : Ac) (k : ByteArray) (last now : Int) (N : Nat) (h : At w w0.heap.size a A) (hB : Below w0.heap.size w0 w) (hT : Tabs w0) (hI : Inv A now N) (hN : N ≤ 4194303) (hk : k.size ≤ 1048576) (hl : last ≤ now) (hf : ∀ x ∈ A.ser, x.k ≠ k) :
  Calls Tryz.prog 113 #[ptr a, .string k, .int .i64 last] w fun e w' => e = .returned (.tuple #[]) ∧ ∃ A' g, At w' w0.heap.size a A' ∧ Inv A' now (N + 1) ∧ A'.lim = A.lim ∧ A'.met = A.met ∧ A'.ser = gins (·.k) ⟨k, g, last⟩ A.ser ∧ Below w0.heap.size w0 w' ∧ Kept w w' (fp a A) ∧ (∀ i, fp a A' i → fp a A i ∨ w.heap.size ≤ i) := by
 have hu1 := Tryz.underlying116
 have hu2 := Tryz.underlying93
 have hu3 := Tryz.underlying169
 obtain ⟨ca0, ca1, ca2, ca3, ca4, ca5⟩ := c6 h.blk
 clear ca0 ca1 ca3 ca4 ca5
 have H1 : Aside0 (At (w.alloc (cX k last)) w0.heap.size a A) := ⟨h.below (below_alloc (Below.refl _ _) _)⟩
 have HB1 : Aside0 (Below w0.heap.size w0 (w.alloc (cX k last))) := ⟨below_alloc hB _⟩
 have HK1 : Aside0 (Kept w (w.alloc (cX k last)) (fp a A)) := ⟨(Kept.refl w _).alloc _⟩
 have HG : Aside0 ((w.alloc (cX k last)).heap[w.heap.size]? = some (cX k last) ∧ w0.heap.size ≤ w.heap.size ∧ ¬ fp a A w.heap.size) := ⟨blk_new w _, hB.size, fun hi => Nat.lt_irrefl _ (h.lt hi)⟩
 have HF := Aside0.mk hf
 have HI := Aside0.mk hI
 have HT := Aside0.mk hT
 have HL := Aside0.mk hl
 have HA0 := Aside0.mk h
 obtain ⟨m, hm⟩ : ∃ m, StOK.metS k = m := ⟨_, rfl⟩
 replace hm := Aside0.mk hm
 obtain ⟨W1, hW1⟩ : ∃ W, w.alloc (cX k last) = W := ⟨_, rfl⟩
 rw [hW1] at H1 HB1 HK1 HG
 clear h hB hf hI hT hl
 go_enter Tryz.func113, Tryz.ntmps113
 go_wp2_with (first
  | (at_mapUpdate; refine Mp.wp_upd (by rfl) _ _ _ 110 (by rfl) 9 180 Tryz.underlying9 Tryz.underlying110 A.sb (sers A.ser) (by rfl) H1.out.ms ?hn k (by rfl) ?hs (ptr w.heap.size) (by rfl) rfl ?_; (case hn => have := HI.out.n1; simp only [sers, List.length_map, maxLen]; omega); (case hs => simp only [maxLen]; omega); intro w1 his ht; have H2 := Aside0.mk (H1.out.ser' HG.out.1 HG.out.2.1 HG.out.2.2 HF.out his ht); have HB2 := Aside0.mk (below_turned HB1.out ht (H1.out.lo _ (.inr (.inr (.inl rfl))))); have HK2 := Aside0.mk (kept_turned HK1.out ht (.inl (.inr (.inr (.inl rfl))))); clear his ht))
 clear ca2 hW1
 have H3 : Aside0 (At w1.drew w0.heap.size a { A with ser := gins (·.k) ⟨k, w.heap.size, last⟩ A.ser }) := ⟨H2.out.below (below_drew (Below.refl _ _))⟩
 have HB3 : Aside0 (Below w0.heap.size w0 w1.drew) := ⟨below_drew HB2.out⟩
 have HK3 : Aside0 (Kept w w1.drew (fp a A)) := ⟨HK2.out.drew⟩
 have c3 : w1.drew.cell? ⟨a, 3, none⟩ = some (.map (some A.cb)) := (c6 H3.out.blk).2.2.2.1
 clear H2 HB2 HK2
 refine start_ (n := 9) (S := fun w' => w'.cell? ⟨a, 3, none⟩ = some (.map (some A.cb))) (ds := [8]) #[false, false, false, false, false, false, false, false, false] (by kernel_rfl) rfl rfl c3 (fun hHeld => ?_)
 generalize w1.drew = w2 at H3 HB3 HK3 hHeld ⊢
 refine pu_ 0 (some 15) (h := ?_)
 refine pu_ 1 (some 16) (h := ?_)
 refine pu_ 2 (some 17) (h := ?_)
 refine tk_ 3 (some 18) (hy := by rintro w' s0; go_simp; with_reducible rfl) (hS := hHeld) (h := ?_)
 refine pu_ 4 (some 19) (h := ?_)
 refine on_ 5 (some 20) (h := fun K hK => ?_)
 refine goes_ Tryz.func35 (by kernel_rfl) rfl #[.string k] (by rfl) rfl rfl (by simp only [List.map_toArray, List.map_cons, List.map_nil]; rfl) ?_
 refine (imetric_c k hk _ (tabs_of HT.out HB3.out)).mono ?_
 rintro e w3 ⟨rfl, hb⟩
 refine ⟨_, rfl, ?_⟩
 rw [hm.out]
 have H4 := Aside0.mk (H3.out.below hb)
 have HB4 := Aside0.mk (below_then HB3.out HB3.out.size hb)
 have HK4 := Aside0.mk (HK3.out.below hb)
 have c3' : w3.cell? ⟨a, 3, none⟩ = some (.map (some A.cb)) := (c6 H4.out.blk).2.2.2.1
 have hms : m.size ≤ maxLen := hm.out ▸ Nat.le_trans (metS_le k hk) (by decide)
 have hlk := H4.out.mc.look Tryz.underlying9 Tryz.underlying109 (zint w3) m hms false
 rw [if_neg (by decide), show (Mp.get A.cnt m).getD (.int .i64 0) = .int .i64 (nOf A.ser m : Nat) from HI.out.cnt m] at hlk
 have hn0 := Nat.le_trans (nOf_le A.ser m) HI.out.n1
 obtain ⟨n, hn⟩ : ∃ n, nOf A.ser m = n := ⟨_, rfl⟩
 rw [hn] at hlk hn0
 obtain ⟨w4, hrun, his4, ht4⟩ := H4.out.mc.upd Tryz.underlying9 Tryz.underlying109 (by have := HI.out.n2; simp only [maxLen]; omega) m hms (.int .i64 ((n : Int) + 1)) rfl
 have H5 := Aside0.mk (H4.out.cnt' his4 ht4)
 have HB5 := Aside0.mk (below_turned HB4.out ht4 (H4.out.lo _ (.inr (.inr (.inr (.inl rfl))))))
 have HK5 := Aside0.mk (kept_turned HK4.out ht4 (.inl (.inr (.inr (.inr (.inl rfl))))))
 have hw : IntKind.i64.wrap ((n : Int) + 1) = (n : Int) + 1 := IntWalk.i64_in _ (by omega)
 replace hn := Aside0.mk hn
 clear his4 ht4 hb
 refine hK.out _ _ c3' (fun hHeld => ?_)
 clear hK K
 refine nm_ (some 20) _ (h := ?_)
 refine on_ 6 (some 21) (h := fun K hK => ?_)
 refine va_ (h := ?_)
 refine hK.out _ _ hHeld (fun hHeld => ?_)
 clear hK K
 refine nm_ (some 21) _ (h := ?_)
 refine pu_ 7 (some 22) (h := ?_)
 refine la_ 8 none (h := fun K hK => ?_)
 refine sk_ (h := ?_)
 refine hK.out _ _ ?_
 clear hK K
 refine done_ (by kernel_rfl) ?_
 go_wp2_with (first | (go_at_call 154; refine (push_c w0 w4 a A.lim A.mb A.sb A.cb A.v A.its ⟨k, last⟩ ⟨H5.out.blk, H5.out.it, H5.out.lo a (.inl rfl), HB5.out, HI.out.ok⟩ (by have := HI.out.n3; omega)).mono ?_; rintro e w5 ⟨rfl, v', its', hq, hperm, hkept, hown⟩))
 go_end0
 have H6 := H5.out.row' hq.blk hq.row hkept
 refine ⟨rfl, _, w.heap.size, H6, ?_, rfl, rfl, rfl, hq.bel, HK5.out.then_ hkept fun i hi => ?_, fun i hi => ?_⟩
 ·have := HI.out.add k w.heap.size last hk HL.out (v := v') hperm hq.ok
  rw [hm.out, hn.out] at this
  exact this
 ·rcases hi with rfl | hi
  ·exact .inl (.inl rfl)
  ·exact .inl (.inr (.inr (.inr (.inr (.inl hi)))))
 ·rcases hi with hi | hi | hi | hi | hi | ⟨x, hx, hi⟩
  ·exact .inl (.inl hi)
  ·exact .inl (.inr (.inl hi))
  ·exact .inl (.inr (.inr (.inl hi)))
  ·exact .inl (.inr (.inr (.inr (.inl hi))))
  ·rcases hown i hi with h1 | h1
   ·exact .inl (.inr (.inr (.inr (.inr (.inl h1)))))
   ·exact .inr (Nat.le_trans HK5.out.1 h1)
  ·rcases gins_mem.1 hx with rfl | hx
   ·exact .inr (Nat.le_of_eq hi)
   ·exact .inl (.inr (.inr (.inr (.inr (.inr ⟨x, hx, hi⟩)))))
def idleA (A : Ac) : Bool := decide (A.lim = -1) && (decide (A.met.length = 0) && decide (A.ser.length = 0))
set_option maxHeartbeats 4000000 in
set_option maxRecDepth 100000 in
theorem idle_c (w : World) (base a : Nat) (A : Ac) (h : At w base a A) : Calls Tryz.prog 119 #[ptr a] w fun e w' => e = .returned (.bool (idleA A)) ∧ w = w' := by
 obtain ⟨ca0, ca1, ca2, ca3, ca4, ca5⟩ := c6 h.blk
 have hl1 := h.mm.len Tryz.underlying109 3
 have hl2 := h.ms.len Tryz.underlying110 3
 obtain ⟨r, hr⟩ : ∃ r, r = idleA A := ⟨_, rfl⟩
 rw [← hr]
 replace hr := Aside0.mk hr
 clear h ca3 ca4 ca5
 obtain ⟨n2, hn2⟩ : ∃ n, (A.met.map fM).length = n := ⟨_, rfl⟩
 obtain ⟨n3, hn3⟩ : ∃ n, (sers A.ser).length = n := ⟨_, rfl⟩
 rw [hn2] at hl1
 rw [hn3] at hl2
 obtain ⟨b1, hb1⟩ : ∃ b, decide (A.lim = -1) = b := ⟨_, rfl⟩
 obtain ⟨b2, hb2⟩ : ∃ b, decide (n2 = 0) = b := ⟨_, rfl⟩
 obtain ⟨b3, hb3⟩ : ∃ b, decide (n3 = 0) = b := ⟨_, rfl⟩
 have e1 : (A.lim == -1) = b1 := by rw [← hb1]; exact (Bool.eq_iff_iff.2 (by simp))
 have e2 : ((n2 : Int) == 0) = b2 := by rw [← hb2]; exact (Bool.eq_iff_iff.2 (by simp))
 have e3 : ((n3 : Int) == 0) = b3 := by rw [← hb3]; exact (Bool.eq_iff_iff.2 (by simp))
 have HR := Aside0.mk (show idleA A = (b1 && (b2 && b3)) by
  rw [List.length_map] at hn2
  rw [sers, List.length_map] at hn3
  unfold idleA
  rw [hn2, hn3, hb1, hb2, hb3])
 clear hb1 hb2 hb3 hn2 hn3
 cases b1 <;> cases b2 <;> cases b3
 all_goals
  go_enter Tryz.func119, Tryz.ntmps119
  go_wp2
  go_ret
  exact ⟨by rw [hr.out, HR.out]; rfl, rfl⟩
structure Ex (w0 w wr : World) (a : Nat) (A : Ac) (upto : Int) (B : Ac) : Prop where
 at_ : At wr w0.heap.size a B
 lim : B.lim = A.lim
 met : B.met = A.met
 ser : (B.ser.filter fun x => decide (upto < x.last)) = A.ser.filter fun x => decide (upto < x.last)
 bel : Below w0.heap.size w0 wr
 kep : Kept w wr (fp a A)
 own : ∀ i, fp a B i → fp a A i ∨ w.heap.size ≤ i
section
variable {w0 w wr w2 : World} {a : Nat} {A B : Ac} {upto now : Int} {N : Nat}
theorem Ex.below (h : Ex w0 w wr a A upto B) (hb : Below wr.heap.size wr w2) : Ex w0 w w2 a A upto B :=
 ⟨h.at_.below hb, h.lim, h.met, h.ser, below_then h.bel h.bel.size hb, h.kep.below hb, h.own⟩
theorem Ex.hq (h : Ex w0 w wr a A upto B) (ho : Hp.Ok (Hp.fn (·.f1) z93 B.its) B.its.length) : Hq w0 wr a B.lim B.mb B.sb B.cb B.v B.its := ⟨h.at_.blk, h.at_.it, h.at_.lo a (.inl rfl), h.bel, ho⟩
theorem Ex.row (h : Ex w0 w wr a A upto B) {v : Value} {its : List Sg} (hq : Hq w0 w2 a B.lim B.mb B.sb B.cb v its) (hk : Kept wr w2 (fun i => i = a ∨ B.v.ownBlock = some i)) (ho : ∀ i, v.ownBlock = some i → B.v.ownBlock = some i ∨ wr.heap.size ≤ i) : Ex w0 w w2 a A upto { B with v := v, its := its } :=
 ⟨h.at_.row' hq.blk hq.row hk, h.lim, h.met, h.ser, hq.bel, h.kep.then_ hk fun i hi => h.own i (hi.elim (fun e => .inl e) (fun e => .inr (.inr (.inr (.inr (.inl e)))))), fun i hi => by
  rcases hi with hi | hi | hi | hi | hi | hi
  ·exact h.own i (.inl hi)
  ·exact h.own i (.inr (.inl hi))
  ·exact h.own i (.inr (.inr (.inl hi)))
  ·exact h.own i (.inr (.inr (.inr (.inl hi))))
  ·rcases ho i hi with h1 | h1
   ·exact h.own i (.inr (.inr (.inr (.inr (.inl h1)))))
   ·exact .inr (Nat.le_trans h.kep.1 h1)
  ·exact h.own i (.inr (.inr (.inr (.inr (.inr hi)))))⟩
theorem Ex.cnt (h : Ex w0 w wr a A upto B) {l : Mp.Al} (hl : Mp.Is Tryz.prog 9 w2 B.cb l) (ht : wr.mapTurned w2 B.cb) : Ex w0 w w2 a A upto { B with cnt := l } :=
 ⟨h.at_.cnt' hl ht, h.lim, h.met, h.ser, below_turned h.bel ht (h.at_.lo _ (.inr (.inr (.inr (.inl rfl))))), kept_turned h.kep ht (h.own _ (.inr (.inr (.inr (.inl rfl))))), h.own⟩
theorem Ex.del (h : Ex w0 w wr a A upto B) {k : ByteArray} (hl : Mp.Is Tryz.prog 9 w2 B.sb (Mp.del (sers B.ser) k)) (ht : wr.mapTurned w2 B.sb) (hk : ∀ x ∈ B.ser, x.k = k → ¬ upto < x.last) : Ex w0 w w2 a A upto { B with ser := gdel (·.k) k B.ser } :=
 ⟨h.at_.del' hl ht, h.lim, h.met, by
  rw [← h.ser]
  show ((gdel (·.k) k B.ser).filter _) = _
  unfold gdel
  rw [List.filter_filter]
  refine List.filter_congr fun x hx => ?_
  by_cases e : x.k = k
  ·rw [decide_eq_false (hk x hx e)]; rfl
  ·have : (x.k.data.toList == k.data.toList) = false := by
    rw [beq_eq_false_iff_ne]
    exact fun e2 => e (Mp.key_inj e2)
   simp [this], below_turned h.bel ht (h.at_.lo _ (.inr (.inr (.inl rfl)))), kept_turned h.kep ht (h.own _ (.inr (.inr (.inl rfl)))), fun i hi => by
  rcases hi with hi | hi | hi | hi | hi | ⟨x, hx, hi⟩
  ·exact h.own i (.inl hi)
  ·exact h.own i (.inr (.inl hi))
  ·exact h.own i (.inr (.inr (.inl hi)))
  ·exact h.own i (.inr (.inr (.inr (.inl hi))))
  ·exact h.own i (.inr (.inr (.inr (.inr (.inl hi)))))
  ·exact h.own i (.inr (.inr (.inr (.inr (.inr ⟨x, (List.mem_filter.1 hx).1, hi⟩)))))⟩
theorem Ex.fin (h : Ex w0 w wr a A upto B) (hi : Inv B now N) (hf : ∀ x ∈ B.ser, upto < x.last) :
  ∃ A', At wr w0.heap.size a A' ∧ Inv A' now N ∧ A'.lim = A.lim ∧ A'.met = A.met ∧ A'.ser = (A.ser.filter fun x => decide (upto < x.last)) ∧ Below w0.heap.size w0 wr ∧ Kept w wr (fp a A) ∧ (∀ i, fp a A' i → fp a A i ∨ w.heap.size ≤ i) :=
 ⟨B, h.at_, hi, h.lim, h.met, by rw [← h.ser]; exact (List.filter_eq_self.2 fun x hx => decide_eq_true (hf x hx)).symm, h.bel, h.kep, h.own⟩
end
end Go.Proofs.YtikbfjnbhogihaaGreatDoor.Bk
/- A state that is right, and the book that tells it. Plain. -/
namespace Go.Proofs.YtikbfjnbhogihaaGreatDoor.Bk
open Go.RowKit Go.Proofs.YtikbfjnbhogihaaGreatDoor.M Go.Proofs.YtikbfjnbhogihaaGreatDoorW.PrintWords Go.Proofs.YtikbfjnbhogihaaGreatDoorW.PrintLast Go.Proofs.YtikbfjnbhogihaaGreatDoorW.PrintMore
set_option linter.unusedVariables false
abbrev bef (a b : ByteArray) : Prop := bytesBefore a.data.toList b.data.toList = true
structure GoodT (now : Int) (t : Tn) : Prop where
 m2 : t.f2.Pairwise fun x y => bef x.f0 y.f0
 m3 : t.f3.Pairwise fun x y => bef x.f0 y.f0
 n0 : t.f0.size ≤ 1048576
 n2 : t.f2.length ≤ 1048576
 n3 : t.f3.length ≤ 1048576
 z2 : ∀ m ∈ t.f2, m.f0.size ≤ 1048576
 z3 : ∀ x ∈ t.f3, x.f0.size ≤ 1048576 ∧ x.f1 ≤ now
structure Good (now : Int) (ts : List Tn) : Prop where
 up : ts.Pairwise fun x y => bef x.f0 y.f0
 len : ts.length ≤ 1048576
 all : ∀ t ∈ ts, GoodT now t
theorem bef_asym {a b : ByteArray} (h : bef a b) : ¬ bef b a := fun h2 => by
 have : (Lit.string a.data.toList).before (Lit.string a.data.toList) = true := WideShapes.before_trans (b := Lit.string b.data.toList) h h2
 rw [WideShapes.before_irrefl] at this
 cases this
theorem bef_trans {a b c : ByteArray} (h : bef a b) (h2 : bef b c) : bef a c := WideShapes.before_trans (a := Lit.string a.data.toList) (b := Lit.string b.data.toList) (c := Lit.string c.data.toList) h h2
theorem gins_last {α : Type} {kf : α → ByteArray} {x : α} : ∀ {l : List α}, (∀ y ∈ l, bef (kf y) (kf x)) → gins kf x l = l ++ [x]
 | [], _ => rfl
 | y :: r, h => by
  unfold gins
  rw [if_neg (bef_asym (h y List.mem_cons_self)), gins_last fun z hz => h z (List.mem_cons_of_mem _ hz)]
  rfl
theorem put_last {α : Type} (f : α → ByteArray × Value) {l : List α} {x : α} (h : ∀ y ∈ l, bef (f y).1 (f x).1) : Mp.put (l.map f) (f x).1 (f x).2 = (l ++ [x]).map f := by
 unfold Mp.put
 rw [← map_gdel f, gdel_none fun y hy e => before_ne (h y hy) e, show ((f x).1, (f x).2) = f x from rfl, ← map_gins f x, gins_last h]
theorem ahead {α : Type} {kf : α → ByteArray} {l : List α} (h : l.Pairwise fun x y => bef (kf x) (kf y)) (z : α) (j : Nat) (hj : j < l.length) : ∀ y ∈ l.take j, bef (kf y) (kf (l.getD j z)) := fun y hy => by
 obtain ⟨i, hi, rfl⟩ := List.getElem_of_mem hy
 rw [List.length_take] at hi
 rw [List.getElem_take, List.getD_eq_getElem?_getD, List.getElem?_eq_getElem hj]
 exact List.pairwise_iff_getElem.1 h i j (by omega) hj (by omega)
theorem take_snoc' {α : Type} (l : List α) (z : α) (j : Nat) (hj : j < l.length) : l.take (j + 1) = l.take j ++ [l.getD j z] := by
 rw [List.take_succ_eq_append_getElem hj, List.getD_eq_getElem?_getD, List.getElem?_eq_getElem hj]
 rfl
theorem mem_getD {α : Type} (l : List α) (z : α) (j : Nat) (h : j < l.length) : l.getD j z ∈ l := by
 rw [List.getD_eq_getElem?_getD, List.getElem?_eq_getElem h]
 exact List.getElem_mem h
def fS (s : Sx) : Sr := ⟨s.k, s.last⟩
def Ac.tn (n : ByteArray) (A : Ac) : Tn := ⟨n, A.lim, A.met, A.ser.map fS⟩
def Tb.tn (x : Tb) : Tn := x.A.tn x.name
theorem At.met' {w w' : World} {base a : Nat} {A : Ac} (h : At w base a A) {l : List Ml} (hl : Mp.Is Tryz.prog 9 w' A.mb (l.map fM)) (ht : w.mapTurned w' A.mb) : At w' base a { A with met := l } := by
 obtain ⟨k1, k2, k3, k4, k5, k6, k7, k8, k9⟩ := h.kinds
 have hm : ∀ i, fp a A i → i ≠ A.mb → w'.heap[i]? = w.heap[i]? := fun i hi hne => turned_blk ht hne (h.lt hi)
 refine ⟨(hm a (.inl rfl) (Ne.symm k2)).trans h.blk, hl, h.ms.move (hm _ (.inr (.inr (.inl rfl))) (Ne.symm h.n1)), h.mc.move (hm _ (.inr (.inr (.inr (.inl rfl)))) (Ne.symm h.n2)), h.n1, h.n2, h.n3, fun x hx => (hm _ (.inr (.inr (.inr (.inr (.inr ⟨x, hx, rfl⟩))))) (Ne.symm (k6 x hx).1)).trans (h.sx x hx), h.nd, ?_, h.lo⟩
 exact Kd.R_mono (Kd.R_move (sg_own h.it) fun k hk => hm _ (.inr (.inr (.inr (.inr (.inl hk))))) (fun e => k7 (e ▸ hk))) fun _ _ => trivial
theorem At.lim' {w : World} {base a : Nat} {A : Ac} (h : At w base a A) (n : Int) : At (w.setCell ⟨a, 0, none⟩ (.int .i64 n)) base a { A with lim := n } := by
 obtain ⟨k1, k2, k3, k4, k5, k6, k7, k8, k9⟩ := h.kinds
 have hm : ∀ i, i ≠ a → (w.setCell ⟨a, 0, none⟩ (.int .i64 n)).heap[i]? = w.heap[i]? := fun i hi => Below.heap_setCell w ⟨a, 0, none⟩ _ i hi
 refine ⟨blk_set h.blk 0 _, h.mm.move (hm _ k2), h.ms.move (hm _ k3), h.mc.move (hm _ k4), h.n1, h.n2, h.n3, fun x hx => (hm _ (k1 x hx)).trans (h.sx x hx), h.nd, ?_, h.lo⟩
 exact Kd.R_mono (Kd.R_move (sg_own h.it) fun k hk => hm _ (fun e => k5 (e ▸ hk))) fun _ _ => trivial
theorem At.lower {w : World} {base base' a : Nat} {A : Ac} (h : At w base a A) (hb : base' ≤ base) : At w base' a A :=
 ⟨h.blk, h.mm, h.ms, h.mc, h.n1, h.n2, h.n3, h.sx, h.nd, Kd.R_lower h.it hb, fun i hi => Nat.le_trans hb (h.lo i hi)⟩
theorem Bk.enter {w0 w w' : World} {base tb : Nat} {l l' : List Tb} (h : Bk w0 base tb l) (hb : Below w0.heap.size w0 w) {n : ByteArray} {a : Nat} {A : Ac} (hA : At w w0.heap.size a A) (hbase : base ≤ w0.heap.size) (hp : l'.Perm (l ++ [⟨n, a, A⟩])) (hl : Mp.Is Tryz.prog 9 w' tb (tens l')) (ht : w.mapTurned w' tb) : Bk w' base tb l' := by
 have h1 := h.below hb
 have hlt := h.mp.lt
 have hnew : ∀ i, fp a A i → i ≠ tb := fun i hi e => by have := hA.lo i hi; omega
 have hlo : ∀ x ∈ l, ∀ i, fp x.a x.A i → i < w0.heap.size := fun x hx i hi => (h.at_ x hx).lt hi
 have hat : ∀ y, y ∈ l ++ [⟨n, a, A⟩] → At w base y.a y.A := fun y hy => by
  rcases List.mem_append.1 hy with hy | hy
  ·exact h1.at_ y hy
  ·obtain rfl := List.mem_singleton.1 hy
   exact hA.lower hbase
 have htn : ∀ y, y ∈ l ++ [⟨n, a, A⟩] → ¬ fp y.a y.A tb := fun y hy hi => by
  rcases List.mem_append.1 hy with hy | hy
  ·exact h.tn y hy hi
  ·obtain rfl := List.mem_singleton.1 hy
   exact hnew tb hi rfl
 refine ⟨hl, fun x hx => ?_, ?_, fun x hx => htn x (hp.mem_iff.1 hx)⟩
 ·have hx' := hp.mem_iff.1 hx
  exact (hat x hx').move fun i hi => turned_blk ht (fun e => htn x hx' (e ▸ hi)) ((hat x hx').lt hi)
 ·refine (hp.pairwise_iff fun {x y} hxy i hi hi2 => hxy i hi2 hi).2 ?_
  refine List.pairwise_append.2 ⟨h.dj, List.pairwise_singleton _ _, fun x hx y hy i hi hi2 => ?_⟩
  obtain rfl := List.mem_singleton.1 hy
  have := hlo x hx i hi
  have := hA.lo i hi2
  omega
end Go.Proofs.YtikbfjnbhogihaaGreatDoor.Bk
namespace Go.Proofs.YtikbfjnbhogihaaGreatDoor.M
open Go.RowKit Go.Proofs.YtikbfjnbhogihaaGreatDoorW.PrintWords Go.Proofs.YtikbfjnbhogihaaGreatDoorW.PrintLast Go.Proofs.YtikbfjnbhogihaaGreatDoorW.PrintMore
attribute [local go_sem] max2_int min2_int max_two min_two max_three min_three max_four min_four
set_option linter.unusedVariables false
set_option linter.unusedSimpArgs false
/-! ### laws_szMetricLimitS: function 146 -/
def laws_szMetricLimitS.l0 : Nat → List (S223) → Int → Int → Option (Int)
 | 0, _, _, _ => none
 | k + 1, x0, x1, x5 => if x5 < (x0.length : Int) then (if 0 ≤ x5 then ((laws_szMetricLimit.f ((rd_T223 x0 x5).f0) ((rd_T223 x0 x5).f1) x1).bind fun t103 => (if t103 < 0 then (some (-1)) else (laws_szMetricLimitS.l0 k x0 t103 (wrap64 (x5 + 1))))) else (none)) else (some x1)
def laws_szMetricLimitS.f (k : Nat) (l0 : List (S223)) (a1 : Int) : Option (Int) := if (wrap64 (a1 - (l0.length : Int))) < 0 then (some (-1)) else (laws_szMetricLimitS.l0 k l0 (wrap64 (a1 - (l0.length : Int))) 0)
theorem laws_szMetricLimitS.mono_l : ∀ k, (∀ y0 y1 y2, LeO (laws_szMetricLimitS.l0 k y0 y1 y2) (laws_szMetricLimitS.l0 (k + 1) y0 y1 y2))
 | 0 => fun _ _ _ r h => by simp [laws_szMetricLimitS.l0] at h
 | k + 1 => by
  have ih0 := laws_szMetricLimitS.mono_l k
  ·intro y0 y1 y2
   unfold laws_szMetricLimitS.l0
   repeat' first
   | (with_reducible exact ih0 _ _ _)
   | (with_reducible exact LeO.refl _)
   | (with_reducible refine LeO.ite ?_ ?_)
   | (with_reducible refine LeO.bind ?_ (fun _ => ?_))
theorem laws_szMetricLimitS.mono : ∀ a0 a1 k, LeO (laws_szMetricLimitS.f k a0 a1) (laws_szMetricLimitS.f (k + 1) a0 a1) := by
 intro a0 a1 k
 have ih0 := laws_szMetricLimitS.mono_l k
 unfold laws_szMetricLimitS.f
 repeat' first
   | (with_reducible exact ih0 _ _ _)
   | (with_reducible exact LeO.refl _)
   | (with_reducible refine LeO.ite ?_ ?_)
set_option maxHeartbeats 8000000 in
set_option maxRecDepth 100000 in
theorem laws_szMetricLimitS.calls (k : Nat) (A0 : Option Addr) (c0 : Nat) (l0 : List (S223)) (a1 : Int) (r : Int) (w : World) (hr0 : Kd.C k223 w A0 l0.length l0) (hc0 : l0.length ≤ c0) (h : laws_szMetricLimitS.f k l0 a1 = some r) :
  Calls Tryz.prog 146 #[.slice A0 l0.length c0, .int .i64 a1] w fun e w' => e = .returned (.int .i64 r) ∧ Below w.heap.size w w' := by
 have HR0 := Aside0.mk hr0
 clear hr0 hc0
 have HB := Aside0.mk (Below.refl w.heap.size w)
 have H : (if (wrap64 (a1 - (l0.length : Int))) < 0 then (some (-1)) else (laws_szMetricLimitS.l0 k l0 (wrap64 (a1 - (l0.length : Int))) 0)) = some r := h
 clear h
 by_cases c3 : (wrap64 (a1 - (l0.length : Int))) < 0
 ·rw [if_pos c3] at H
  have c3b0 : decide ((wrap64 (a1 - (l0.length : Int))) < 0) = true := decide_eq_true c3
  clear c3
  obtain rfl := Option.some.inj H
  go_enter Tryz.func146, Tryz.ntmps146
  go_wp2
  go_ret
  exact ⟨by rfl, by repeat ((with_reducible exact HB.out))⟩
 ·rw [if_neg c3] at H
  have c3b0 : decide ((wrap64 (a1 - (l0.length : Int))) < 0) = false := decide_eq_false c3
  clear c3
  have H' := Aside0.mk H
  clear H
  go_enter Tryz.func146, Tryz.ntmps146
  go_wp2
  go_loopg [1, 5] k (fun kq v1 v5 w' => ∃ (x1_1 : Int) (x5_1 : Int), v1 = .int .i64 x1_1 ∧ v5 = .int .i64 x5_1 ∧ Aside0 (laws_szMetricLimitS.l0 kq l0 x1_1 x5_1 = some r) ∧ Aside0 (kq ≤ k) ∧ Aside0 (Below w.heap.size w w'))
  case atStart => exact ⟨(wrap64 (a1 - (l0.length : Int))), (0), (by rfl), (by rfl), H', ⟨Nat.le_refl _⟩, ⟨by repeat ((with_reducible exact HB.out))⟩⟩
  case round =>
   clear H'
   try clear c3b0
   obtain ⟨x1_1, x5_1, rfl, rfl, HA, HK1, HB⟩ := hrel
   cases gk with
   | zero => exact absurd HA.out (by simp [laws_szMetricLimitS.l0])
   | succ k1 =>
    have H := HA.out
    clear HA
    simp only [laws_szMetricLimitS.l0] at H
    by_cases c4 : x5_1 < (l0.length : Int)
    ·rw [if_pos c4] at H
     have c4b0 : decide (x5_1 < (l0.length : Int)) = true := decide_eq_true c4
     clear c4
     by_cases c5 : 0 ≤ x5_1
     ·rw [if_pos c5] at H
      have c5b0 : decide (0 ≤ x5_1) = true := decide_eq_true c5
      clear c5
      replace H := Option.bind_eq_some_iff.mp H
      obtain ⟨t103, A60, H⟩ := H
      replace H : (if t103 < 0 then (some (-1)) else (laws_szMetricLimitS.l0 k1 l0 t103 (wrap64 (x5_1 + 1)))) = some r := H
      have A6 := Aside0.mk A60
      clear A60
      by_cases c7 : t103 < 0
      ·rw [if_pos c7] at H
       have c7b0 : decide (t103 < 0) = true := decide_eq_true c7
       clear c7
       obtain rfl := Option.some.inj H
       have p102 : 0 ≤ (x5_1 : Int) := of_decide_eq_true (by (with_reducible assumption))
       have q102 : x5_1 < (l0.length : Int) := of_decide_eq_true (by (with_reducible assumption))
       obtain ⟨ad102, e102, hx102_0, hx102_1⟩ := at_T223 HR0.out x5_1 p102 q102
       cases e102
       replace hx102_0 := (HB.out.cell (World.block_lt_of_cell? w _ hx102_0)).trans hx102_0
       replace hx102_1 := (HB.out.cell (World.block_lt_of_cell? w _ hx102_1)).trans hx102_1
       replace p102 := eq_true p102
       replace q102 := eq_true q102
       go_wp2_with (((with_reducible refine gate_callee (f := 166) rfl ?_); refine goesL_ (some 23) rfl rfl Tryz.func166 (by kernel_rfl) rfl #[.agg #[.string ((rd_T223 l0 x5_1).f0), .int .i64 ((rd_T223 l0 x5_1).f1)], .int .i64 x1_1] rfl (by (try simp only [List.map_toArray, List.map_cons, List.map_nil]); first | done | rfl) ?_; (with_reducible refine (laws_szMetricLimit.calls ((rd_T223 l0 x5_1).f0) ((rd_T223 l0 x5_1).f1) x1_1 t103 _ A6.out).mono ?_); rintro e w8 ⟨rfl, hb⟩; refine ⟨_, rfl, ?_⟩; have n0_ := Aside0.mk (below_step (by repeat ((with_reducible exact HB.out))) hb); clear HB; have HB := n0_; clear n0_; (try clear hb)))
       go_ret
       exact ⟨by rfl, by repeat ((with_reducible exact HB.out))⟩
      ·rw [if_neg c7] at H
       have c7b0 : decide (t103 < 0) = false := decide_eq_false c7
       clear c7
       have H' := Aside0.mk H
       clear H
       have p102 : 0 ≤ (x5_1 : Int) := of_decide_eq_true (by (with_reducible assumption))
       have q102 : x5_1 < (l0.length : Int) := of_decide_eq_true (by (with_reducible assumption))
       obtain ⟨ad102, e102, hx102_0, hx102_1⟩ := at_T223 HR0.out x5_1 p102 q102
       cases e102
       replace hx102_0 := (HB.out.cell (World.block_lt_of_cell? w _ hx102_0)).trans hx102_0
       replace hx102_1 := (HB.out.cell (World.block_lt_of_cell? w _ hx102_1)).trans hx102_1
       replace p102 := eq_true p102
       replace q102 := eq_true q102
       go_wp2_with (((with_reducible refine gate_callee (f := 166) rfl ?_); refine goesL_ (some 23) rfl rfl Tryz.func166 (by kernel_rfl) rfl #[.agg #[.string ((rd_T223 l0 x5_1).f0), .int .i64 ((rd_T223 l0 x5_1).f1)], .int .i64 x1_1] rfl (by (try simp only [List.map_toArray, List.map_cons, List.map_nil]); first | done | rfl) ?_; (with_reducible refine (laws_szMetricLimit.calls ((rd_T223 l0 x5_1).f0) ((rd_T223 l0 x5_1).f1) x1_1 t103 _ A6.out).mono ?_); rintro e w9 ⟨rfl, hb⟩; refine ⟨_, rfl, ?_⟩; have n0_ := Aside0.mk (below_step (by repeat ((with_reducible exact HB.out))) hb); clear HB; have HB := n0_; clear n0_; (try clear hb)))
       go_roundg k1
       case measure => have := HK1.out; omega
       case rel => exact ⟨(t103), (wrap64 (x5_1 + 1)), (by rfl), (by rfl), H', ⟨by have := HK1.out; omega⟩, ⟨by repeat ((with_reducible exact HB.out))⟩⟩
     ·rw [if_neg c5] at H
      exact absurd H (by simp)
    ·rw [if_neg c4] at H
     have c4b0 : decide (x5_1 < (l0.length : Int)) = false := decide_eq_false c4
     clear c4
     obtain rfl := Option.some.inj H
     go_wp2
     go_ret
     exact ⟨by rfl, by repeat ((with_reducible exact HB.out))⟩
end Go.Proofs.YtikbfjnbhogihaaGreatDoor.M
