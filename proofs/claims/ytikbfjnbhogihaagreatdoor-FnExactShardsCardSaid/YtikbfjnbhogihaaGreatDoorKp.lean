import Derived.Test.YtikbfjnbhogihaaGreatDoorM0
import Derived.BigQuiet
import Derived.Deep.Quiet
import Derived.WalkKit
import Derived.Test.YtikbfjnbhogihaaGreatDoorWWords
import Derived.Test.YtikbfjnbhogihaaGreatDoorF102
/- What stands in blocks of a world that a call has made, and that nothing else of the elder world has turned: one word, and its laws. -/
namespace Go.Proofs.YtikbfjnbhogihaaGreatDoor.M
open Go.RowKit Go.Proofs.YtikbfjnbhogihaaGreatDoorW.PrintWords Go.Proofs.YtikbfjnbhogihaaGreatDoorW.PrintLast Go.Proofs.YtikbfjnbhogihaaGreatDoorW.PrintMore
structure Kp (w W : World) (L : List (Nat × Obj)) : Prop where
 bel : Below w.heap.size w W
 has : ∀ p ∈ L, W.heap[p.1]? = some p.2
namespace Kp
variable {w W W' : World} {L : List (Nat × Obj)}
theorem start (w : World) : Kp w w [] := ⟨Below.refl _ _, fun _ h => by cases h⟩
theorem step (h : Kp w W L) (hb : Below W.heap.size W W') : Kp w W' L := ⟨below_step h.bel hb, fun p hp => blk_below (h.has p hp) hb⟩
theorem new (h : Kp w W L) (o : Obj) : Kp w (W.alloc o) ((W.heap.size, o) :: L) :=
 ⟨below_alloc h.bel o, fun p hp => by
  rcases List.mem_cons.1 hp with rfl | hp
  ·exact blk_new W o
  ·exact blk_alloc (h.has p hp) o⟩
theorem alloc (h : Kp w W L) (o : Obj) : Kp w (W.alloc o) L := ⟨below_alloc h.bel o, fun p hp => blk_alloc (h.has p hp) o⟩
theorem drewN (h : Kp w W L) (n : Nat) : Kp w (W.drewN n) L := ⟨pw_below_drewN h.bel n, h.has⟩
theorem drew (h : Kp w W L) : Kp w W.drew L := ⟨below_drew1 h.bel, h.has⟩
theorem sub (h : Kp w W L) {L' : List (Nat × Obj)} (hs : ∀ p ∈ L', p ∈ L) : Kp w W L' := ⟨h.bel, fun p hp => h.has p (hs p hp)⟩
theorem fst {p : Nat × Obj} (h : Kp w W (p :: L)) : W.heap[p.1]? = some p.2 := h.has p List.mem_cons_self
theorem tl {p : Nat × Obj} (h : Kp w W (p :: L)) : Kp w W L := h.sub fun _ hq => List.mem_cons_of_mem _ hq
theorem far (h : Kp w W L) {g j : Nat} (hg : w.heap.size ≤ g) (hn : ∀ p ∈ L, p.1 ≠ g) (v : Value) : Kp w (W.setCell ⟨g, j, none⟩ v) L :=
 ⟨below_set h.bel hg, fun p hp => (Below.heap_setCell W ⟨g, j, none⟩ v p.1 (hn p hp)).trans (h.has p hp)⟩
theorem ne_of_lt {g : Nat} (h : ∀ p ∈ L, W.heap[p.1]? = some p.2) (hg : W.heap.size ≤ g) : ∀ p ∈ L, p.1 ≠ g := fun p hp e => by
 have := blk_lt (h p hp); omega
structure Cls (w : World) (L : List (Nat × Obj)) where
 at_ : World
 kp : Kp w at_ L
theorem region {P : Program} {id : Nat} {Q : Exit → Act → World → Prop} {a : Act} {w w0 : World} {L : List (Nat × Obj)} {l : List Oper} (hm : P.follows .mixedOrders = true) (hB : Region.lexB .any l.toArray = true) (hK : Kp w w0 L)
  (h : wpQuiet P l.toArray (fun w' => ∃ n : Cls w L, w' = n.at_) (fun a' => ∀ w', (∃ n : Cls w L, w' = n.at_) → Q .normal a' w') l a) : (Code.region id l.toArray true).wp P Q a w0 :=
 wp_region_quiet (C := fun w' => ∃ n : Cls w L, w' = n.at_) hm hB ⟨⟨_, hK.drew⟩, rfl⟩ (by simpa using h)
theorem call {P : Program} {f : FuncId} {args : Array Value} {w : World} {L : List (Nat × Obj)} {v : Value} (n : Cls w L) (h : Calls P f args n.at_ fun e w' => e = .returned v ∧ Below n.at_.heap.size n.at_ w') :
  Calls P f args n.at_ fun e w' => e = .returned v ∧ ∃ m : Cls w L, w' = m.at_ :=
 h.mono fun _ w' ⟨he, hb⟩ => ⟨he, ⟨w', n.kp.step hb⟩, rfl⟩
end Kp
theorem below_drawn0 {w w' : World} (h : Drawn0 w w') : Below w.heap.size w w' := by
 obtain ⟨n, rfl⟩ := h
 exact pw_below_drewN (Below.refl _ _) n
end Go.Proofs.YtikbfjnbhogihaaGreatDoor.M
/- impl.join: texts, one behind the other. -/
namespace Go.Proofs.YtikbfjnbhogihaaGreatDoor.M
open Go.RowKit Go.Proofs.YtikbfjnbhogihaaGreatDoorW.PrintWords Go.Proofs.YtikbfjnbhogihaaGreatDoorW.PrintLast Go.Proofs.YtikbfjnbhogihaaGreatDoorW.PrintMore
set_option linter.unusedVariables false
set_option linter.unusedSimpArgs false
namespace Jn
theorem join_empty (xs : List (List UInt8)) : Lib.join xs [] = xs.flatten := by
 unfold Lib.join
 induction xs with
 | nil => rfl
 | cons x xs ih => cases xs with
  | nil => simp [List.intercalate]
  | cons y ys => simp [List.intercalate, List.intersperse] at ih ⊢; exact ih
def cat (xs : List ByteArray) : List UInt8 := (xs.map (·.data.toList)).flatten
end Jn
def impl_join.f (l0 : List ByteArray) : Option (ByteArray × List ByteArray) := if (Jn.cat l0).length ≤ 140737488355328 ∧ l0.length ≤ 140737488355328 then some (⟨(Jn.cat l0).toArray⟩, l0) else none
set_option maxHeartbeats 1000000 in
theorem impl_join.calls (P0 : Nat → Prop) (u : Value) (l0 : List ByteArray) (r1 : ByteArray) (r2 : List ByteArray) (w0 w : World) (hB : Below w0.heap.size w0 w) (ho : Kd.R Kd.string 9 w w0.heap.size P0 u l0) (h : impl_join.f l0 = some (r1, r2)) :
  Calls Tryz.prog 163 #[u] w fun e w' => e = .returned (.string r1) ∧ Kd.R Kd.string 9 w' w0.heap.size (fun k => P0 k ∨ w.heap.size ≤ k) u r2 ∧ Below w0.heap.size w0 w' ∧ Kept w w' (fun k => P0 k) := by
 unfold impl_join.f at h
 by_cases hz : (Jn.cat l0).length ≤ 140737488355328 ∧ l0.length ≤ 140737488355328
 ·rw [if_pos hz] at h
  obtain ⟨rfl, rfl⟩ := Prod.mk.inj (Option.some.inj h)
  have hj : Lib.join (l0.map (·.data.toList)) (⟨#[]⟩ : ByteArray).data.toList = Jn.cat l0 := Jn.join_empty _
  have HJ := Aside0.mk hj
  have HO := Aside0.mk ho
  have HB := Aside0.mk hB
  clear hj h hB
  obtain ⟨A, c, rfl⟩ := Kd.R_slice ho
  have hrd := Kd.R_reads' ho
  have HC := Aside0.mk hrd.2.2
  have hc := hrd.2.1
  clear ho hrd
  cases l0 with
  | nil =>
   go_enter Tryz.func163, Tryz.ntmps163
   go_wp2_with fail
   refine (Tryz.strings_Join_none A c ⟨#[]⟩ _).mono ?_
   rintro e w' ⟨rfl, rfl⟩
   go_wp2_with fail
   go_ret
   exact ⟨rfl, Kd.R_mono HO.out (fun _ hk => .inl hk), HB.out, Kept.refl _ _⟩
  | cons x l =>
   obtain ⟨g, cap, e, _, hglt, _⟩ := Kd.R_form HO.out (by simp)
   injection e with eA _ ec
   subst eA
   have hcells : ∀ (j : Nat) y, (x :: l)[j]? = some y → w.cell? ⟨g, 0 + j, none⟩ = some (.string y) := by
    intro j y hy
    have hlt : j < (x :: l).length := (List.getElem?_eq_some_iff.1 hy).1
    obtain ⟨ad', e', hcc⟩ := Kd.at_string HC.out (j : Int) (by omega) (by omega)
    obtain rfl := Option.some.inj e'
    rw [Int.toNat_natCast] at hcc
    have e2 : rdOf ByteArray.empty (x :: l) (j : Int) = y := by
     unfold rdOf
     rw [Int.toNat_natCast, List.getD_eq_getElem?_getD, hy]; rfl
    rw [e2, add_plain] at hcc
    rw [Nat.zero_add]
    exact hcc
   have HCell := Aside0.mk hcells
   clear hcells ec
   go_enter Tryz.func163, Tryz.ntmps163
   go_wp2_with fail
   refine (Tryz.strings_Join g 0 c (x :: l) ⟨#[]⟩ _ HCell.out hglt hz.2 hc (by rw [HJ.out]; exact hz.1)).mono ?_
   rintro e w' ⟨he, hb⟩
   rw [HJ.out] at he
   subst he
   have HB2 := Aside0.mk hb
   clear hb
   go_wp2_with fail
   go_ret
   exact ⟨rfl, Kd.R_mono (Kd.R_below HO.out HB2.out) (fun _ hk => .inl hk), below_then HB.out HB.out.size HB2.out, Kept.of_below HB2.out _⟩
 ·rw [if_neg hz] at h; cases h
end Go.Proofs.YtikbfjnbhogihaaGreatDoor.M
/- Plain laws of loops, as the printed functions have them: what fills a list, what compares two, what counts sizes down. No program. -/
namespace Go.Proofs.YtikbfjnbhogihaaGreatDoor.Loops
open Go.RowKit Go.Proofs.YtikbfjnbhogihaaGreatDoorW.PrintWords
theorem w_succ (j : Nat) (h : j < 9223372036854775807) : wrap64 ((j : Int) + 1) = ((j + 1 : Nat) : Int) := by unfold wrap64; omega
theorem w_id (x : Int) (h0 : -9223372036854775808 ≤ x) (h1 : x ≤ 9223372036854775807) : wrap64 x = x := by unfold wrap64; omega
theorem Ev.eq {α : Type} {g : Nat → Option α} {a b : α} (h1 : Ev g a) (e : a = b) : Ev g b := e ▸ h1
theorem Ev.ite_pos {α : Type} {c : Prop} [Decidable c] {f g : Nat → Option α} {r : α} (hc : c) (h : Ev f r) : Ev (fun k => if c then f k else g k) r := by
 simp only [if_pos hc]; exact h
theorem Ev.ite_neg {α : Type} {c : Prop} [Decidable c] {f g : Nat → Option α} {r : α} (hc : ¬ c) (h : Ev g r) : Ev (fun k => if c then f k else g k) r := by
 simp only [if_neg hc]; exact h
/-! ### a list is filled from another -/
section
variable {α β γ : Type}
theorem fill_loop (L : Nat → List α → List β → Int → Option (List β)) (conv : Nat → α → Option γ) (mk : γ → β) (d : α)
  (hL : ∀ k x y i, L (k + 1) x y i = if i < (x.length : Int) then (if 0 ≤ i then ((conv k (x.getD i.toNat d)).bind fun c => if i < (y.length : Int) then L k x (y.set i.toNat (mk c)) (wrap64 (i + 1)) else none) else none) else some y)
  (c : α → γ) (x : List α) (hn : x.length < 9223372036854775807) (hc : ∀ a ∈ x, Ev (fun k => conv k a) (c a)) :
  ∀ (m j : Nat) (y : List β), j + m = x.length → y.length = x.length → Ev (fun k => L k x y (j : Int)) (y.take j ++ (x.drop j).map (fun a => mk (c a))) := by
 intro m
 induction m with
 | zero =>
  intro j y hj hy
  refine Ev.step (f := fun _ => some y) (fun k => by rw [hL, if_neg (by omega)]) ?_
  refine Ev.eq (Ev.now _) ?_
  rw [List.drop_eq_nil_of_le (by omega), List.take_of_length_le (by omega)]; simp
 | succ m ih =>
  intro j y hj hy
  have hjl : j < x.length := by omega
  have hget : x.getD j d = x[j] := by rw [List.getD_eq_getElem?_getD, List.getElem?_eq_getElem hjl]; rfl
  have hcj := hc x[j] (List.getElem_mem hjl)
  refine Ev.step (f := fun k => (conv k x[j]).bind fun c => L k x (y.set j (mk c)) ((j + 1 : Nat) : Int)) (fun k => by
   rw [hL, if_pos (by omega), if_pos (by omega), Int.toNat_natCast, hget, w_succ j (by omega)]
   congr 1; funext c; rw [if_pos (by omega)]) ?_
  refine Ev.bind hcj (Ev.eq (ih (j + 1) (y.set j (mk (c x[j]))) (by omega) (by simpa using hy)) ?_)
  rw [List.drop_eq_getElem_cons hjl, List.map_cons, List.take_set, List.take_add_one, List.getElem?_eq_getElem (by omega)]
  simp only [Option.toList_some]
  rw [List.set_append_right _ _ (by rw [List.length_take]; omega), List.length_take, Nat.min_eq_left (by omega), Nat.sub_self]
  simp
theorem fill_all (L : Nat → List α → List β → Int → Option (List β)) (conv : Nat → α → Option γ) (mk : γ → β) (d : α) (z : β)
  (hL : ∀ k x y i, L (k + 1) x y i = if i < (x.length : Int) then (if 0 ≤ i then ((conv k (x.getD i.toNat d)).bind fun c => if i < (y.length : Int) then L k x (y.set i.toNat (mk c)) (wrap64 (i + 1)) else none) else none) else some y)
  (c : α → γ) (x : List α) (hn : x.length < 9223372036854775807) (hc : ∀ a ∈ x, Ev (fun k => conv k a) (c a)) :
  Ev (fun k => L k x (List.replicate x.length z) 0) (x.map fun a => mk (c a)) := by
 have := fill_loop L conv mk d hL c x hn hc x.length 0 (List.replicate x.length z) (by omega) (by simp)
 simpa using this
end
/-! ### two lists are compared -/
section
variable {α : Type}
theorem all_loop (L : Nat → List α → List α → Int → Option Bool) (cmp : Nat → α → α → Option Bool) (d : α)
  (hL : ∀ k x y i, L (k + 1) x y i = if i < (x.length : Int) then (if 0 ≤ i then (if i < (y.length : Int) then ((cmp k (x.getD i.toNat d) (y.getD i.toNat d)).bind fun t => if t = true then L k x y (wrap64 (i + 1)) else some false) else none) else none) else some true)
  (x : List α) (hn : x.length < 9223372036854775807) (hc : ∀ a ∈ x, Ev (fun k => cmp k a a) true) :
  ∀ (m j : Nat), j + m = x.length → Ev (fun k => L k x x (j : Int)) true := by
 intro m
 induction m with
 | zero =>
  intro j hj
  exact Ev.step (f := fun _ => some true) (fun k => by rw [hL, if_neg (by omega)]) (Ev.now _)
 | succ m ih =>
  intro j hj
  have hjl : j < x.length := by omega
  have hget : x.getD j d = x[j] := by rw [List.getD_eq_getElem?_getD, List.getElem?_eq_getElem hjl]; rfl
  refine Ev.step (f := fun k => (cmp k x[j] x[j]).bind fun t => if t = true then L k x x ((j + 1 : Nat) : Int) else some false) (fun k => by
   rw [hL, if_pos (by omega), if_pos (by omega), if_pos (by omega), Int.toNat_natCast, hget, w_succ j (by omega)]) ?_
  refine Ev.bind (hc x[j] (List.getElem_mem hjl)) ?_
  simp only [if_true]
  exact ih (j + 1) (by omega)
end
/-! ### sizes are counted down -/
section
variable {α : Type}
def total (wt : α → Nat) (x : List α) : Nat := (x.map wt).foldr (· + ·) 0
theorem total_cons (wt : α → Nat) (a : α) (x : List α) : total wt (a :: x) = wt a + total wt x := rfl
theorem wt_le_total (wt : α → Nat) (x : List α) : ∀ a ∈ x, wt a ≤ total wt x := by
 induction x with
 | nil => intro a h; cases h
 | cons b x ih =>
  intro a h
  rw [total_cons]
  rcases List.mem_cons.1 h with rfl | h
  ·omega
  ·have := ih a h; omega
theorem sz_loop (L : Nat → List α → Int → Int → Option Int) (g : Nat → α → Int → Option Int) (d : α) (wt : α → Nat)
  (hL : ∀ k x a i, L (k + 1) x a i = if i < (x.length : Int) then (if 0 ≤ i then ((g k (x.getD i.toNat d) a).bind fun t => if t < 0 then some (-1) else L k x t (wrap64 (i + 1))) else none) else some a)
  (x : List α) (hn : x.length < 9223372036854775807)
  (hg : ∀ e ∈ x, ∀ a : Int, 0 ≤ a → a ≤ 1048576 → ∃ t, Ev (fun k => g k e a) t ∧ (0 ≤ t → t = a - wt e)) :
  ∀ (m j : Nat) (a : Int), j + m = x.length → 0 ≤ a → a ≤ 1048576 → ∃ t, Ev (fun k => L k x a (j : Int)) t ∧ (0 ≤ t → t = a - total wt (x.drop j)) := by
 intro m
 induction m with
 | zero =>
  intro j a hj h0 h1
  refine ⟨a, Ev.step (f := fun _ => some a) (fun k => by rw [hL, if_neg (by omega)]) (Ev.now _), fun _ => ?_⟩
  rw [List.drop_eq_nil_of_le (by omega)]; simp [total]
 | succ m ih =>
  intro j a hj h0 h1
  have hjl : j < x.length := by omega
  have hget : x.getD j d = x[j] := by rw [List.getD_eq_getElem?_getD, List.getElem?_eq_getElem hjl]; rfl
  obtain ⟨t, ht, hw⟩ := hg x[j] (List.getElem_mem hjl) a h0 h1
  have step : ∀ r, Ev (fun k => if t < 0 then some (-1) else L k x t ((j + 1 : Nat) : Int)) r → Ev (fun k => L k x a (j : Int)) r := by
   intro r hr
   refine Ev.step (f := fun k => (g k x[j] a).bind fun t => if t < 0 then some (-1) else L k x t ((j + 1 : Nat) : Int)) (fun k => by
    rw [hL, if_pos (by omega), if_pos (by omega), Int.toNat_natCast, hget, w_succ j (by omega)]) (Ev.bind ht hr)
  by_cases hneg : t < 0
  ·exact ⟨-1, step _ (by simp only [if_pos hneg]; exact Ev.now _), fun h => by omega⟩
  ·obtain ⟨r, hr, hr2⟩ := ih (j + 1) t (by omega) (by omega) (by have := hw (by omega); omega)
   refine ⟨r, step _ (by simp only [if_neg hneg]; exact hr), fun h => ?_⟩
   rw [hr2 h, hw (by omega), List.drop_eq_getElem_cons hjl, total_cons]
   omega
end
end Go.Proofs.YtikbfjnbhogihaaGreatDoor.Loops
namespace Go.Proofs.YtikbfjnbhogihaaGreatDoor.M
open Go.RowKit Go.Proofs.YtikbfjnbhogihaaGreatDoorW.PrintWords Go.Proofs.YtikbfjnbhogihaaGreatDoorW.PrintLast Go.Proofs.YtikbfjnbhogihaaGreatDoorW.PrintMore
attribute [local go_sem] max2_int min2_int max_two min_two max_three min_three max_four min_four
set_option linter.unusedVariables false
set_option linter.unusedSimpArgs false
/-! ### laws_heldStringS: function 73 -/
def laws_heldStringS.l0 : Nat → List ByteArray → Int → Int → Option (Int)
 | 0, _, _, _ => none
 | k + 1, x0, x1, x5 => if x5 < (x0.length : Int) then (if 0 ≤ x5 then ((laws_markText.f k x1).bind fun t491 => (if (rdOf ByteArray.empty x0 x5).toList = t491.toList then (laws_heldStringS.l0 k x0 (wrap64 (x1 + 1)) (wrap64 (x5 + 1))) else (some (-1)))) else (none)) else (some x1)
def laws_heldStringS.f (k : Nat) (l0 : List ByteArray) (a1 : Int) : Option (Int) := laws_heldStringS.l0 k l0 a1 0
set_option maxHeartbeats 8000000 in
set_option maxRecDepth 100000 in
theorem laws_heldStringS.calls (k : Nat) (A0 : Option Addr) (c0 : Nat) (l0 : List ByteArray) (a1 : Int) (r : Int) (w : World) (hr0 : Kd.C Kd.string w A0 l0.length l0) (hc0 : l0.length ≤ c0) (h : laws_heldStringS.f k l0 a1 = some r) :
  Calls Tryz.prog 73 #[.slice A0 l0.length c0, .int .i64 a1] w fun e w' => e = .returned (.int .i64 r) ∧ Below w.heap.size w w' := by
 have HR0 := Aside0.mk hr0
 have HC0 := Aside0.mk hc0
 clear hr0 hc0
 have HB := Aside0.mk (Below.refl w.heap.size w)
 have H : (laws_heldStringS.l0 k l0 a1 0) = some r := h
 clear h
 have H' := Aside0.mk H
 clear H
 go_enter Tryz.func73, Tryz.ntmps73
 go_wp2
 go_loopg [1, 5] k (fun kq v1 v5 w' => ∃ (x1_1 : Int) (x5_1 : Int), v1 = .int .i64 x1_1 ∧ v5 = .int .i64 x5_1 ∧ Aside0 (laws_heldStringS.l0 kq l0 x1_1 x5_1 = some r) ∧ Aside0 (kq ≤ k) ∧ Aside0 (Below w.heap.size w w'))
 case atStart => exact ⟨(a1), (0), (by first | rfl | (simp; done) | (simp [*]; done)), (by first | rfl | (simp; done) | (simp [*]; done)), H', ⟨Nat.le_refl _⟩, ⟨by repeat (first | (with_reducible first | exact HB.out | apply below_alloc | apply pw_below_drewN | apply below_drew1) | exact HB.out)⟩⟩
 case round =>
  clear H'
  try clear p2
  obtain ⟨x1_1, x5_1, rfl, rfl, HA, HK1, HB⟩ := hrel
  cases gk with
  | zero => exact absurd HA.out (by simp [laws_heldStringS.l0])
  | succ k1 =>
   have H := HA.out
   clear HA
   simp only [laws_heldStringS.l0] at H
   by_cases c3 : x5_1 < (l0.length : Int)
   ·rw [if_pos c3] at H
    have c3b0 : decide (x5_1 < (l0.length : Int)) = true := decide_eq_true c3
    clear c3
    by_cases c4 : 0 ≤ x5_1
    ·rw [if_pos c4] at H
     have c4b0 : decide (0 ≤ x5_1) = true := decide_eq_true c4
     clear c4
     replace H := Option.bind_eq_some_iff.mp H
     obtain ⟨t491, A50, H⟩ := H
     replace H : (if (rdOf ByteArray.empty l0 x5_1).toList = t491.toList then (laws_heldStringS.l0 k1 l0 (wrap64 (x1_1 + 1)) (wrap64 (x5_1 + 1))) else (some (-1))) = some r := H
     have A5 := Aside0.mk A50
     clear A50
     by_cases c6 : (rdOf ByteArray.empty l0 x5_1).toList = t491.toList
     ·rw [if_pos c6] at H
      have c6b0 : ((rdOf ByteArray.empty l0 x5_1).toList == t491.toList) = true := beq_iff_eq.mpr c6
      have c6b1 : ((rdOf ByteArray.empty l0 x5_1).toList != t491.toList) = false := bne_eq_false_iff_eq.mpr c6
      clear c6
      have H' := Aside0.mk H
      clear H
      try go_wp2
      have n0_ := Aside0.mk (below_drew1 HB.out)
      clear HB
      have HB := n0_
      clear n0_
      have p490 : 0 ≤ (x5_1 : Int) := of_decide_eq_true (by first | (with_reducible assumption) | assumption)
      have q490 : x5_1 < (l0.length : Int) := of_decide_eq_true (by first | (with_reducible assumption) | assumption)
      obtain ⟨ad490, e490, hx490_0⟩ := Kd.at_string HR0.out x5_1 p490 q490
      have hw490_0 := hx490_0
      cases e490
      replace hx490_0 := (HB.out.cell (World.block_lt_of_cell? w _ hx490_0)).trans hx490_0
      replace p490 := eq_true p490
      replace q490 := eq_true q490
      refine start_ (n := 7) (S := fun w' => w'.cell? (ad490.add (x5_1).toNat) = some (.string (rdOf ByteArray.empty l0 x5_1))) (ds := []) #[false, false, false, false, false, false, false] (by kernel_rfl) rfl rfl (((HB.out.cell (World.block_lt_of_cell? w _ hw490_0)).trans hw490_0)) (fun hHeld => ?_)
      generalize wr.drew = w7 at HB hx490_0 hHeld ⊢
      refine pure_ (i := 0) (N := some 12) (v := ?_) (a' := ?_) #[true, false, false, false, false, false, false] rfl rfl (by kernel_rfl) (fun _ _ _ h => h) (Or.inl ⟨by rfl, ?_⟩) ?_ ?_
      rotate_left
      ·intro w'
       go_simp
       with_reducible rfl
      rotate_left
      ·simp only [Act.put, List.setIfInBounds_toArray, List.set_cons_zero, List.set_cons_succ, i64_w, i32_w]
       rfl
      refine pure_ (i := 1) (N := some 13) (v := ?_) (a' := ?_) #[true, true, false, false, false, false, false] rfl rfl (by kernel_rfl) (fun _ _ _ h => h) (Or.inl ⟨by rfl, ?_⟩) ?_ ?_
      rotate_left
      ·intro w'
       go_simp
       with_reducible rfl
      rotate_left
      ·simp only [Act.put, List.setIfInBounds_toArray, List.set_cons_zero, List.set_cons_succ, i64_w, i32_w]
       rfl
      refine pure_ (i := 2) (N := some 14) (v := ?_) (a' := ?_) #[true, true, true, false, false, false, false] rfl rfl (by kernel_rfl) (fun _ _ _ h => h) (Or.inl ⟨by rfl, ?_⟩) ?_ ?_
      rotate_left
      ·intro w'
       go_simp
       with_reducible rfl
      rotate_left
      ·simp only [Act.put, List.setIfInBounds_toArray, List.set_cons_zero, List.set_cons_succ, i64_w, i32_w]
       rfl
      refine pure_ (i := 4) (N := some 16) (v := ?_) (a' := ?_) #[true, true, true, false, true, false, false] rfl rfl (by kernel_rfl) (fun _ _ _ h => h) (Or.inl ⟨by rfl, ?_⟩) ?_ ?_
      rotate_left
      ·intro w'
       go_simp
       with_reducible rfl
      rotate_left
      ·simp only [Act.put, List.setIfInBounds_toArray, List.set_cons_zero, List.set_cons_succ, i64_w, i32_w]
       rfl
      refine take_ (i := 3) (N := some 15) (v := ?_) (a' := ?_) #[true, true, true, true, true, false, false] rfl rfl (by kernel_rfl) (fun _ _ _ h => h) (Or.inl ⟨by rfl, ?_⟩) hHeld ?_ ?_
      rotate_left
      ·intro w' s0
       go_simp
       with_reducible rfl
      rotate_left
      ·simp only [Act.put, List.setIfInBounds_toArray, List.set_cons_zero, List.set_cons_succ, i64_w, i32_w]
       rfl
      refine one_ (i := 5) (N := some 17) #[true, true, true, true, true, true, false] rfl rfl (by kernel_rfl) (by decide) (fun K hK => ?_)
      refine goes_ Tryz.func102 (by kernel_rfl) rfl #[.int .i64 x1_1] (by rfl) rfl rfl (by (try simp only [List.map_toArray, List.map_cons, List.map_nil]); first | done | rfl | (simp only [List.length_drop, List.length_take]; rfl)) ?_
      with_reducible refine (laws_markText.calls k1 x1_1 t491 _ A5.out).mono ?_
      rintro e w8 ⟨rfl, hb⟩
      refine ⟨_, rfl, ?_⟩
      have n0_ := Aside0.mk (below_step (by repeat (first | (with_reducible first | exact HB.out | apply below_alloc | apply pw_below_drewN | apply below_drew1) | exact HB.out)) hb)
      clear HB
      have HB := n0_
      clear n0_
      (try clear hb)
      (try clear hb2)
      (try clear hk)
      (try clear hi)
      refine hK.out _ _ (((HB.out.cell (World.block_lt_of_cell? w _ hw490_0)).trans hw490_0)) (fun hHeld => ?_)
      clear hK K
      refine norm_ (a' := ?_) ?_ ?_
      rotate_left
      ·show Act.put _ (some 17) _ = _
       simp only [Act.put, List.setIfInBounds_toArray, List.set_cons_zero, List.set_cons_succ, i64_w, i32_w]
       rfl
      refine pure_ (i := 6) (N := some 18) (v := ?_) (a' := ?_) #[true, true, true, true, true, true, true] rfl rfl (by kernel_rfl) (fun _ _ _ h => h) (Or.inl ⟨by rfl, ?_⟩) ?_ ?_
      rotate_left
      ·intro w'
       go_simp
       with_reducible rfl
      rotate_left
      ·simp only [Act.put, List.setIfInBounds_toArray, List.set_cons_zero, List.set_cons_succ, i64_w, i32_w]
       rfl
      refine done_ (by kernel_rfl) ?_
      try go_wp2
      go_roundg k1
      case measure => have := HK1.out; omega
      case rel => exact ⟨(wrap64 (x1_1 + 1)), (wrap64 (x5_1 + 1)), (by first | rfl | (simp; done) | (simp [*]; done)), (by first | rfl | (simp; done) | (simp [*]; done)), H', ⟨by have := HK1.out; omega⟩, ⟨by repeat (first | (with_reducible first | exact HB.out | apply below_alloc | apply pw_below_drewN | apply below_drew1) | exact HB.out)⟩⟩
     ·rw [if_neg c6] at H
      have c6b0 : ((rdOf ByteArray.empty l0 x5_1).toList == t491.toList) = false := beq_eq_false_iff_ne.mpr c6
      have c6b1 : ((rdOf ByteArray.empty l0 x5_1).toList != t491.toList) = true := bne_iff_ne.mpr c6
      obtain rfl := Option.some.inj H
      try go_wp2
      have n0_ := Aside0.mk (below_drew1 HB.out)
      clear HB
      have HB := n0_
      clear n0_
      have p490 : 0 ≤ (x5_1 : Int) := of_decide_eq_true (by first | (with_reducible assumption) | assumption)
      have q490 : x5_1 < (l0.length : Int) := of_decide_eq_true (by first | (with_reducible assumption) | assumption)
      obtain ⟨ad490, e490, hx490_0⟩ := Kd.at_string HR0.out x5_1 p490 q490
      have hw490_0 := hx490_0
      cases e490
      replace hx490_0 := (HB.out.cell (World.block_lt_of_cell? w _ hx490_0)).trans hx490_0
      replace p490 := eq_true p490
      replace q490 := eq_true q490
      refine start_ (n := 7) (S := fun w' => w'.cell? (ad490.add (x5_1).toNat) = some (.string (rdOf ByteArray.empty l0 x5_1))) (ds := []) #[false, false, false, false, false, false, false] (by kernel_rfl) rfl rfl (((HB.out.cell (World.block_lt_of_cell? w _ hw490_0)).trans hw490_0)) (fun hHeld => ?_)
      generalize wr.drew = w9 at HB hx490_0 hHeld ⊢
      refine pure_ (i := 0) (N := some 12) (v := ?_) (a' := ?_) #[true, false, false, false, false, false, false] rfl rfl (by kernel_rfl) (fun _ _ _ h => h) (Or.inl ⟨by rfl, ?_⟩) ?_ ?_
      rotate_left
      ·intro w'
       go_simp
       with_reducible rfl
      rotate_left
      ·simp only [Act.put, List.setIfInBounds_toArray, List.set_cons_zero, List.set_cons_succ, i64_w, i32_w]
       rfl
      refine pure_ (i := 1) (N := some 13) (v := ?_) (a' := ?_) #[true, true, false, false, false, false, false] rfl rfl (by kernel_rfl) (fun _ _ _ h => h) (Or.inl ⟨by rfl, ?_⟩) ?_ ?_
      rotate_left
      ·intro w'
       go_simp
       with_reducible rfl
      rotate_left
      ·simp only [Act.put, List.setIfInBounds_toArray, List.set_cons_zero, List.set_cons_succ, i64_w, i32_w]
       rfl
      refine pure_ (i := 2) (N := some 14) (v := ?_) (a' := ?_) #[true, true, true, false, false, false, false] rfl rfl (by kernel_rfl) (fun _ _ _ h => h) (Or.inl ⟨by rfl, ?_⟩) ?_ ?_
      rotate_left
      ·intro w'
       go_simp
       with_reducible rfl
      rotate_left
      ·simp only [Act.put, List.setIfInBounds_toArray, List.set_cons_zero, List.set_cons_succ, i64_w, i32_w]
       rfl
      refine pure_ (i := 4) (N := some 16) (v := ?_) (a' := ?_) #[true, true, true, false, true, false, false] rfl rfl (by kernel_rfl) (fun _ _ _ h => h) (Or.inl ⟨by rfl, ?_⟩) ?_ ?_
      rotate_left
      ·intro w'
       go_simp
       with_reducible rfl
      rotate_left
      ·simp only [Act.put, List.setIfInBounds_toArray, List.set_cons_zero, List.set_cons_succ, i64_w, i32_w]
       rfl
      refine take_ (i := 3) (N := some 15) (v := ?_) (a' := ?_) #[true, true, true, true, true, false, false] rfl rfl (by kernel_rfl) (fun _ _ _ h => h) (Or.inl ⟨by rfl, ?_⟩) hHeld ?_ ?_
      rotate_left
      ·intro w' s0
       go_simp
       with_reducible rfl
      rotate_left
      ·simp only [Act.put, List.setIfInBounds_toArray, List.set_cons_zero, List.set_cons_succ, i64_w, i32_w]
       rfl
      refine one_ (i := 5) (N := some 17) #[true, true, true, true, true, true, false] rfl rfl (by kernel_rfl) (by decide) (fun K hK => ?_)
      refine goes_ Tryz.func102 (by kernel_rfl) rfl #[.int .i64 x1_1] (by rfl) rfl rfl (by (try simp only [List.map_toArray, List.map_cons, List.map_nil]); first | done | rfl | (simp only [List.length_drop, List.length_take]; rfl)) ?_
      with_reducible refine (laws_markText.calls k1 x1_1 t491 _ A5.out).mono ?_
      rintro e w10 ⟨rfl, hb⟩
      refine ⟨_, rfl, ?_⟩
      have n0_ := Aside0.mk (below_step (by repeat (first | (with_reducible first | exact HB.out | apply below_alloc | apply pw_below_drewN | apply below_drew1) | exact HB.out)) hb)
      clear HB
      have HB := n0_
      clear n0_
      (try clear hb)
      (try clear hb2)
      (try clear hk)
      (try clear hi)
      refine hK.out _ _ (((HB.out.cell (World.block_lt_of_cell? w _ hw490_0)).trans hw490_0)) (fun hHeld => ?_)
      clear hK K
      refine norm_ (a' := ?_) ?_ ?_
      rotate_left
      ·show Act.put _ (some 17) _ = _
       simp only [Act.put, List.setIfInBounds_toArray, List.set_cons_zero, List.set_cons_succ, i64_w, i32_w]
       rfl
      refine pure_ (i := 6) (N := some 18) (v := ?_) (a' := ?_) #[true, true, true, true, true, true, true] rfl rfl (by kernel_rfl) (fun _ _ _ h => h) (Or.inl ⟨by rfl, ?_⟩) ?_ ?_
      rotate_left
      ·intro w'
       go_simp
       with_reducible rfl
      rotate_left
      ·simp only [Act.put, List.setIfInBounds_toArray, List.set_cons_zero, List.set_cons_succ, i64_w, i32_w]
       rfl
      refine done_ (by kernel_rfl) ?_
      try go_wp2
      go_ret
      exact ⟨by first | rfl | (simp [errW_none, errW_some] <;> rfl) | (simp [*, errW_none, errW_some] <;> rfl), by repeat (first | (with_reducible first | exact HB.out | apply below_alloc | apply pw_below_drewN | apply below_drew1) | exact HB.out)⟩
    ·rw [if_neg c4] at H
     exact absurd H (by simp)
   ·rw [if_neg c3] at H
    have c3b0 : decide (x5_1 < (l0.length : Int)) = false := decide_eq_false c3
    clear c3
    obtain rfl := Option.some.inj H
    go_wp2
    go_ret
    exact ⟨by first | rfl | (simp [errW_none, errW_some] <;> rfl) | (simp [*, errW_none, errW_some] <;> rfl), by repeat (first | (with_reducible first | exact HB.out | apply below_alloc | apply pw_below_drewN | apply below_drew1) | exact HB.out)⟩
end Go.Proofs.YtikbfjnbhogihaaGreatDoor.M
