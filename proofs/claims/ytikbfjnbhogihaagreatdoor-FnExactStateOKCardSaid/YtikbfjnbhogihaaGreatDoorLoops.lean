/- Some of this seat's texts, joined by prune.py. -/
import Derived.Test.YtikbfjnbhogihaaGreatDoorWWords
/- Plain laws of loops, as the printed functions have them: what fills a list, what compares two, what counts sizes down. No program. -/
namespace Go.Proofs.YtikbfjnbhogihaaGreatDoor.Loops
open Go.RowKit Go.Proofs.YtikbfjnbhogihaaGreatDoorW.PrintWords
theorem w_succ (j : Nat) (h : j < 9223372036854775807) : wrap64 ((j : Int) + 1) = ((j + 1 : Nat) : Int) := by unfold wrap64; omega
theorem w_id (x : Int) (h0 : -9223372036854775808 ≤ x) (h1 : x ≤ 9223372036854775807) : wrap64 x = x := by unfold wrap64; omega
theorem Ev.eq {α : Type} {g : Nat → Option α} {a b : α} (h1 : Ev g a) (e : a = b) : Ev g b := e ▸ h1
theorem Ev.ite_pos {α : Type} {c : Prop} [Decidable c] {f g : Nat → Option α} {r : α} (hc : c) (h : Ev f r) : Ev (fun k => if c then f k else g k) r := by
 simp only [if_pos hc]; exact h
theorem Ev.ite_neg {α : Type} {c : Prop} [Decidable c] {f g : Nat → Option α} {r : α} (hc : ¬ c) (h : Ev g r) : Ev (fun k => if c then f k else g k) r := by
 simp only [if_neg hc]; exact h
/-! ### a list is filled from another -/
section
variable {α β γ : Type}
theorem fill_loop (L : Nat → List α → List β → Int → Option (List β)) (conv : Nat → α → Option γ) (mk : γ → β) (d : α)
  (hL : ∀ k x y i, L (k + 1) x y i = if i < (x.length : Int) then (if 0 ≤ i then ((conv k (x.getD i.toNat d)).bind fun c => if i < (y.length : Int) then L k x (y.set i.toNat (mk c)) (wrap64 (i + 1)) else none) else none) else some y)
  (c : α → γ) (x : List α) (hn : x.length < 9223372036854775807) (hc : ∀ a ∈ x, Ev (fun k => conv k a) (c a)) :
  ∀ (m j : Nat) (y : List β), j + m = x.length → y.length = x.length → Ev (fun k => L k x y (j : Int)) (y.take j ++ (x.drop j).map (fun a => mk (c a))) := by
 intro m
 induction m with
 | zero =>
  intro j y hj hy
  refine Ev.step (f := fun _ => some y) (fun k => by rw [hL, if_neg (by omega)]) ?_
  refine Ev.eq (Ev.now _) ?_
  rw [List.drop_eq_nil_of_le (by omega), List.take_of_length_le (by omega)]; simp
 | succ m ih =>
  intro j y hj hy
  have hjl : j < x.length := by omega
  have hget : x.getD j d = x[j] := by rw [List.getD_eq_getElem?_getD, List.getElem?_eq_getElem hjl]; rfl
  have hcj := hc x[j] (List.getElem_mem hjl)
  refine Ev.step (f := fun k => (conv k x[j]).bind fun c => L k x (y.set j (mk c)) ((j + 1 : Nat) : Int)) (fun k => by
   rw [hL, if_pos (by omega), if_pos (by omega), Int.toNat_natCast, hget, w_succ j (by omega)]
   congr 1; funext c; rw [if_pos (by omega)]) ?_
  refine Ev.bind hcj (Ev.eq (ih (j + 1) (y.set j (mk (c x[j]))) (by omega) (by simpa using hy)) ?_)
  rw [List.drop_eq_getElem_cons hjl, List.map_cons, List.take_set, List.take_add_one, List.getElem?_eq_getElem (by omega)]
  simp only [Option.toList_some]
  rw [List.set_append_right _ _ (by rw [List.length_take]; omega), List.length_take, Nat.min_eq_left (by omega), Nat.sub_self]
  simp
theorem fill_all (L : Nat → List α → List β → Int → Option (List β)) (conv : Nat → α → Option γ) (mk : γ → β) (d : α) (z : β)
  (hL : ∀ k x y i, L (k + 1) x y i = if i < (x.length : Int) then (if 0 ≤ i then ((conv k (x.getD i.toNat d)).bind fun c => if i < (y.length : Int) then L k x (y.set i.toNat (mk c)) (wrap64 (i + 1)) else none) else none) else some y)
  (c : α → γ) (x : List α) (hn : x.length < 9223372036854775807) (hc : ∀ a ∈ x, Ev (fun k => conv k a) (c a)) :
  Ev (fun k => L k x (List.replicate x.length z) 0) (x.map fun a => mk (c a)) := by
 have := fill_loop L conv mk d hL c x hn hc x.length 0 (List.replicate x.length z) (by omega) (by simp)
 simpa using this
end
/-! ### two lists are compared -/
section
variable {α : Type}
theorem all_loop (L : Nat → List α → List α → Int → Option Bool) (cmp : Nat → α → α → Option Bool) (d : α)
  (hL : ∀ k x y i, L (k + 1) x y i = if i < (x.length : Int) then (if 0 ≤ i then (if i < (y.length : Int) then ((cmp k (x.getD i.toNat d) (y.getD i.toNat d)).bind fun t => if t = true then L k x y (wrap64 (i + 1)) else some false) else none) else none) else some true)
  (x : List α) (hn : x.length < 9223372036854775807) (hc : ∀ a ∈ x, Ev (fun k => cmp k a a) true) :
  ∀ (m j : Nat), j + m = x.length → Ev (fun k => L k x x (j : Int)) true := by
 intro m
 induction m with
 | zero =>
  intro j hj
  exact Ev.step (f := fun _ => some true) (fun k => by rw [hL, if_neg (by omega)]) (Ev.now _)
 | succ m ih =>
  intro j hj
  have hjl : j < x.length := by omega
  have hget : x.getD j d = x[j] := by rw [List.getD_eq_getElem?_getD, List.getElem?_eq_getElem hjl]; rfl
  refine Ev.step (f := fun k => (cmp k x[j] x[j]).bind fun t => if t = true then L k x x ((j + 1 : Nat) : Int) else some false) (fun k => by
   rw [hL, if_pos (by omega), if_pos (by omega), if_pos (by omega), Int.toNat_natCast, hget, w_succ j (by omega)]) ?_
  refine Ev.bind (hc x[j] (List.getElem_mem hjl)) ?_
  simp only [if_true]
  exact ih (j + 1) (by omega)
end
/-! ### sizes are counted down -/
section
variable {α : Type}
def total (wt : α → Nat) (x : List α) : Nat := (x.map wt).foldr (· + ·) 0
theorem total_cons (wt : α → Nat) (a : α) (x : List α) : total wt (a :: x) = wt a + total wt x := rfl
theorem wt_le_total (wt : α → Nat) (x : List α) : ∀ a ∈ x, wt a ≤ total wt x := by
 induction x with
 | nil => intro a h; cases h
 | cons b x ih =>
  intro a h
  rw [total_cons]
  rcases List.mem_cons.1 h with rfl | h
  ·omega
  ·have := ih a h; omega
theorem sz_loop (L : Nat → List α → Int → Int → Option Int) (g : Nat → α → Int → Option Int) (d : α) (wt : α → Nat)
  (hL : ∀ k x a i, L (k + 1) x a i = if i < (x.length : Int) then (if 0 ≤ i then ((g k (x.getD i.toNat d) a).bind fun t => if t < 0 then some (-1) else L k x t (wrap64 (i + 1))) else none) else some a)
  (x : List α) (hn : x.length < 9223372036854775807)
  (hg : ∀ e ∈ x, ∀ a : Int, 0 ≤ a → a ≤ 1048576 → ∃ t, Ev (fun k => g k e a) t ∧ (0 ≤ t → t = a - wt e)) :
  ∀ (m j : Nat) (a : Int), j + m = x.length → 0 ≤ a → a ≤ 1048576 → ∃ t, Ev (fun k => L k x a (j : Int)) t ∧ (0 ≤ t → t = a - total wt (x.drop j)) := by
 intro m
 induction m with
 | zero =>
  intro j a hj h0 h1
  refine ⟨a, Ev.step (f := fun _ => some a) (fun k => by rw [hL, if_neg (by omega)]) (Ev.now _), fun _ => ?_⟩
  rw [List.drop_eq_nil_of_le (by omega)]; simp [total]
 | succ m ih =>
  intro j a hj h0 h1
  have hjl : j < x.length := by omega
  have hget : x.getD j d = x[j] := by rw [List.getD_eq_getElem?_getD, List.getElem?_eq_getElem hjl]; rfl
  obtain ⟨t, ht, hw⟩ := hg x[j] (List.getElem_mem hjl) a h0 h1
  have step : ∀ r, Ev (fun k => if t < 0 then some (-1) else L k x t ((j + 1 : Nat) : Int)) r → Ev (fun k => L k x a (j : Int)) r := by
   intro r hr
   refine Ev.step (f := fun k => (g k x[j] a).bind fun t => if t < 0 then some (-1) else L k x t ((j + 1 : Nat) : Int)) (fun k => by
    rw [hL, if_pos (by omega), if_pos (by omega), Int.toNat_natCast, hget, w_succ j (by omega)]) (Ev.bind ht hr)
  by_cases hneg : t < 0
  ·exact ⟨-1, step _ (by simp only [if_pos hneg]; exact Ev.now _), fun h => by omega⟩
  ·obtain ⟨r, hr, hr2⟩ := ih (j + 1) t (by omega) (by omega) (by have := hw (by omega); omega)
   refine ⟨r, step _ (by simp only [if_neg hneg]; exact hr), fun h => ?_⟩
   rw [hr2 h, hw (by omega), List.drop_eq_getElem_cons hjl, total_cons]
   omega
end
end Go.Proofs.YtikbfjnbhogihaaGreatDoor.Loops
/- Some of this seat's texts, joined by prune.py. -/
/- Some of this seat's texts, joined by prune.py. -/
/- Some of this seat's texts, joined by prune.py. -/
-- PRINTED BY print.sh 35421559b90ae4d0a3588c463048766b98c2df88dd9212a6774a882060cdf62d: not written by this session
/-! ### 41. Arrays '[n]T' as_ values: a kind (a field, an element of a row), an element read, an element set -/
namespace Go.Proofs.YtikbfjnbhogihaaGreatDoorW.PrintWords
open Go.RowKit
namespace Kd
section
variable {α : Type} {n : Nat} {d : Kd α} {hs : 0 < d.sz} {w : World} {base : Nat} {ok : Nat → Prop} {xs : List α} {cs : List Value}
end
section
variable {α : Type} {n : Nat} {enc : α → Value} {h1 : ∀ x, (enc x).oneCell' = true} {hs : 0 < (scalar enc h1).sz} {w : World} {base : Nat} {ok : Nat → Prop} {xs : List α} {cs : List Value}
end
end Kd
end Go.Proofs.YtikbfjnbhogihaaGreatDoorW.PrintWords
-- PRINTED BY print.sh 35421559b90ae4d0a3588c463048766b98c2df88dd9212a6774a882060cdf62d: not written by this session
/-! ### 58. A guarded operation whose guard is known to want it: the same goal without the guard -/
namespace Go.Proofs.YtikbfjnbhogihaaGreatDoorW.PrintWords
open Go.RowKit
section
variable {P : Program} {ops : Array Oper} {rest : List Oper} {o : Oper} {a : Act} {Q : Exit → Act → World → Prop} {W : World}
theorem gate_guard (hw : Region.wanted o (yielded ops a.tmps) = true) (h : wpList P ops Q ({ o with guard := none } :: rest) a W) : wpList P ops Q (o :: rest) a W := by
 have h1 : Region.wanted { o with guard := none } (yielded ops a.tmps) = true := rfl
 unfold wpList at h ⊢
 rw [if_pos h1] at h
 rw [if_pos hw]
 exact h
end
end Go.Proofs.YtikbfjnbhogihaaGreatDoorW.PrintWords
/- A list's weight, counted down from what is left: plain. -/
namespace Go.Proofs.YtikbfjnbhogihaaGreatDoor.Loops
open Go.RowKit Go.Proofs.YtikbfjnbhogihaaGreatDoorW.PrintWords
theorem sz_list {α : Type} (L : Nat → List α → Int → Int → Option Int) (g : Nat → α → Int → Option Int) (d : α) (wt : α → Nat)
  (hL : ∀ k x a i, L (k + 1) x a i = if i < (x.length : Int) then (if 0 ≤ i then ((g k (x.getD i.toNat d) a).bind fun t => if t < 0 then some (-1) else L k x t (wrap64 (i + 1))) else none) else some a)
  (x : List α) (hn : x.length ≤ 9223372036854775807)
  (hg : ∀ e ∈ x, ∀ a : Int, 0 ≤ a → a ≤ 1048576 → ∃ t, Ev (fun k => g k e a) t ∧ (0 ≤ t → t = a - wt e)) (a : Int) (h0 : 0 ≤ a) (h1 : a ≤ 1048576) :
  ∃ t, Ev (fun k => if wrap64 (a - (x.length : Int)) < 0 then some (-1) else L k x (wrap64 (a - (x.length : Int))) 0) t ∧ (0 ≤ t → t = a - ((x.length : Int) + (total wt x : Nat))) := by
 have e1 : wrap64 (a - (x.length : Int)) = a - (x.length : Int) := by unfold wrap64; omega
 rw [e1]
 by_cases hneg : a - (x.length : Int) < 0
 ·simp only [if_pos hneg]
  exact ⟨-1, Ev.now _, fun h => by omega⟩
 ·simp only [if_neg hneg]
  obtain ⟨t, ht, hw⟩ := sz_loop L g d wt hL x (by omega) hg x.length 0 (a - (x.length : Int)) (by omega) (by omega) (by omega)
  refine ⟨t, ht, fun h => ?_⟩
  rw [hw h, List.drop_zero]
  omega
theorem sz_hand {f : Nat → Option Int} {t : Int} (h : Ev f t) : ∃ u, Ev (fun k => (f k).bind fun t => if t < 0 then some (-1) else some t) u ∧ (0 ≤ u → u = t) := by
 by_cases hneg : t < 0
 ·exact ⟨-1, Ev.bind h (by simp only [if_pos hneg]; exact Ev.now _), fun h => by omega⟩
 ·exact ⟨t, Ev.bind h (by simp only [if_neg hneg]; exact Ev.now _), fun _ => rfl⟩
theorem sz_one (n : Nat) (hn : n ≤ 9223372036854775807) (a : Int) (h0 : 0 ≤ a) (h1 : a ≤ 1048576) :
  ∃ t, (if wrap64 (a - (n : Int)) < 0 then some (-1) else some (wrap64 (a - (n : Int)))) = some t ∧ (0 ≤ t → t = a - (n : Int)) := by
 have e1 : wrap64 (a - (n : Int)) = a - (n : Int) := by unfold wrap64; omega
 rw [e1]
 by_cases hneg : a - (n : Int) < 0
 ·rw [if_pos hneg]; exact ⟨-1, rfl, fun h => by omega⟩
 ·rw [if_neg hneg]; exact ⟨_, rfl, fun _ => rfl⟩
end Go.Proofs.YtikbfjnbhogihaaGreatDoor.Loops
-- PRINTED BY print.sh 35421559b90ae4d0a3588c463048766b98c2df88dd9212a6774a882060cdf62d: not written by this session
/-! ### 55. Reps told from the front, no append: for rows of one-cell elements and of wider ones -/
namespace Go.Proofs.YtikbfjnbhogihaaGreatDoorW.PrintWords
theorem Reps.one {α : Type} {R : α → List Value → Prop} {ps : List α} {cs : List Value} {p : α} {v : Value} (hp : R p [v]) (h : Reps R 1 ps cs) : Reps R 1 (p :: ps) (v :: cs) := by
 refine ⟨by simp [h.1], fun j q hq => ?_⟩
 cases j with
 | zero =>
  simp only [List.getElem?_cons_zero, Option.some.injEq] at hq
  subst hq
  simpa using hp
 | succ j =>
  simp only [List.getElem?_cons_succ] at hq
  have h1 := h.2 j q hq
  simpa [Nat.mul_one] using h1
theorem Reps.front {α : Type} {R : α → List Value → Prop} {size : Nat} {ps : List α} {cs c all : List Value} {p : α} (hp : R p c) (hc : c.length = size) (h : Reps R size ps cs) (ha : c ++ cs = all) : Reps R size (p :: ps) all := by
 subst ha
 refine ⟨by rw [List.length_append, hc, h.1, List.length_cons, Nat.succ_mul, Nat.add_comm], fun j q hq => ?_⟩
 cases j with
 | zero =>
  simp only [List.getElem?_cons_zero, Option.some.injEq] at hq
  subst hq
  rw [Nat.zero_mul, List.drop_zero, List.take_append_of_le_length (by omega), List.take_of_length_le (by omega)]
  exact hp
 | succ j =>
  simp only [List.getElem?_cons_succ] at hq
  have h1 := h.2 j q hq
  rw [Nat.succ_mul, List.drop_append, List.drop_of_length_le (by rw [hc]; exact Nat.le_add_left _ _), List.nil_append, hc, Nat.add_sub_cancel]
  exact h1
theorem Reps.c2 {α : Type} {R : α → List Value → Prop} {ps : List α} {cs : List Value} {p : α} {va vb : Value} (hp : R p [va, vb]) (h : Reps R 2 ps cs) : Reps R 2 (p :: ps) (va :: vb :: cs) := Reps.front hp rfl h rfl
theorem Reps.c3 {α : Type} {R : α → List Value → Prop} {ps : List α} {cs : List Value} {p : α} {va vb vc : Value} (hp : R p [va, vb, vc]) (h : Reps R 3 ps cs) : Reps R 3 (p :: ps) (va :: vb :: vc :: cs) := Reps.front hp rfl h rfl
theorem Reps.c4 {α : Type} {R : α → List Value → Prop} {ps : List α} {cs : List Value} {p : α} {va vb vc vd : Value} (hp : R p [va, vb, vc, vd]) (h : Reps R 4 ps cs) : Reps R 4 (p :: ps) (va :: vb :: vc :: vd :: cs) := Reps.front hp rfl h rfl
theorem Reps.c5 {α : Type} {R : α → List Value → Prop} {ps : List α} {cs : List Value} {p : α} {va vb vc vd ve : Value} (hp : R p [va, vb, vc, vd, ve]) (h : Reps R 5 ps cs) : Reps R 5 (p :: ps) (va :: vb :: vc :: vd :: ve :: cs) := Reps.front hp rfl h rfl
theorem Reps.c6 {α : Type} {R : α → List Value → Prop} {ps : List α} {cs : List Value} {p : α} {va vb vc vd ve vf : Value} (hp : R p [va, vb, vc, vd, ve, vf]) (h : Reps R 6 ps cs) : Reps R 6 (p :: ps) (va :: vb :: vc :: vd :: ve :: vf :: cs) := Reps.front hp rfl h rfl
theorem Reps.c7 {α : Type} {R : α → List Value → Prop} {ps : List α} {cs : List Value} {p : α} {va vb vc vd ve vf vg : Value} (hp : R p [va, vb, vc, vd, ve, vf, vg]) (h : Reps R 7 ps cs) : Reps R 7 (p :: ps) (va :: vb :: vc :: vd :: ve :: vf :: vg :: cs) := Reps.front hp rfl h rfl
theorem Reps.c8 {α : Type} {R : α → List Value → Prop} {ps : List α} {cs : List Value} {p : α} {va vb vc vd ve vf vg vh : Value} (hp : R p [va, vb, vc, vd, ve, vf, vg, vh]) (h : Reps R 8 ps cs) : Reps R 8 (p :: ps) (va :: vb :: vc :: vd :: ve :: vf :: vg :: vh :: cs) := Reps.front hp rfl h rfl
theorem Reps.c9 {α : Type} {R : α → List Value → Prop} {ps : List α} {cs : List Value} {p : α} {va vb vc vd ve vf vg vh vi : Value} (hp : R p [va, vb, vc, vd, ve, vf, vg, vh, vi]) (h : Reps R 9 ps cs) : Reps R 9 (p :: ps) (va :: vb :: vc :: vd :: ve :: vf :: vg :: vh :: vi :: cs) := Reps.front hp rfl h rfl
theorem Reps.c10 {α : Type} {R : α → List Value → Prop} {ps : List α} {cs : List Value} {p : α} {va vb vc vd ve vf vg vh vi vj : Value} (hp : R p [va, vb, vc, vd, ve, vf, vg, vh, vi, vj]) (h : Reps R 10 ps cs) : Reps R 10 (p :: ps) (va :: vb :: vc :: vd :: ve :: vf :: vg :: vh :: vi :: vj :: cs) := Reps.front hp rfl h rfl
end Go.Proofs.YtikbfjnbhogihaaGreatDoorW.PrintWords
