/- Plain laws of loops, as the printed functions have them: what fills a list, what compares two, what counts sizes down. No program. -/
import Derived.Test.YtogoblkehdmapaaDoorWWords
namespace Go.Proofs.YtogoblkehdmapaaDoor.Loops
open Go.RowKit Go.Proofs.YtogoblkehdmapaaDoorW.PrintWords

theorem w_succ (j : Nat) (h : j < 9223372036854775807) : wrap64 ((j : Int) + 1) = ((j + 1 : Nat) : Int) := by unfold wrap64; omega
theorem Ev.eq {α : Type} {g : Nat → Option α} {a b : α} (h1 : Ev g a) (e : a = b) : Ev g b := e ▸ h1
theorem Ev.ite_pos {α : Type} {c : Prop} [Decidable c] {f g : Nat → Option α} {r : α} (hc : c) (h : Ev f r) : Ev (fun k => if c then f k else g k) r := by
  simp only [if_pos hc]; exact h
theorem Ev.ite_neg {α : Type} {c : Prop} [Decidable c] {f g : Nat → Option α} {r : α} (hc : ¬ c) (h : Ev g r) : Ev (fun k => if c then f k else g k) r := by
  simp only [if_neg hc]; exact h
/-! ### a list is filled from another -/
section
variable {α β γ : Type}
theorem fill_loop (L : Nat → List α → List β → Int → Option (List β)) (conv : Nat → α → Option γ) (mk : γ → β) (d : α)
    (hL : ∀ k x y i, L (k + 1) x y i = if i < (x.length : Int) then (if 0 ≤ i then ((conv k (x.getD i.toNat d)).bind fun c => if i < (y.length : Int) then L k x (y.set i.toNat (mk c)) (wrap64 (i + 1)) else none) else none) else some y)
    (c : α → γ) (x : List α) (hn : x.length < 9223372036854775807) (hc : ∀ a ∈ x, Ev (fun k => conv k a) (c a)) :
    ∀ (m j : Nat) (y : List β), j + m = x.length → y.length = x.length → Ev (fun k => L k x y (j : Int)) (y.take j ++ (x.drop j).map (fun a => mk (c a))) := by
  intro m
  induction m with
  | zero =>
    intro j y hj hy
    refine Ev.step (f := fun _ => some y) (fun k => by rw [hL, if_neg (by omega)]) ?_
    refine Ev.eq (Ev.now _) ?_
    rw [List.drop_eq_nil_of_le (by omega), List.take_of_length_le (by omega)]; simp
  | succ m ih =>
    intro j y hj hy
    have hjl : j < x.length := by omega
    have hget : x.getD j d = x[j] := by rw [List.getD_eq_getElem?_getD, List.getElem?_eq_getElem hjl]; rfl
    have hcj := hc x[j] (List.getElem_mem hjl)
    refine Ev.step (f := fun k => (conv k x[j]).bind fun c => L k x (y.set j (mk c)) ((j + 1 : Nat) : Int)) (fun k => by
      rw [hL, if_pos (by omega), if_pos (by omega), Int.toNat_natCast, hget, w_succ j (by omega)]
      congr 1; funext c; rw [if_pos (by omega)]) ?_
    refine Ev.bind hcj (Ev.eq (ih (j + 1) (y.set j (mk (c x[j]))) (by omega) (by simpa using hy)) ?_)
    rw [List.drop_eq_getElem_cons hjl, List.map_cons, List.take_set, List.take_add_one, List.getElem?_eq_getElem (by omega)]
    simp only [Option.toList_some]
    rw [List.set_append_right _ _ (by rw [List.length_take]; omega), List.length_take, Nat.min_eq_left (by omega), Nat.sub_self]
    simp
theorem fill_all (L : Nat → List α → List β → Int → Option (List β)) (conv : Nat → α → Option γ) (mk : γ → β) (d : α) (z : β)
    (hL : ∀ k x y i, L (k + 1) x y i = if i < (x.length : Int) then (if 0 ≤ i then ((conv k (x.getD i.toNat d)).bind fun c => if i < (y.length : Int) then L k x (y.set i.toNat (mk c)) (wrap64 (i + 1)) else none) else none) else some y)
    (c : α → γ) (x : List α) (hn : x.length < 9223372036854775807) (hc : ∀ a ∈ x, Ev (fun k => conv k a) (c a)) :
    Ev (fun k => L k x (List.replicate x.length z) 0) (x.map fun a => mk (c a)) := by
  have := fill_loop L conv mk d hL c x hn hc x.length 0 (List.replicate x.length z) (by omega) (by simp)
  simpa using this
end
/-! ### two lists are compared -/
section
variable {α : Type}
theorem all_loop (L : Nat → List α → List α → Int → Option Bool) (cmp : Nat → α → α → Option Bool) (d : α)
    (hL : ∀ k x y i, L (k + 1) x y i = if i < (x.length : Int) then (if 0 ≤ i then (if i < (y.length : Int) then ((cmp k (x.getD i.toNat d) (y.getD i.toNat d)).bind fun t => if t = true then L k x y (wrap64 (i + 1)) else some false) else none) else none) else some true)
    (x : List α) (hn : x.length < 9223372036854775807) (hc : ∀ a ∈ x, Ev (fun k => cmp k a a) true) :
    ∀ (m j : Nat), j + m = x.length → Ev (fun k => L k x x (j : Int)) true := by
  intro m
  induction m with
  | zero =>
    intro j hj
    exact Ev.step (f := fun _ => some true) (fun k => by rw [hL, if_neg (by omega)]) (Ev.now _)
  | succ m ih =>
    intro j hj
    have hjl : j < x.length := by omega
    have hget : x.getD j d = x[j] := by rw [List.getD_eq_getElem?_getD, List.getElem?_eq_getElem hjl]; rfl
    refine Ev.step (f := fun k => (cmp k x[j] x[j]).bind fun t => if t = true then L k x x ((j + 1 : Nat) : Int) else some false) (fun k => by
      rw [hL, if_pos (by omega), if_pos (by omega), if_pos (by omega), Int.toNat_natCast, hget, w_succ j (by omega)]) ?_
    refine Ev.bind (hc x[j] (List.getElem_mem hjl)) ?_
    simp only [if_true]
    exact ih (j + 1) (by omega)
end
/-! ### sizes are counted down -/
section
variable {α : Type}
/-- The sizes of a list's elements. -/
def total (wt : α → Nat) (x : List α) : Nat := (x.map wt).foldr (· + ·) 0
theorem total_cons (wt : α → Nat) (a : α) (x : List α) : total wt (a :: x) = wt a + total wt x := rfl
/-- Either it is used up (a negative number), or what is left. -/
theorem sz_loop (L : Nat → List α → Int → Int → Option Int) (g : Nat → α → Int → Option Int) (d : α) (wt : α → Nat)
    (hL : ∀ k x a i, L (k + 1) x a i = if i < (x.length : Int) then (if 0 ≤ i then ((g k (x.getD i.toNat d) a).bind fun t => if t < 0 then some (-1) else L k x t (wrap64 (i + 1))) else none) else some a)
    (x : List α) (hn : x.length < 9223372036854775807)
    (hg : ∀ e ∈ x, ∀ a : Int, 0 ≤ a → a ≤ 1048576 → ∃ t, Ev (fun k => g k e a) t ∧ (0 ≤ t → t = a - wt e)) :
    ∀ (m j : Nat) (a : Int), j + m = x.length → 0 ≤ a → a ≤ 1048576 → ∃ t, Ev (fun k => L k x a (j : Int)) t ∧ (0 ≤ t → t = a - total wt (x.drop j)) := by
  intro m
  induction m with
  | zero =>
    intro j a hj h0 h1
    refine ⟨a, Ev.step (f := fun _ => some a) (fun k => by rw [hL, if_neg (by omega)]) (Ev.now _), fun _ => ?_⟩
    rw [List.drop_eq_nil_of_le (by omega)]; simp [total]
  | succ m ih =>
    intro j a hj h0 h1
    have hjl : j < x.length := by omega
    have hget : x.getD j d = x[j] := by rw [List.getD_eq_getElem?_getD, List.getElem?_eq_getElem hjl]; rfl
    obtain ⟨t, ht, hw⟩ := hg x[j] (List.getElem_mem hjl) a h0 h1
    have step : ∀ r, Ev (fun k => if t < 0 then some (-1) else L k x t ((j + 1 : Nat) : Int)) r → Ev (fun k => L k x a (j : Int)) r := by
      intro r hr
      refine Ev.step (f := fun k => (g k x[j] a).bind fun t => if t < 0 then some (-1) else L k x t ((j + 1 : Nat) : Int)) (fun k => by
        rw [hL, if_pos (by omega), if_pos (by omega), Int.toNat_natCast, hget, w_succ j (by omega)]) (Ev.bind ht hr)
    by_cases hneg : t < 0
    · exact ⟨-1, step _ (by simp only [if_pos hneg]; exact Ev.now _), fun h => by omega⟩
    · obtain ⟨r, hr, hr2⟩ := ih (j + 1) t (by omega) (by omega) (by have := hw (by omega); omega)
      refine ⟨r, step _ (by simp only [if_neg hneg]; exact hr), fun h => ?_⟩
      rw [hr2 h, hw (by omega), List.drop_eq_getElem_cons hjl, total_cons]
      omega
end
end Go.Proofs.YtogoblkehdmapaaDoor.Loops
