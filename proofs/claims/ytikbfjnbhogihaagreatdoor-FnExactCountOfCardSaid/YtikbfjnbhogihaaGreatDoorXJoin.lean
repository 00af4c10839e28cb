import Derived.WalkKit
import Derived.Test.YtikbfjnbhogihaaGreatDoorM0
import Derived.Test.YtikbfjnbhogihaaGreatDoorWWords
import Derived.Shelf.SlGeneric
import Derived.Shelf.SlSortCmp.WholeK
import Derived.Ground.SlsfProg
import Derived.Test.YtikbfjnbhogihaaGreatDoorProg
/- impl.join: texts, one behind the other. -/
namespace Go.Proofs.YtikbfjnbhogihaaGreatDoor.M
open Go.RowKit Go.Proofs.YtikbfjnbhogihaaGreatDoorW.PrintWords Go.Proofs.YtikbfjnbhogihaaGreatDoorW.PrintLast Go.Proofs.YtikbfjnbhogihaaGreatDoorW.PrintMore
set_option linter.unusedVariables false
set_option linter.unusedSimpArgs false
namespace Jn
theorem join_empty (xs : List (List UInt8)) : Lib.join xs [] = xs.flatten := by
 unfold Lib.join
 induction xs with
 | nil => rfl
 | cons x xs ih => cases xs with
  | nil => simp [List.intercalate]
  | cons y ys => simp [List.intercalate, List.intersperse] at ih ⊢; exact ih
def cat (xs : List ByteArray) : List UInt8 := (xs.map (·.data.toList)).flatten
end Jn
def impl_join.f (l0 : List ByteArray) : Option (ByteArray × List ByteArray) := if (Jn.cat l0).length ≤ 140737488355328 ∧ l0.length ≤ 140737488355328 then some (⟨(Jn.cat l0).toArray⟩, l0) else none
set_option maxHeartbeats 1000000 in
theorem impl_join.calls (P0 : Nat → Prop) (u : Value) (l0 : List ByteArray) (r1 : ByteArray) (r2 : List ByteArray) (w0 w : World) (hB : Below w0.heap.size w0 w) (ho : Kd.R Kd.string 9 w w0.heap.size P0 u l0) (h : impl_join.f l0 = some (r1, r2)) :
  Calls Tryz.prog 163 #[u] w fun e w' => e = .returned (.string r1) ∧ Kd.R Kd.string 9 w' w0.heap.size (fun k => P0 k ∨ w.heap.size ≤ k) u r2 ∧ Below w0.heap.size w0 w' ∧ Kept w w' (fun k => P0 k) := by
 unfold impl_join.f at h
 by_cases hz : (Jn.cat l0).length ≤ 140737488355328 ∧ l0.length ≤ 140737488355328
 ·rw [if_pos hz] at h
  obtain ⟨rfl, rfl⟩ := Prod.mk.inj (Option.some.inj h)
  have hj : Lib.join (l0.map (·.data.toList)) (⟨#[]⟩ : ByteArray).data.toList = Jn.cat l0 := Jn.join_empty _
  have HJ := Aside0.mk hj
  have HO := Aside0.mk ho
  have HB := Aside0.mk hB
  clear hj h hB
  obtain ⟨A, c, rfl⟩ := Kd.R_slice ho
  have hrd := Kd.R_reads' ho
  have HC := Aside0.mk hrd.2.2
  have hc := hrd.2.1
  clear ho hrd
  cases l0 with
  | nil =>
   go_enter Tryz.func163, Tryz.ntmps163
   go_wp2_with fail
   refine (Tryz.strings_Join_none A c ⟨#[]⟩ _).mono ?_
   rintro e w' ⟨rfl, rfl⟩
   go_wp2_with fail
   go_ret
   exact ⟨rfl, Kd.R_mono HO.out (fun _ hk => .inl hk), HB.out, Kept.refl _ _⟩
  | cons x l =>
   obtain ⟨g, cap, e, _, hglt, _⟩ := Kd.R_form HO.out (by simp)
   injection e with eA _ ec
   subst eA
   have hcells : ∀ (j : Nat) y, (x :: l)[j]? = some y → w.cell? ⟨g, 0 + j, none⟩ = some (.string y) := by
    intro j y hy
    have hlt : j < (x :: l).length := (List.getElem?_eq_some_iff.1 hy).1
    obtain ⟨ad', e', hcc⟩ := Kd.at_string HC.out (j : Int) (by omega) (by omega)
    obtain rfl := Option.some.inj e'
    rw [Int.toNat_natCast] at hcc
    have e2 : rdOf ByteArray.empty (x :: l) (j : Int) = y := by
     unfold rdOf
     rw [Int.toNat_natCast, List.getD_eq_getElem?_getD, hy]; rfl
    rw [e2, add_plain] at hcc
    rw [Nat.zero_add]
    exact hcc
   have HCell := Aside0.mk hcells
   clear hcells ec
   go_enter Tryz.func163, Tryz.ntmps163
   go_wp2_with fail
   refine (Tryz.strings_Join g 0 c (x :: l) ⟨#[]⟩ _ HCell.out hglt hz.2 hc (by rw [HJ.out]; exact hz.1)).mono ?_
   rintro e w' ⟨he, hb⟩
   rw [HJ.out] at he
   subst he
   have HB2 := Aside0.mk hb
   clear hb
   go_wp2_with fail
   go_ret
   exact ⟨rfl, Kd.R_mono (Kd.R_below HO.out HB2.out) (fun _ hk => .inl hk), below_then HB.out HB.out.size HB2.out, Kept.of_below HB2.out _⟩
 ·rw [if_neg hz] at h; cases h
end Go.Proofs.YtikbfjnbhogihaaGreatDoor.M
namespace Go.Proofs.YtikbfjnbhogihaaGreatDoor.M
open Go.RowKit Go.Proofs.YtikbfjnbhogihaaGreatDoorW.PrintWords Go.Proofs.YtikbfjnbhogihaaGreatDoorW.PrintLast Go.Proofs.YtikbfjnbhogihaaGreatDoorW.PrintMore
attribute [local go_sem] max2_int min2_int max_two min_two max_three min_three max_four min_four
set_option linter.unusedVariables false
set_option linter.unusedSimpArgs false
def IsS189 (w0 W : World) (g : Nat) (f0 : ByteArray) : Prop := W.heap[g]? = some (.cells #[.string f0] 189 (0, 0)) ∧ w0.heap.size ≤ g
theorem IsS189.grown {w0 W : World} {g : Nat} {f0 : ByteArray} {W1 : World} {row : Option Nat} (h : IsS189 w0 W g f0) (hw : W.grownBy W1 row) (hne : some g ≠ row) : IsS189 w0 W1 g f0 := by
 obtain ⟨hb, hg⟩ := h
 exact ⟨blk_grown hb hw hne, hg⟩
theorem IsS189.kept {w0 W : World} {g : Nat} {f0 : ByteArray} {W1 : World} {S : Nat → Prop} (h : IsS189 w0 W g f0) (hk : Kept W W1 S) (hne : ¬ S g) : IsS189 w0 W1 g f0 := by
 obtain ⟨hb, hg⟩ := h
 exact ⟨blk_kept hb hk hne, hg⟩
theorem IsS189.below {w0 W : World} {g : Nat} {f0 : ByteArray} {W1 : World} (h : IsS189 w0 W g f0) (hw : Below W.heap.size W W1) : IsS189 w0 W1 g f0 := h.grown (grown_of_below hw none) (by simp)
theorem IsS189.alloc {w0 W : World} {g : Nat} {f0 : ByteArray} (h : IsS189 w0 W g f0) (o : Obj) : IsS189 w0 (W.alloc o) g f0 := h.below (below_alloc (Below.refl _ _) o)
theorem IsS189.drewN {w0 W : World} {g : Nat} {f0 : ByteArray} (h : IsS189 w0 W g f0) (m : Nat) : IsS189 w0 (W.drewN m) g f0 := h
theorem IsS189.drew {w0 W : World} {g : Nat} {f0 : ByteArray} (h : IsS189 w0 W g f0) : IsS189 w0 W.drew g f0 := h
theorem IsS189.at_ {w0 W : World} {g : Nat} {f0 : ByteArray} {w' : World} {m : Nat} (hq : W.drewN m = w') (h : IsS189 w0 W g f0) : IsS189 w0 w' g f0 := by subst hq; exact IsS189.drewN h m
theorem IsS189.apart {w0 W : World} {g : Nat} {f0 : ByteArray} {α : Type} {d : Kd α} {e : Nat} {base : Nat} {ok : Nat → Prop} {v : Value} {xs : List α} (h : IsS189 w0 W g f0) (ho : d.R e W base ok v xs) (ht : ∀ q, q ∈ e :: d.E → q ≠ 189) : d.R e W base (fun k => ok k ∧ k ≠ g) v xs := by
 obtain ⟨hb, hg⟩ := h
 exact Kd.R_types ho hb ht
theorem IsS189.own_ne {w0 W : World} {g : Nat} {f0 : ByteArray} {α : Type} {d : Kd α} {e : Nat} {base : Nat} {ok : Nat → Prop} {v : Value} {xs : List α} (h : IsS189 w0 W g f0) (ho : d.R e W base ok v xs) (ht : e ≠ 189) : some g ≠ v.ownBlock := by
 obtain ⟨hb, hg⟩ := h
 exact Kd.R_ne ho hb ht
theorem IsS189.lt {w0 W : World} {g : Nat} {f0 : ByteArray} (h : IsS189 w0 W g f0) : g < W.heap.size := by
 obtain ⟨hb, hg⟩ := h
 exact blk_lt hb
theorem IsS189.ge {w0 W : World} {g : Nat} {f0 : ByteArray} (h : IsS189 w0 W g f0) : w0.heap.size ≤ g := by
 obtain ⟨hb, hg⟩ := h
 exact hg
theorem IsS189.far {w0 W : World} {g : Nat} {f0 : ByteArray} {p : Addr} (h : IsS189 w0 W g f0) (hne : g ≠ p.block) (u : Value) : IsS189 w0 (W.setCell p u) g f0 := by
 obtain ⟨hb, hg⟩ := h
 exact ⟨blk_far hb hne u, hg⟩
theorem cellS189_0 {W : World} {g : Nat} {f0 : ByteArray} (h : W.heap[g]? = some (.cells #[.string f0] 189 (0, 0))) : W.cell? ⟨g, 0, none⟩ = some (.string f0) := (blk_cell h 0).trans rfl
theorem IsS189.set_0 {w0 W : World} {g : Nat} {f0 : ByteArray} (h : IsS189 w0 W g f0) (x : ByteArray) : IsS189 w0 (W.setCell ⟨g, 0, none⟩ (.string x)) g x := by
 obtain ⟨hb, hg⟩ := h
 exact ⟨by simpa using blk_set hb 0 (.string x), hg⟩
theorem IsS189.new (w0 W : World) (f0 : ByteArray) (hB : Below w0.heap.size w0 W) : IsS189 w0 (W.alloc (.cells #[.string f0] 189)) W.heap.size f0 := ⟨by simpa using heap_alloc_new W _, hB.size⟩
end Go.Proofs.YtikbfjnbhogihaaGreatDoor.M
/- Plain laws of loops, as the printed functions have them: what fills a list, what compares two, what counts sizes down. No program. -/
namespace Go.Proofs.YtikbfjnbhogihaaGreatDoor.Loops
open Go.RowKit Go.Proofs.YtikbfjnbhogihaaGreatDoorW.PrintWords
theorem w_succ (j : Nat) (h : j < 9223372036854775807) : wrap64 ((j : Int) + 1) = ((j + 1 : Nat) : Int) := by unfold wrap64; omega
theorem w_id (x : Int) (h0 : -9223372036854775808 ≤ x) (h1 : x ≤ 9223372036854775807) : wrap64 x = x := by unfold wrap64; omega
theorem Ev.det {α : Type} {g : Nat → Option α} {a b : α} (h1 : Ev g a) (h2 : Ev g b) : a = b := by
 obtain ⟨K1, h1⟩ := h1
 obtain ⟨K2, h2⟩ := h2
 have e1 := h1 (max K1 K2) (by omega)
 have e2 := h2 (max K1 K2) (by omega)
 rw [e1] at e2
 exact Option.some.inj e2
theorem Ev.eq {α : Type} {g : Nat → Option α} {a b : α} (h1 : Ev g a) (e : a = b) : Ev g b := e ▸ h1
theorem Ev.ite_pos {α : Type} {c : Prop} [Decidable c] {f g : Nat → Option α} {r : α} (hc : c) (h : Ev f r) : Ev (fun k => if c then f k else g k) r := by
 simp only [if_pos hc]; exact h
theorem Ev.ite_neg {α : Type} {c : Prop} [Decidable c] {f g : Nat → Option α} {r : α} (hc : ¬ c) (h : Ev g r) : Ev (fun k => if c then f k else g k) r := by
 simp only [if_neg hc]; exact h
/-! ### a list is filled from another -/
section
variable {α β γ : Type}
theorem fill_loop (L : Nat → List α → List β → Int → Option (List β)) (conv : Nat → α → Option γ) (mk : γ → β) (d : α)
  (hL : ∀ k x y i, L (k + 1) x y i = if i < (x.length : Int) then (if 0 ≤ i then ((conv k (x.getD i.toNat d)).bind fun c => if i < (y.length : Int) then L k x (y.set i.toNat (mk c)) (wrap64 (i + 1)) else none) else none) else some y)
  (c : α → γ) (x : List α) (hn : x.length < 9223372036854775807) (hc : ∀ a ∈ x, Ev (fun k => conv k a) (c a)) :
  ∀ (m j : Nat) (y : List β), j + m = x.length → y.length = x.length → Ev (fun k => L k x y (j : Int)) (y.take j ++ (x.drop j).map (fun a => mk (c a))) := by
 intro m
 induction m with
 | zero =>
  intro j y hj hy
  refine Ev.step (f := fun _ => some y) (fun k => by rw [hL, if_neg (by omega)]) ?_
  refine Ev.eq (Ev.now _) ?_
  rw [List.drop_eq_nil_of_le (by omega), List.take_of_length_le (by omega)]; simp
 | succ m ih =>
  intro j y hj hy
  have hjl : j < x.length := by omega
  have hget : x.getD j d = x[j] := by rw [List.getD_eq_getElem?_getD, List.getElem?_eq_getElem hjl]; rfl
  have hcj := hc x[j] (List.getElem_mem hjl)
  refine Ev.step (f := fun k => (conv k x[j]).bind fun c => L k x (y.set j (mk c)) ((j + 1 : Nat) : Int)) (fun k => by
   rw [hL, if_pos (by omega), if_pos (by omega), Int.toNat_natCast, hget, w_succ j (by omega)]
   congr 1; funext c; rw [if_pos (by omega)]) ?_
  refine Ev.bind hcj (Ev.eq (ih (j + 1) (y.set j (mk (c x[j]))) (by omega) (by simpa using hy)) ?_)
  rw [List.drop_eq_getElem_cons hjl, List.map_cons, List.take_set, List.take_add_one, List.getElem?_eq_getElem (by omega)]
  simp only [Option.toList_some]
  rw [List.set_append_right _ _ (by rw [List.length_take]; omega), List.length_take, Nat.min_eq_left (by omega), Nat.sub_self]
  simp
theorem fill_all (L : Nat → List α → List β → Int → Option (List β)) (conv : Nat → α → Option γ) (mk : γ → β) (d : α) (z : β)
  (hL : ∀ k x y i, L (k + 1) x y i = if i < (x.length : Int) then (if 0 ≤ i then ((conv k (x.getD i.toNat d)).bind fun c => if i < (y.length : Int) then L k x (y.set i.toNat (mk c)) (wrap64 (i + 1)) else none) else none) else some y)
  (c : α → γ) (x : List α) (hn : x.length < 9223372036854775807) (hc : ∀ a ∈ x, Ev (fun k => conv k a) (c a)) :
  Ev (fun k => L k x (List.replicate x.length z) 0) (x.map fun a => mk (c a)) := by
 have := fill_loop L conv mk d hL c x hn hc x.length 0 (List.replicate x.length z) (by omega) (by simp)
 simpa using this
end
/-! ### two lists are compared -/
section
variable {α : Type}
theorem all_loop (L : Nat → List α → List α → Int → Option Bool) (cmp : Nat → α → α → Option Bool) (d : α)
  (hL : ∀ k x y i, L (k + 1) x y i = if i < (x.length : Int) then (if 0 ≤ i then (if i < (y.length : Int) then ((cmp k (x.getD i.toNat d) (y.getD i.toNat d)).bind fun t => if t = true then L k x y (wrap64 (i + 1)) else some false) else none) else none) else some true)
  (x : List α) (hn : x.length < 9223372036854775807) (hc : ∀ a ∈ x, Ev (fun k => cmp k a a) true) :
  ∀ (m j : Nat), j + m = x.length → Ev (fun k => L k x x (j : Int)) true := by
 intro m
 induction m with
 | zero =>
  intro j hj
  exact Ev.step (f := fun _ => some true) (fun k => by rw [hL, if_neg (by omega)]) (Ev.now _)
 | succ m ih =>
  intro j hj
  have hjl : j < x.length := by omega
  have hget : x.getD j d = x[j] := by rw [List.getD_eq_getElem?_getD, List.getElem?_eq_getElem hjl]; rfl
  refine Ev.step (f := fun k => (cmp k x[j] x[j]).bind fun t => if t = true then L k x x ((j + 1 : Nat) : Int) else some false) (fun k => by
   rw [hL, if_pos (by omega), if_pos (by omega), if_pos (by omega), Int.toNat_natCast, hget, w_succ j (by omega)]) ?_
  refine Ev.bind (hc x[j] (List.getElem_mem hjl)) ?_
  simp only [if_true]
  exact ih (j + 1) (by omega)
end
/-! ### sizes are counted down -/
section
variable {α : Type}
def total (wt : α → Nat) (x : List α) : Nat := (x.map wt).foldr (· + ·) 0
theorem total_cons (wt : α → Nat) (a : α) (x : List α) : total wt (a :: x) = wt a + total wt x := rfl
theorem wt_le_total (wt : α → Nat) (x : List α) : ∀ a ∈ x, wt a ≤ total wt x := by
 induction x with
 | nil => intro a h; cases h
 | cons b x ih =>
  intro a h
  rw [total_cons]
  rcases List.mem_cons.1 h with rfl | h
  ·omega
  ·have := ih a h; omega
theorem sz_loop (L : Nat → List α → Int → Int → Option Int) (g : Nat → α → Int → Option Int) (d : α) (wt : α → Nat)
  (hL : ∀ k x a i, L (k + 1) x a i = if i < (x.length : Int) then (if 0 ≤ i then ((g k (x.getD i.toNat d) a).bind fun t => if t < 0 then some (-1) else L k x t (wrap64 (i + 1))) else none) else some a)
  (x : List α) (hn : x.length < 9223372036854775807)
  (hg : ∀ e ∈ x, ∀ a : Int, 0 ≤ a → a ≤ 1048576 → ∃ t, Ev (fun k => g k e a) t ∧ (0 ≤ t → t = a - wt e)) :
  ∀ (m j : Nat) (a : Int), j + m = x.length → 0 ≤ a → a ≤ 1048576 → ∃ t, Ev (fun k => L k x a (j : Int)) t ∧ (0 ≤ t → t = a - total wt (x.drop j)) := by
 intro m
 induction m with
 | zero =>
  intro j a hj h0 h1
  refine ⟨a, Ev.step (f := fun _ => some a) (fun k => by rw [hL, if_neg (by omega)]) (Ev.now _), fun _ => ?_⟩
  rw [List.drop_eq_nil_of_le (by omega)]; simp [total]
 | succ m ih =>
  intro j a hj h0 h1
  have hjl : j < x.length := by omega
  have hget : x.getD j d = x[j] := by rw [List.getD_eq_getElem?_getD, List.getElem?_eq_getElem hjl]; rfl
  obtain ⟨t, ht, hw⟩ := hg x[j] (List.getElem_mem hjl) a h0 h1
  have step : ∀ r, Ev (fun k => if t < 0 then some (-1) else L k x t ((j + 1 : Nat) : Int)) r → Ev (fun k => L k x a (j : Int)) r := by
   intro r hr
   refine Ev.step (f := fun k => (g k x[j] a).bind fun t => if t < 0 then some (-1) else L k x t ((j + 1 : Nat) : Int)) (fun k => by
    rw [hL, if_pos (by omega), if_pos (by omega), Int.toNat_natCast, hget, w_succ j (by omega)]) (Ev.bind ht hr)
  by_cases hneg : t < 0
  ·exact ⟨-1, step _ (by simp only [if_pos hneg]; exact Ev.now _), fun h => by omega⟩
  ·obtain ⟨r, hr, hr2⟩ := ih (j + 1) t (by omega) (by omega) (by have := hw (by omega); omega)
   refine ⟨r, step _ (by simp only [if_neg hneg]; exact hr), fun h => ?_⟩
   rw [hr2 h, hw (by omega), List.drop_eq_getElem_cons hjl, total_cons]
   omega
end
end Go.Proofs.YtikbfjnbhogihaaGreatDoor.Loops
namespace Go.Proofs.YtikbfjnbhogihaaGreatDoor.M
open Go.RowKit Go.Proofs.YtikbfjnbhogihaaGreatDoorW.PrintWords Go.Proofs.YtikbfjnbhogihaaGreatDoorW.PrintLast Go.Proofs.YtikbfjnbhogihaaGreatDoorW.PrintMore
attribute [local go_sem] max2_int min2_int max_two min_two max_three min_three max_four min_four
set_option linter.unusedVariables false
set_option linter.unusedSimpArgs false
/-! ### impl_source_text: function 157 -/
def impl_source_text.f (s0_0 : ByteArray) (a1 : Int) : Option (ByteArray × ByteArray) := if 0 ≤ (mn a1 (s0_0.size : Int)) then (if (mn a1 (s0_0.size : Int)) ≤ (s0_0.size : Int) then (some (s0_0.extract 0 ((mn a1 (s0_0.size : Int)) : Int).toNat, s0_0.extract ((mn a1 (s0_0.size : Int)) : Int).toNat s0_0.size)) else (none)) else (none)
set_option maxHeartbeats 8000000 in
set_option maxRecDepth 100000 in
theorem impl_source_text.calls (g : Nat) (s0_0 : ByteArray) (a1 : Int) (r1 : ByteArray) (r2 : ByteArray) (w0 w : World) (hI : IsS189 w0 w g s0_0) (hB : Below w0.heap.size w0 w) (h : impl_source_text.f s0_0 a1 = some (r1, r2)) :
  Calls Tryz.prog 157 #[.pointer (some ⟨g, 0, none⟩), .int .i64 a1] w fun e w' => e = .returned (.string r1) ∧ IsS189 w0 w' g r2 ∧ Below w0.heap.size w0 w' ∧ KeepBut w w' g none := by
 have HI0 := Aside0.mk hI
 have HK := Aside0.mk (KeepBut.refl w g none)
 have HL := Aside0.mk hB.size
 clear hI
 have HW0 := Aside0.mk hB.size
 have HB := Aside0.mk hB
 clear hB
 have H : (if 0 ≤ (mn a1 (s0_0.size : Int)) then (if (mn a1 (s0_0.size : Int)) ≤ (s0_0.size : Int) then (some (s0_0.extract 0 ((mn a1 (s0_0.size : Int)) : Int).toNat, s0_0.extract ((mn a1 (s0_0.size : Int)) : Int).toNat s0_0.size)) else (none)) else (none)) = some (r1, r2) := h
 clear h
 obtain ⟨ji3, hji3⟩ : ∃ j_ : Int, (mn a1 (s0_0.size : Int)) = j_ := ⟨_, rfl⟩
 replace H : (if 0 ≤ (ji3) then (if (ji3) ≤ (s0_0.size : Int) then (some (s0_0.extract 0 ((ji3) : Int).toNat, s0_0.extract ((ji3) : Int).toNat s0_0.size)) else (none)) else (none)) = some (r1, r2) := by first | (rw [hji3] at H; exact H) | (simp only [hji3] at H ⊢; exact H)
 have hji3_ : (if (s0_0.size : Int) < a1 then (s0_0.size : Int) else a1) = ji3 := hji3
 by_cases c4 : 0 ≤ (ji3)
 ·rw [if_pos c4] at H
  have c4b0 := eq_true c4
  have c4b1 : decide (0 ≤ (ji3)) = true := decide_eq_true c4
  clear c4
  by_cases c5 : (ji3) ≤ (s0_0.size : Int)
  ·rw [if_pos c5] at H
   have c5b0 := eq_true c5
   have c5b1 : decide ((ji3) ≤ (s0_0.size : Int)) = true := decide_eq_true c5
   clear c5
   have c6b0 := eq_true (of_decide_eq_true (by first | (with_reducible assumption) | assumption) : 0 ≤ (ji3))
   have c7b0 := eq_true (of_decide_eq_true (by first | (with_reducible assumption) | assumption) : (ji3) ≤ (s0_0.size : Int))
   simp only [Option.some.injEq, Prod.mk.injEq] at H
   obtain ⟨rfl, rfl⟩ := H
   obtain ⟨HGz8, hgz8⟩ := HI0.out
   have hcz8_0 := cellS189_0 HGz8
   have hfz8_0 := blk_frozen HGz8 0
   clear HGz8 hgz8
   go_enter Tryz.func157, Tryz.ntmps157
   go_wp2
   go_ret
   exact ⟨by first | rfl | (simp [errW_none, errW_some] <;> rfl) | (simp only [← hji3]; first | rfl | (simp [errW_none, errW_some] <;> rfl)) | (simp [*, errW_none, errW_some] <;> rfl), by repeat (first | (with_reducible first | exact HI0.out | apply IsS189.alloc | apply IsS189.drewN | apply IsS189.drew | apply IsS189.set_0) | exact HI0.out), by repeat (first | (with_reducible first | exact HB.out | apply below_alloc | apply pw_below_drewN | apply below_drew1 | refine below_set ?_ (IsS189.ge HI0.out)) | exact HB.out), by repeat (first | (with_reducible first | exact HK.out | apply KeepBut.set_ | apply keep_drewN | apply keep_drew | apply keep_alloc) | exact HK.out)⟩
  ·rw [if_neg c5] at H
   exact absurd H (by simp)
 ·rw [if_neg c4] at H
  exact absurd H (by simp)
end Go.Proofs.YtikbfjnbhogihaaGreatDoor.M
/- num: the lowest 1, 2, 4 or 8 bytes of a whole number, high byte first. -/
namespace Go.Proofs.YtikbfjnbhogihaaGreatDoor.M
open Go.RowKit Go.Proofs.YtikbfjnbhogihaaGreatDoorW.PrintWords Go.Proofs.YtikbfjnbhogihaaGreatDoorW.PrintLast Go.Proofs.YtikbfjnbhogihaaGreatDoorW.PrintMore
set_option linter.unusedVariables false
set_option linter.unusedSimpArgs false
namespace Num
def byte8 (N : Int) (p : Nat) : Int := (N / 256 ^ (7 - p)) % 256
def arr8 (N : Int) (j : Nat) : Array Value := ((List.range 8).map fun p => Value.int .u8 (if 8 - j ≤ p then byte8 N p else 0)).toArray
theorem arr8_old (N : Int) (j : Nat) (h : j < 8) : (arr8 N j)[7 - j]? = some (.int .u8 0) := by
 rw [arr8, List.getElem?_toArray, List.getElem?_map, List.getElem?_range (by omega)]
 simp; omega
theorem arr8_set (N : Int) (j : Nat) (h : j < 8) : (arr8 N j).setIfInBounds (7 - j) (.int .u8 (N / 256 ^ j % 256)) = arr8 N (j + 1) := by
 have : j = 0 ∨ j = 1 ∨ j = 2 ∨ j = 3 ∨ j = 4 ∨ j = 5 ∨ j = 6 ∨ j = 7 := by omega
 rcases this with rfl | rfl | rfl | rfl | rfl | rfl | rfl | rfl <;> rfl
theorem arr8_div (N : Int) (j : Nat) : N / 256 ^ j / 256 = N / 256 ^ (j + 1) := by
 rw [Int.pow_succ, Int.ediv_ediv_of_nonneg]
 exact Int.pow_nonneg (by decide)
def nums8 (m : Nat) (N : Int) : List Int := (List.range m).map fun p => byte8 N (8 - m + p)
def bytes (m : Nat) (N : Int) : ByteArray := strOfNums (nums8 m N)
theorem conv (w : World) (N : Int) (m : Nat) (hm : m ≤ 8) : (convert 53 9 (.slice (some ⟨w.heap.size, 8 - m, none⟩) m m)).run Tryz.prog (w.alloc (.cells (arr8 N 8) 236)) = .ok (.string (bytes m N)) (w.alloc (.cells (arr8 N 8) 236)) := by
 refine run_convert_bytes_arg _ 53 5 Tryz.underlying53 Tryz.underlying5 w.heap.size (8 - m) m m (nums8 m N) (by simp [nums8]) (fun i hi => ?_) 9 Tryz.underlying9
 rw [World.cell?_alloc_mark]
 simp only [arr8, nums8]
 rw [List.getElem?_toArray, List.getElem?_map, List.getElem?_range (by omega)]
 simp [List.getD, List.getElem?_map, List.getElem?_range hi]
end Num
def impl_num.f (a0 : Int) (a1 : Int) : Option (ByteArray) := if a0 = 1 then some (Num.bytes 1 a1) else if a0 = 2 then some (Num.bytes 2 a1) else if a0 = 4 then some (Num.bytes 4 a1) else if a0 = 8 then some (Num.bytes 8 a1) else none
open Num in
set_option maxHeartbeats 1000000 in
set_option maxRecDepth 100000 in
theorem impl_num.calls (a0 : Int) (a1 : Int) (r : ByteArray) (w : World) (h : impl_num.f a0 a1 = some r) :
  Calls Tryz.prog 160 #[.int .i64 a0, .int .i64 a1] w fun e w' => e = .returned (.string r) ∧ Below w.heap.size w w' := by
 have hc : ∃ m : Nat, (m = 1 ∨ m = 2 ∨ m = 4 ∨ m = 8) ∧ a0 = (m : Int) ∧ r = Num.bytes m a1 := by
  unfold impl_num.f at h
  split at h
  ·rename_i e; exact ⟨1, by omega, e, (Option.some.inj h).symm⟩
  split at h
  ·rename_i e; exact ⟨2, by omega, e, (Option.some.inj h).symm⟩
  split at h
  ·rename_i e; exact ⟨4, by omega, e, (Option.some.inj h).symm⟩
  split at h
  ·rename_i e; exact ⟨8, by omega, e, (Option.some.inj h).symm⟩
  ·cases h
 clear h
 obtain ⟨m, hm, rfl, rfl⟩ := hc
 have hconv := conv w a1 m (by omega)
 have hb : Below w.heap.size w (w.alloc (.cells (arr8 a1 8) 236)) := (Below.refl _ _).alloc (Nat.le_refl _) _
 have HB := Aside0.mk hb
 clear hb
 rcases hm with rfl | rfl | rfl | rfl
 all_goals
  simp only [Nat.reduceSub] at hconv
  go_enter Tryz.func160, Tryz.ntmps160
  go_wp2
  go_loopw [1, 6] (fun n i wr => ∃ j : Nat, j ≤ 8 ∧ i = .int .i64 (7 - j) ∧ n = .int .i64 (a1 / 256 ^ j) ∧ wr = w.alloc (.cells (arr8 a1 j) 236)) (fun _ i _ => (intOf i + 1).toNat)
  case atStart => exact ⟨0, by omega, by simp, by simp, by simp [arr8, List.range, List.range.loop]⟩
  case round =>
   obtain ⟨j, hj, rfl, rfl, rfl⟩ := hrel
   obtain rfl | hj8 : j = 8 ∨ j < 8 := by omega
   ·go_wp2
    go_ret
    exact ⟨rfl, HB.out⟩
   ·have hg : (0 : Int) ≤ 7 - (j : Int) := by omega
    have ho := arr8_old a1 j hj8
    go_wp2
    refine ⟨⟨j + 1, by omega, ?_, ?_, ?_⟩, ?_⟩
    ·congr 1; omega
    ·rw [arr8_div]
    ·rw [arr8_set a1 j hj8]
    ·simp [intOf]; omega
end Go.Proofs.YtikbfjnbhogihaaGreatDoor.M
/-
 DERIVED: THE SHELF's CONTRACTS AT THIS DUMP, IN PLAIN WORDS (tools/lay-plain.mjs out of 'TryzSShelf.lean', which tools/lay-shelf.mjs wrote): THE SAME DECLARATIONS UNDER THE SAME NAMES: 'import', 'namespace', 'open', 'def', 'theorem' AND NOTHING ELSE: no command of the shelf's: FOR A HAND-IN. Each laying: the table of numbers ('.._ren') and one theorem, a field a fact of the dump's own or the kernel's comparison; each contract: ONE APPLICATION.
-/
namespace Go.Proofs
open Go.Shelf
def Tryz.sortL_ren : Go.Shelf.Ren := ⟨fun | 6 => 177 | 15 => 175 | 14 => 192 | 28 => 190 | 29 => 191 | 20 => 203 | 21 => 204 | 22 => 205 | 23 => 206 | 24 => 207 | 25 => 208 | 26 => 209 | 27 => 210 | 46 => 215 | 47 => 198 | 48 => 199 | 49 => 216 | 50 => 217 | 57 => 220 | n => n, fun | 22 => 65 | 24 => 141 | 25 => 235 | 3 => 3 | 39 => 171 | 0 => 0 | 53 => 170 | 55 => 172 | 4 => 4 | 46 => 244 | 45 => 243 | 50 => 167 | 5 => 5 | 9 => 9 | 66 => 260 | 70 => 264 | 76 => 272 | 77 => 37 | n => n, fun | n => n⟩
theorem Tryz.sortL : Go.Proofs.SlLaysF0.n6 Tryz.prog Tryz.sortL_ren := {
 mixed := by kernel_rfl
 f6 := ⟨Tryz.f177.name, by decide, Tryz.func177.trans (congrArg some (by kernel_rfl))⟩
 f14 := ⟨Tryz.f192.name, by decide, Tryz.func192.trans (congrArg some (by kernel_rfl))⟩
 f15 := Tryz.func175.trans (congrArg some (by kernel_rfl))
 f20 := ⟨Tryz.f203.name, by decide, Tryz.func203.trans (congrArg some (by kernel_rfl))⟩
 f21 := ⟨Tryz.f204.name, by decide, Tryz.func204.trans (congrArg some (by kernel_rfl))⟩
 f22 := ⟨Tryz.f205.name, by decide, Tryz.func205.trans (congrArg some (by kernel_rfl))⟩
 f23 := ⟨Tryz.f206.name, by decide, Tryz.func206.trans (congrArg some (by kernel_rfl))⟩
 f24 := ⟨Tryz.f207.name, by decide, Tryz.func207.trans (congrArg some (by kernel_rfl))⟩
 f25 := ⟨Tryz.f208.name, by decide, Tryz.func208.trans (congrArg some (by kernel_rfl))⟩
 f26 := ⟨Tryz.f209.name, by decide, Tryz.func209.trans (congrArg some (by kernel_rfl))⟩
 f27 := ⟨Tryz.f210.name, by decide, Tryz.func210.trans (congrArg some (by kernel_rfl))⟩
 f28 := Tryz.func190.trans (congrArg some (by kernel_rfl))
 f29 := Tryz.func191.trans (congrArg some (by kernel_rfl))
 f46 := ⟨Tryz.f215.name, by decide, Tryz.func215.trans (congrArg some (by kernel_rfl))⟩
 f47 := Tryz.func198.trans (congrArg some (by kernel_rfl))
 f48 := Tryz.func199.trans (congrArg some (by kernel_rfl))
 f49 := ⟨Tryz.f216.name, by decide, Tryz.func216.trans (congrArg some (by kernel_rfl))⟩
 f50 := ⟨Tryz.f217.name, by decide, Tryz.func217.trans (congrArg some (by kernel_rfl))⟩
 f57 := ⟨Tryz.f220.name, by decide, Tryz.func220.trans (congrArg some (by kernel_rfl))⟩
 t0 := Tryz.underlying0
 a0 := Tryz.isAgg0
 z0 := Tryz.sizeOf0
 v0 := Tryz.zeroValue0
 t3 := Tryz.underlying3
 a3 := Tryz.isAgg3
 z3 := Tryz.sizeOf3
 v3 := Tryz.zeroValue3
 t4 := Tryz.underlying4
 a4 := Tryz.isAgg4
 z4 := Tryz.sizeOf4
 v4 := Tryz.zeroValue4
 t5 := Tryz.underlying5
 a5 := Tryz.isAgg5
 z5 := Tryz.sizeOf5
 v5 := Tryz.zeroValue5
 t9 := Tryz.underlying9
 a9 := Tryz.isAgg9
 z9 := Tryz.sizeOf9
 v9 := Tryz.zeroValue9
 t22 := Tryz.underlying65
 a22 := Tryz.isAgg65
 z22 := Tryz.sizeOf65
 v22 := Tryz.zeroValue65
 t25 := Tryz.underlying235
 a25 := Tryz.isAgg235
 z25 := Tryz.sizeOf235
 v25 := Tryz.zeroValue235
 t39 := Tryz.underlying171
 a39 := Tryz.isAgg171
 z39 := Tryz.sizeOf171
 v39 := Tryz.zeroValue171
 t45 := Tryz.underlying243
 a45 := Tryz.isAgg243
 z45 := Tryz.sizeOf243
 v45 := Tryz.zeroValue243
 t46 := Tryz.underlying244
 a46 := Tryz.isAgg244
 z46 := Tryz.sizeOf244
 v46 := Tryz.zeroValue244
 t50 := Tryz.underlying167
 a50 := Tryz.isAgg167
 z50 := Tryz.sizeOf167
 v50 := Tryz.zeroValue167
 t53 := Tryz.underlying170
 a53 := Tryz.isAgg170
 z53 := Tryz.sizeOf170
 v53 := Tryz.zeroValue170
 t55 := Tryz.underlying172
 a55 := Tryz.isAgg172
 z55 := Tryz.sizeOf172
 v55 := Tryz.zeroValue172
 t66 := Tryz.underlying260
 a66 := Tryz.isAgg260
 z66 := Tryz.sizeOf260
 v66 := Tryz.zeroValue260
 t70 := Tryz.underlying264
 a70 := Tryz.isAgg264
 z70 := Tryz.sizeOf264
 v70 := Tryz.zeroValue264
 t76 := Tryz.underlying272
 a76 := Tryz.isAgg272
 z76 := Tryz.sizeOf272
 v76 := Tryz.zeroValue272
 t77 := Tryz.underlying37
 a77 := Tryz.isAgg37
 z77 := Tryz.sizeOf37
 v77 := Tryz.zeroValue37 }
end Go.Proofs
/- The steps of a region that draws its order, in short words: what is always shown alike is shown by default. -/
namespace Go.Proofs.YtikbfjnbhogihaaGreatDoor.Bk
open Go.RowKit Go.Proofs.YtikbfjnbhogihaaGreatDoor.M Go.Proofs.YtikbfjnbhogihaaGreatDoorW.PrintWords Go.Proofs.YtikbfjnbhogihaaGreatDoorW.PrintLast Go.Proofs.YtikbfjnbhogihaaGreatDoorW.PrintMore
set_option linter.unusedVariables false
section
variable {P : Program} {ops : Array Oper} {Q : Exit → Act → World → Prop} {md : Region.Mode} {S : World → Prop} {ds : List Nat} {oi : Oper} {v : Value} {fuel : Nat} {l l' : Array Bool} {a a' : Act} {w w1 : World}
theorem pu_ (i : Nat) (N : Option Tmp) (hi : ops[i]? = some oi := by exact rfl) (hN : oi.dst = N := by exact rfl)
  (hl : l.setIfInBounds i true = l' := by (simp only [List.setIfInBounds_toArray, List.set_cons_zero, List.set_cons_succ]; rfl)) (hc : anyB md ops l l' i = true := by kernel_rfl)
  (hQ : ∀ c a w, Q (.panic c) (a.put oi.dst v) w → Q (.panic c) a w := by exact fun _ _ _ h => h) (hw : Region.wanted oi (yielded ops a.tmps) = true := by exact rfl)
  (hy : ∀ w, (execOp a.eval oi).run P w = .ok (.value v) w := by (intro w'; go_simp; with_reducible rfl))
  (ha : a.put N v = a' := by (simp only [Act.put, List.setIfInBounds_toArray, List.set_cons_zero, List.set_cons_succ, i64_w, i32_w]; rfl))
  (h : wpAnyLast P md ops Q S ds fuel l' a' w) : wpAnyLast P md ops Q S ds (fuel + 1) l a w := pure_ l' hi hN hc hQ (.inl ⟨hw, hy⟩) ha h
theorem tk_ (i : Nat) (N : Option Tmp) (hi : ops[i]? = some oi := by exact rfl) (hN : oi.dst = N := by exact rfl)
  (hl : l.setIfInBounds i true = l' := by (simp only [List.setIfInBounds_toArray, List.set_cons_zero, List.set_cons_succ]; rfl)) (hc : takeB md ops ds l l' i = true := by kernel_rfl)
  (hQ : ∀ c a w, Q (.panic c) (a.put oi.dst v) w → Q (.panic c) a w := by exact fun _ _ _ h => h) (hw : Region.wanted oi (yielded ops a.tmps) = true := by exact rfl)
  (hy : ∀ w, S w → (execOp a.eval oi).run P w = .ok (.value v) w) (hS : S w)
  (ha : a.put N v = a' := by (simp only [Act.put, List.setIfInBounds_toArray, List.set_cons_zero, List.set_cons_succ, i64_w, i32_w]; rfl))
  (h : wpAnyLast P md ops Q S ds fuel l' a' w) : wpAnyLast P md ops Q S ds (fuel + 1) l a w := take_ l' hi hN hc hQ (.inl ⟨hw, hy⟩) hS ha h
theorem on_ (i : Nat) (N : Option Tmp) (hi : ops[i]? = some oi := by exact rfl) (hN : oi.dst = N := by exact rfl)
  (hl : l.setIfInBounds i true = l' := by (simp only [List.setIfInBounds_toArray, List.set_cons_zero, List.set_cons_succ]; rfl)) (hc : readyB md ops l l' i = true := by kernel_rfl) (hd : i ∉ ds := by decide)
  (h : ∀ K : Act → World → Prop, Shut (∀ a' w', S w' → (S w' → wpAnyLast P md ops Q S ds fuel l' a' w') → K a' w') → if Region.wanted oi (yielded ops a.tmps) = true then Oper.wp P oi a w K Q else K (a.put N undef) w) :
  wpAnyLast P md ops Q S ds (fuel + 1) l a w := one_ l' hi hN hc hd h
theorem la_ (i : Nat) (N : Option Tmp) (hi : ops[i]? = some oi := by exact rfl) (hN : oi.dst = N := by exact rfl)
  (hl : l.setIfInBounds i true = l' := by (simp only [List.setIfInBounds_toArray, List.set_cons_zero, List.set_cons_succ]; rfl)) (hc : readyB md ops l l' i = true := by kernel_rfl) (hd : i ∈ ds := by decide)
  (h : ∀ K : Act → World → Prop, Shut (∀ a' w', wpAnyLast P md ops Q S ds fuel l' a' w' → K a' w') → if Region.wanted oi (yielded ops a.tmps) = true then Oper.wp P oi a w K Q else K (a.put N undef) w) :
  wpAnyLast P md ops Q S ds (fuel + 1) l a w := last_ l' hi hN hc hd h
theorem nm_ (N : Option Tmp) (v : Value) (ha : a.put N v = a' := by (simp only [Act.put, List.setIfInBounds_toArray, List.set_cons_zero, List.set_cons_succ, i64_w, i32_w]; rfl)) (h : wpAnyLast P md ops Q S ds fuel l a' w) : wpAnyLast P md ops Q S ds fuel l (a.put N v) w := norm_ ha h
theorem va_ {N : Option Tmp} {K : Act → World → Prop} (hrun : (execOp a.eval oi).run P w = .ok (.value v) w1 := by (go_simp; constructor; rfl; rfl)) (hw : Region.wanted oi (yielded ops a.tmps) = true := by exact rfl) (hN : oi.dst = N := by exact rfl) 
  (h : K (a.put N v) w1) : if Region.wanted oi (yielded ops a.tmps) = true then Oper.wp P oi a w K Q else K (a.put N undef) w := value_ hw hN hrun h
theorem sk_ {K : Act → World → Prop} (hrun : (execOp a.eval oi).run P w = .ok .skip w1 := by (go_simp; rfl)) (hw : Region.wanted oi (yielded ops a.tmps) = true := by exact rfl) (hN : oi.dst = none := by exact rfl)
  (h : K a w1) : if Region.wanted oi (yielded ops a.tmps) = true then Oper.wp P oi a w K Q else K (a.put none undef) w := skip_ hw hN hrun h
end
end Go.Proofs.YtikbfjnbhogihaaGreatDoor.Bk
