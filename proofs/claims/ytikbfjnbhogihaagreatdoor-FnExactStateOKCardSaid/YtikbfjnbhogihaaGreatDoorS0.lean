/- Some of this seat's texts, joined by prune.py. -/
import Derived.Test.YtikbfjnbhogihaaGreatDoorM0
import Derived.Test.YtikbfjnbhogihaaGreatDoorF92
import Derived.BigQuiet
import Derived.Deep.Quiet
import Derived.WalkKit
import Derived.Test.YtikbfjnbhogihaaGreatDoorShelf
import Derived.Sort.LotA
import Derived.Shelf.SlSortCmp.Insertion
import Derived.Shelf.Small.Strs
/- Some of this seat's texts, joined by prune.py. -/
/- Some of this seat's texts, joined by prune.py. -/
-- By pp.py, a program of this repo, with the kit's printer: Lean checks it.
namespace Go.Proofs.YtikbfjnbhogihaaGreatDoor.M
open Go.RowKit Go.Proofs.YtikbfjnbhogihaaGreatDoorW.PrintWords Go.Proofs.YtikbfjnbhogihaaGreatDoorW.PrintLast Go.Proofs.YtikbfjnbhogihaaGreatDoorW.PrintMore
attribute [local go_sem] max2_int min2_int max_two min_two max_three min_three max_four min_four
set_option linter.unusedVariables false
set_option linter.unusedSimpArgs false
def IsS189 (w0 W : World) (g : Nat) (f0 : ByteArray) : Prop := W.heap[g]? = some (.cells #[.string f0] 189 (0, 0)) ∧ w0.heap.size ≤ g
theorem IsS189.grown {w0 W : World} {g : Nat} {f0 : ByteArray} {W1 : World} {row : Option Nat} (h : IsS189 w0 W g f0) (hw : W.grownBy W1 row) (hne : some g ≠ row) : IsS189 w0 W1 g f0 := by
 obtain ⟨hb, hg⟩ := h
 exact ⟨blk_grown hb hw hne, hg⟩
theorem IsS189.kept {w0 W : World} {g : Nat} {f0 : ByteArray} {W1 : World} {S : Nat → Prop} (h : IsS189 w0 W g f0) (hk : Kept W W1 S) (hne : ¬ S g) : IsS189 w0 W1 g f0 := by
 obtain ⟨hb, hg⟩ := h
 exact ⟨blk_kept hb hk hne, hg⟩
theorem IsS189.below {w0 W : World} {g : Nat} {f0 : ByteArray} {W1 : World} (h : IsS189 w0 W g f0) (hw : Below W.heap.size W W1) : IsS189 w0 W1 g f0 := h.grown (grown_of_below hw none) (by simp)
theorem IsS189.alloc {w0 W : World} {g : Nat} {f0 : ByteArray} (h : IsS189 w0 W g f0) (o : Obj) : IsS189 w0 (W.alloc o) g f0 := h.below (below_alloc (Below.refl _ _) o)
theorem IsS189.drewN {w0 W : World} {g : Nat} {f0 : ByteArray} (h : IsS189 w0 W g f0) (m : Nat) : IsS189 w0 (W.drewN m) g f0 := h
theorem IsS189.drew {w0 W : World} {g : Nat} {f0 : ByteArray} (h : IsS189 w0 W g f0) : IsS189 w0 W.drew g f0 := h
theorem IsS189.at_ {w0 W : World} {g : Nat} {f0 : ByteArray} {w' : World} {m : Nat} (hq : W.drewN m = w') (h : IsS189 w0 W g f0) : IsS189 w0 w' g f0 := by subst hq; exact IsS189.drewN h m
theorem IsS189.apart {w0 W : World} {g : Nat} {f0 : ByteArray} {α : Type} {d : Kd α} {e : Nat} {base : Nat} {ok : Nat → Prop} {v : Value} {xs : List α} (h : IsS189 w0 W g f0) (ho : d.R e W base ok v xs) (ht : ∀ q, q ∈ e :: d.E → q ≠ 189) : d.R e W base (fun k => ok k ∧ k ≠ g) v xs := by
 obtain ⟨hb, hg⟩ := h
 exact Kd.R_types ho hb ht
theorem IsS189.own_ne {w0 W : World} {g : Nat} {f0 : ByteArray} {α : Type} {d : Kd α} {e : Nat} {base : Nat} {ok : Nat → Prop} {v : Value} {xs : List α} (h : IsS189 w0 W g f0) (ho : d.R e W base ok v xs) (ht : e ≠ 189) : some g ≠ v.ownBlock := by
 obtain ⟨hb, hg⟩ := h
 exact Kd.R_ne ho hb ht
theorem IsS189.ge {w0 W : World} {g : Nat} {f0 : ByteArray} (h : IsS189 w0 W g f0) : w0.heap.size ≤ g := by
 obtain ⟨hb, hg⟩ := h
 exact hg
theorem IsS189.far {w0 W : World} {g : Nat} {f0 : ByteArray} {p : Addr} (h : IsS189 w0 W g f0) (hne : g ≠ p.block) (u : Value) : IsS189 w0 (W.setCell p u) g f0 := by
 obtain ⟨hb, hg⟩ := h
 exact ⟨blk_far hb hne u, hg⟩
theorem cellS189_0 {W : World} {g : Nat} {f0 : ByteArray} (h : W.heap[g]? = some (.cells #[.string f0] 189 (0, 0))) : W.cell? ⟨g, 0, none⟩ = some (.string f0) := (blk_cell h 0).trans rfl
theorem IsS189.set_0 {w0 W : World} {g : Nat} {f0 : ByteArray} (h : IsS189 w0 W g f0) (x : ByteArray) : IsS189 w0 (W.setCell ⟨g, 0, none⟩ (.string x)) g x := by
 obtain ⟨hb, hg⟩ := h
 exact ⟨by simpa using blk_set hb 0 (.string x), hg⟩
theorem IsS189.new (w0 W : World) (f0 : ByteArray) (hB : Below w0.heap.size w0 W) : IsS189 w0 (W.alloc (.cells #[.string f0] 189)) W.heap.size f0 := ⟨by simpa using heap_alloc_new W _, hB.size⟩
end Go.Proofs.YtikbfjnbhogihaaGreatDoor.M
-- By pp.py, a program of this repo, with the kit's printer: Lean checks it.
namespace Go.Proofs.YtikbfjnbhogihaaGreatDoor.M
open Go.RowKit Go.Proofs.YtikbfjnbhogihaaGreatDoorW.PrintWords Go.Proofs.YtikbfjnbhogihaaGreatDoorW.PrintLast Go.Proofs.YtikbfjnbhogihaaGreatDoorW.PrintMore
attribute [local go_sem] max2_int min2_int max_two min_two max_three min_three max_four min_four
set_option linter.unusedVariables false
set_option linter.unusedSimpArgs false
/-! ### spec_l4MetricName: function 51 -/
def spec_l4MetricName.f (k : Nat) (a0 : ByteArray) : Option (Bool) := if a0.toList = ([] : List UInt8) then (some false) else ((spec_l3Value.f k a0).bind fun t127 => (some (t127 == 0)))
theorem spec_l4MetricName.mono : ∀ a0 k, LeO (spec_l4MetricName.f k a0) (spec_l4MetricName.f (k + 1) a0) := by
 intro a0 k
 unfold spec_l4MetricName.f
 repeat' first
   | (with_reducible exact spec_l3Value.mono _ _)
   | (with_reducible exact LeO.refl _)
   | (with_reducible exact LeO.none _)
   | (with_reducible refine LeO.ite ?_ ?_)
   | (with_reducible refine LeO.bind ?_ (fun _ => ?_))
   | exact spec_l3Value.mono _ _
   | exact LeO.none _
   | refine LeO.ite ?_ ?_
   | refine LeO.bind ?_ (fun _ => ?_)
set_option maxHeartbeats 8000000 in
set_option maxRecDepth 100000 in
theorem spec_l4MetricName.calls (k : Nat) (a0 : ByteArray) (r : Bool) (w : World) (h : spec_l4MetricName.f k a0 = some r) :
  Calls Tryz.prog 51 #[.string a0] w fun e w' => e = .returned (.bool r) ∧ Below w.heap.size w w' := by
 have HB := Aside0.mk (Below.refl w.heap.size w)
 have H : (if a0.toList = ([] : List UInt8) then (some false) else ((spec_l3Value.f k a0).bind fun t127 => (some (t127 == 0)))) = some r := h
 clear h
 by_cases c2 : a0.toList = ([] : List UInt8)
 ·rw [if_pos c2] at H
  have c2b0 : (a0.toList == ([] : List UInt8)) = true := beq_iff_eq.mpr c2
  have c2b1 : (a0.toList != ([] : List UInt8)) = false := bne_eq_false_iff_eq.mpr c2
  clear c2
  obtain rfl := Option.some.inj H
  go_enter Tryz.func51, Tryz.ntmps51
  go_wp2
  go_ret
  exact ⟨by first | rfl | (simp [errW_none, errW_some] <;> rfl) | (simp [*, errW_none, errW_some] <;> rfl) | (simp [*, errW_none, errW_some]; generalize ByteArray.toList _ = q_; cases q_ <;> rfl), by repeat (first | (with_reducible first | exact HB.out | apply below_alloc | apply pw_below_drewN | apply below_drew1) | exact HB.out)⟩
 ·rw [if_neg c2] at H
  have c2b0 : (a0.toList == ([] : List UInt8)) = false := beq_eq_false_iff_ne.mpr c2
  have c2b1 : (a0.toList != ([] : List UInt8)) = true := bne_iff_ne.mpr c2
  replace H := Option.bind_eq_some_iff.mp H
  obtain ⟨t127, A30, H⟩ := H
  replace H : (some (t127 == 0)) = some r := H
  have A3 := Aside0.mk A30
  clear A30
  obtain rfl := Option.some.inj H
  go_enter Tryz.func51, Tryz.ntmps51
  go_wp2_with (first | (go_at_call 92; (with_reducible refine (spec_l3Value.calls k a0 t127 _ A3.out).mono ?_); rintro e w4 ⟨rfl, hb⟩; have n0_ := Aside0.mk (below_step (by repeat (first | (with_reducible first | exact HB.out | apply below_alloc | apply pw_below_drewN | apply below_drew1) | exact HB.out)) hb); clear HB; have HB := n0_; clear n0_; (try clear hb); (try clear hb2); (try clear hk); (try clear hi)))
  go_ret
  exact ⟨by first | rfl | (simp [errW_none, errW_some] <;> rfl) | (simp [*, errW_none, errW_some] <;> rfl) | (simp [*, errW_none, errW_some]; generalize ByteArray.toList _ = q_; cases q_ <;> rfl), by repeat (first | (with_reducible first | exact HB.out | apply below_alloc | apply pw_below_drewN | apply below_drew1) | exact HB.out)⟩
end Go.Proofs.YtikbfjnbhogihaaGreatDoor.M
/- Some of this seat's texts, joined by prune.py. -/
/- What stands in blocks of a world that a call has made, and that nothing else of the elder world has turned: one word, and its laws. -/
namespace Go.Proofs.YtikbfjnbhogihaaGreatDoor.M
open Go.RowKit Go.Proofs.YtikbfjnbhogihaaGreatDoorW.PrintWords Go.Proofs.YtikbfjnbhogihaaGreatDoorW.PrintLast Go.Proofs.YtikbfjnbhogihaaGreatDoorW.PrintMore
structure Kp (w W : World) (L : List (Nat × Obj)) : Prop where
 bel : Below w.heap.size w W
 has : ∀ p ∈ L, W.heap[p.1]? = some p.2
namespace Kp
variable {w W W' : World} {L : List (Nat × Obj)}
theorem start (w : World) : Kp w w [] := ⟨Below.refl _ _, fun _ h => by cases h⟩
theorem step (h : Kp w W L) (hb : Below W.heap.size W W') : Kp w W' L := ⟨below_step h.bel hb, fun p hp => blk_below (h.has p hp) hb⟩
theorem new (h : Kp w W L) (o : Obj) : Kp w (W.alloc o) ((W.heap.size, o) :: L) :=
 ⟨below_alloc h.bel o, fun p hp => by
  rcases List.mem_cons.1 hp with rfl | hp
  ·exact blk_new W o
  ·exact blk_alloc (h.has p hp) o⟩
theorem alloc (h : Kp w W L) (o : Obj) : Kp w (W.alloc o) L := ⟨below_alloc h.bel o, fun p hp => blk_alloc (h.has p hp) o⟩
theorem drewN (h : Kp w W L) (n : Nat) : Kp w (W.drewN n) L := ⟨pw_below_drewN h.bel n, h.has⟩
theorem drew (h : Kp w W L) : Kp w W.drew L := ⟨below_drew1 h.bel, h.has⟩
theorem sub (h : Kp w W L) {L' : List (Nat × Obj)} (hs : ∀ p ∈ L', p ∈ L) : Kp w W L' := ⟨h.bel, fun p hp => h.has p (hs p hp)⟩
theorem fst {p : Nat × Obj} (h : Kp w W (p :: L)) : W.heap[p.1]? = some p.2 := h.has p List.mem_cons_self
theorem tl {p : Nat × Obj} (h : Kp w W (p :: L)) : Kp w W L := h.sub fun _ hq => List.mem_cons_of_mem _ hq
theorem far (h : Kp w W L) {g j : Nat} (hg : w.heap.size ≤ g) (hn : ∀ p ∈ L, p.1 ≠ g) (v : Value) : Kp w (W.setCell ⟨g, j, none⟩ v) L :=
 ⟨below_set h.bel hg, fun p hp => (Below.heap_setCell W ⟨g, j, none⟩ v p.1 (hn p hp)).trans (h.has p hp)⟩
theorem ne_of_lt {g : Nat} (h : ∀ p ∈ L, W.heap[p.1]? = some p.2) (hg : W.heap.size ≤ g) : ∀ p ∈ L, p.1 ≠ g := fun p hp e => by
 have := blk_lt (h p hp); omega
structure Cls (w : World) (L : List (Nat × Obj)) where
 at_ : World
 kp : Kp w at_ L
theorem region {P : Program} {id : Nat} {Q : Exit → Act → World → Prop} {a : Act} {w w0 : World} {L : List (Nat × Obj)} {l : List Oper} (hm : P.follows .mixedOrders = true) (hB : Region.lexB .any l.toArray = true) (hK : Kp w w0 L)
  (h : wpQuiet P l.toArray (fun w' => ∃ n : Cls w L, w' = n.at_) (fun a' => ∀ w', (∃ n : Cls w L, w' = n.at_) → Q .normal a' w') l a) : (Code.region id l.toArray true).wp P Q a w0 :=
 wp_region_quiet (C := fun w' => ∃ n : Cls w L, w' = n.at_) hm hB ⟨⟨_, hK.drew⟩, rfl⟩ (by simpa using h)
theorem call {P : Program} {f : FuncId} {args : Array Value} {w : World} {L : List (Nat × Obj)} {v : Value} (n : Cls w L) (h : Calls P f args n.at_ fun e w' => e = .returned v ∧ Below n.at_.heap.size n.at_ w') :
  Calls P f args n.at_ fun e w' => e = .returned v ∧ ∃ m : Cls w L, w' = m.at_ :=
 h.mono fun _ w' ⟨he, hb⟩ => ⟨he, ⟨w', n.kp.step hb⟩, rfl⟩
end Kp
theorem below_drawn0 {w w' : World} (h : Drawn0 w w') : Below w.heap.size w w' := by
 obtain ⟨n, rfl⟩ := h
 exact pw_below_drewN (Below.refl _ _) n
end Go.Proofs.YtikbfjnbhogihaaGreatDoor.M
/- impl.join: texts, one behind the other. -/
namespace Go.Proofs.YtikbfjnbhogihaaGreatDoor.M
open Go.RowKit Go.Proofs.YtikbfjnbhogihaaGreatDoorW.PrintWords Go.Proofs.YtikbfjnbhogihaaGreatDoorW.PrintLast Go.Proofs.YtikbfjnbhogihaaGreatDoorW.PrintMore
set_option linter.unusedVariables false
set_option linter.unusedSimpArgs false
namespace Jn
theorem join_empty (xs : List (List UInt8)) : Lib.join xs [] = xs.flatten := by
 unfold Lib.join
 induction xs with
 | nil => rfl
 | cons x xs ih => cases xs with
  | nil => simp [List.intercalate]
  | cons y ys => simp [List.intercalate, List.intersperse] at ih ⊢; exact ih
def cat (xs : List ByteArray) : List UInt8 := (xs.map (·.data.toList)).flatten
end Jn
def impl_join.f (l0 : List ByteArray) : Option (ByteArray × List ByteArray) := if (Jn.cat l0).length ≤ 140737488355328 ∧ l0.length ≤ 140737488355328 then some (⟨(Jn.cat l0).toArray⟩, l0) else none
set_option maxHeartbeats 1000000 in
theorem impl_join.calls (P0 : Nat → Prop) (u : Value) (l0 : List ByteArray) (r1 : ByteArray) (r2 : List ByteArray) (w0 w : World) (hB : Below w0.heap.size w0 w) (ho : Kd.R Kd.string 9 w w0.heap.size P0 u l0) (h : impl_join.f l0 = some (r1, r2)) :
  Calls Tryz.prog 163 #[u] w fun e w' => e = .returned (.string r1) ∧ Kd.R Kd.string 9 w' w0.heap.size (fun k => P0 k ∨ w.heap.size ≤ k) u r2 ∧ Below w0.heap.size w0 w' ∧ Kept w w' (fun k => P0 k) := by
 unfold impl_join.f at h
 by_cases hz : (Jn.cat l0).length ≤ 140737488355328 ∧ l0.length ≤ 140737488355328
 ·rw [if_pos hz] at h
  obtain ⟨rfl, rfl⟩ := Prod.mk.inj (Option.some.inj h)
  have hj : Lib.join (l0.map (·.data.toList)) (⟨#[]⟩ : ByteArray).data.toList = Jn.cat l0 := Jn.join_empty _
  have HJ := Aside0.mk hj
  have HO := Aside0.mk ho
  have HB := Aside0.mk hB
  clear hj h hB
  obtain ⟨A, c, rfl⟩ := Kd.R_slice ho
  have hrd := Kd.R_reads' ho
  have HC := Aside0.mk hrd.2.2
  have hc := hrd.2.1
  clear ho hrd
  cases l0 with
  | nil =>
   go_enter Tryz.func163, Tryz.ntmps163
   go_wp2_with fail
   refine (Tryz.strings_Join_none A c ⟨#[]⟩ _).mono ?_
   rintro e w' ⟨rfl, rfl⟩
   go_wp2_with fail
   go_ret
   exact ⟨rfl, Kd.R_mono HO.out (fun _ hk => .inl hk), HB.out, Kept.refl _ _⟩
  | cons x l =>
   obtain ⟨g, cap, e, _, hglt, _⟩ := Kd.R_form HO.out (by simp)
   injection e with eA _ ec
   subst eA
   have hcells : ∀ (j : Nat) y, (x :: l)[j]? = some y → w.cell? ⟨g, 0 + j, none⟩ = some (.string y) := by
    intro j y hy
    have hlt : j < (x :: l).length := (List.getElem?_eq_some_iff.1 hy).1
    obtain ⟨ad', e', hcc⟩ := Kd.at_string HC.out (j : Int) (by omega) (by omega)
    obtain rfl := Option.some.inj e'
    rw [Int.toNat_natCast] at hcc
    have e2 : rdOf ByteArray.empty (x :: l) (j : Int) = y := by
     unfold rdOf
     rw [Int.toNat_natCast, List.getD_eq_getElem?_getD, hy]; rfl
    rw [e2, add_plain] at hcc
    rw [Nat.zero_add]
    exact hcc
   have HCell := Aside0.mk hcells
   clear hcells ec
   go_enter Tryz.func163, Tryz.ntmps163
   go_wp2_with fail
   refine (Tryz.strings_Join g 0 c (x :: l) ⟨#[]⟩ _ HCell.out hglt hz.2 hc (by rw [HJ.out]; exact hz.1)).mono ?_
   rintro e w' ⟨he, hb⟩
   rw [HJ.out] at he
   subst he
   have HB2 := Aside0.mk hb
   clear hb
   go_wp2_with fail
   go_ret
   exact ⟨rfl, Kd.R_mono (Kd.R_below HO.out HB2.out) (fun _ hk => .inl hk), below_then HB.out HB.out.size HB2.out, Kept.of_below HB2.out _⟩
 ·rw [if_neg hz] at h; cases h
end Go.Proofs.YtikbfjnbhogihaaGreatDoor.M
/- Some of this seat's texts, joined by prune.py. -/
/- Some of this seat's texts, joined by prune.py. -/
-- By pp.py, a program of this repo, with the kit's printer: Lean checks it.
namespace Go.Proofs.YtikbfjnbhogihaaGreatDoor.M
open Go.RowKit Go.Proofs.YtikbfjnbhogihaaGreatDoorW.PrintWords Go.Proofs.YtikbfjnbhogihaaGreatDoorW.PrintLast Go.Proofs.YtikbfjnbhogihaaGreatDoorW.PrintMore
attribute [local go_sem] max2_int min2_int max_two min_two max_three min_three max_four min_four
set_option linter.unusedVariables false
set_option linter.unusedSimpArgs false
/-! ### impl_source_text: function 157 -/
def impl_source_text.f (s0_0 : ByteArray) (a1 : Int) : Option (ByteArray × ByteArray) := if 0 ≤ (mn a1 (s0_0.size : Int)) then (if (mn a1 (s0_0.size : Int)) ≤ (s0_0.size : Int) then (some (s0_0.extract 0 ((mn a1 (s0_0.size : Int)) : Int).toNat, s0_0.extract ((mn a1 (s0_0.size : Int)) : Int).toNat s0_0.size)) else (none)) else (none)
set_option maxHeartbeats 8000000 in
set_option maxRecDepth 100000 in
theorem impl_source_text.calls (g : Nat) (s0_0 : ByteArray) (a1 : Int) (r1 : ByteArray) (r2 : ByteArray) (w0 w : World) (hI : IsS189 w0 w g s0_0) (hB : Below w0.heap.size w0 w) (h : impl_source_text.f s0_0 a1 = some (r1, r2)) :
  Calls Tryz.prog 157 #[.pointer (some ⟨g, 0, none⟩), .int .i64 a1] w fun e w' => e = .returned (.string r1) ∧ IsS189 w0 w' g r2 ∧ Below w0.heap.size w0 w' ∧ KeepBut w w' g none := by
 have HI0 := Aside0.mk hI
 have HK := Aside0.mk (KeepBut.refl w g none)
 have HL := Aside0.mk hB.size
 clear hI
 have HW0 := Aside0.mk hB.size
 have HB := Aside0.mk hB
 clear hB
 have H : (if 0 ≤ (mn a1 (s0_0.size : Int)) then (if (mn a1 (s0_0.size : Int)) ≤ (s0_0.size : Int) then (some (s0_0.extract 0 ((mn a1 (s0_0.size : Int)) : Int).toNat, s0_0.extract ((mn a1 (s0_0.size : Int)) : Int).toNat s0_0.size)) else (none)) else (none)) = some (r1, r2) := h
 clear h
 obtain ⟨ji3, hji3⟩ : ∃ j_ : Int, (mn a1 (s0_0.size : Int)) = j_ := ⟨_, rfl⟩
 replace H : (if 0 ≤ (ji3) then (if (ji3) ≤ (s0_0.size : Int) then (some (s0_0.extract 0 ((ji3) : Int).toNat, s0_0.extract ((ji3) : Int).toNat s0_0.size)) else (none)) else (none)) = some (r1, r2) := by first | (rw [hji3] at H; exact H) | (simp only [hji3] at H ⊢; exact H)
 have hji3_ : (if (s0_0.size : Int) < a1 then (s0_0.size : Int) else a1) = ji3 := hji3
 by_cases c4 : 0 ≤ (ji3)
 ·rw [if_pos c4] at H
  have c4b0 := eq_true c4
  have c4b1 : decide (0 ≤ (ji3)) = true := decide_eq_true c4
  clear c4
  by_cases c5 : (ji3) ≤ (s0_0.size : Int)
  ·rw [if_pos c5] at H
   have c5b0 := eq_true c5
   have c5b1 : decide ((ji3) ≤ (s0_0.size : Int)) = true := decide_eq_true c5
   clear c5
   have c6b0 := eq_true (of_decide_eq_true (by first | (with_reducible assumption) | assumption) : 0 ≤ (ji3))
   have c7b0 := eq_true (of_decide_eq_true (by first | (with_reducible assumption) | assumption) : (ji3) ≤ (s0_0.size : Int))
   simp only [Option.some.injEq, Prod.mk.injEq] at H
   obtain ⟨rfl, rfl⟩ := H
   obtain ⟨HGz8, hgz8⟩ := HI0.out
   have hcz8_0 := cellS189_0 HGz8
   have hfz8_0 := blk_frozen HGz8 0
   clear HGz8 hgz8
   go_enter Tryz.func157, Tryz.ntmps157
   go_wp2
   go_ret
   exact ⟨by first | rfl | (simp [errW_none, errW_some] <;> rfl) | (simp only [← hji3]; first | rfl | (simp [errW_none, errW_some] <;> rfl)) | (simp [*, errW_none, errW_some] <;> rfl), by repeat (first | (with_reducible first | exact HI0.out | apply IsS189.alloc | apply IsS189.drewN | apply IsS189.drew | apply IsS189.set_0) | exact HI0.out), by repeat (first | (with_reducible first | exact HB.out | apply below_alloc | apply pw_below_drewN | apply below_drew1 | refine below_set ?_ (IsS189.ge HI0.out)) | exact HB.out), by repeat (first | (with_reducible first | exact HK.out | apply KeepBut.set_ | apply keep_drewN | apply keep_drew | apply keep_alloc) | exact HK.out)⟩
  ·rw [if_neg c5] at H
   exact absurd H (by simp)
 ·rw [if_neg c4] at H
  exact absurd H (by simp)
end Go.Proofs.YtikbfjnbhogihaaGreatDoor.M
/- num: the lowest 1, 2, 4 or 8 bytes of a whole number, high byte first. -/
namespace Go.Proofs.YtikbfjnbhogihaaGreatDoor.M
open Go.RowKit Go.Proofs.YtikbfjnbhogihaaGreatDoorW.PrintWords Go.Proofs.YtikbfjnbhogihaaGreatDoorW.PrintLast Go.Proofs.YtikbfjnbhogihaaGreatDoorW.PrintMore
set_option linter.unusedVariables false
set_option linter.unusedSimpArgs false
namespace Num
def byte8 (N : Int) (p : Nat) : Int := (N / 256 ^ (7 - p)) % 256
def arr8 (N : Int) (j : Nat) : Array Value := ((List.range 8).map fun p => Value.int .u8 (if 8 - j ≤ p then byte8 N p else 0)).toArray
theorem arr8_old (N : Int) (j : Nat) (h : j < 8) : (arr8 N j)[7 - j]? = some (.int .u8 0) := by
 rw [arr8, List.getElem?_toArray, List.getElem?_map, List.getElem?_range (by omega)]
 simp; omega
theorem arr8_set (N : Int) (j : Nat) (h : j < 8) : (arr8 N j).setIfInBounds (7 - j) (.int .u8 (N / 256 ^ j % 256)) = arr8 N (j + 1) := by
 have : j = 0 ∨ j = 1 ∨ j = 2 ∨ j = 3 ∨ j = 4 ∨ j = 5 ∨ j = 6 ∨ j = 7 := by omega
 rcases this with rfl | rfl | rfl | rfl | rfl | rfl | rfl | rfl <;> rfl
theorem arr8_div (N : Int) (j : Nat) : N / 256 ^ j / 256 = N / 256 ^ (j + 1) := by
 rw [Int.pow_succ, Int.ediv_ediv_of_nonneg]
 exact Int.pow_nonneg (by decide)
def nums8 (m : Nat) (N : Int) : List Int := (List.range m).map fun p => byte8 N (8 - m + p)
def bytes (m : Nat) (N : Int) : ByteArray := strOfNums (nums8 m N)
theorem conv (w : World) (N : Int) (m : Nat) (hm : m ≤ 8) : (convert 53 9 (.slice (some ⟨w.heap.size, 8 - m, none⟩) m m)).run Tryz.prog (w.alloc (.cells (arr8 N 8) 236)) = .ok (.string (bytes m N)) (w.alloc (.cells (arr8 N 8) 236)) := by
 refine run_convert_bytes_arg _ 53 5 Tryz.underlying53 Tryz.underlying5 w.heap.size (8 - m) m m (nums8 m N) (by simp [nums8]) (fun i hi => ?_) 9 Tryz.underlying9
 rw [World.cell?_alloc_mark]
 simp only [arr8, nums8]
 rw [List.getElem?_toArray, List.getElem?_map, List.getElem?_range (by omega)]
 simp [List.getD, List.getElem?_map, List.getElem?_range hi]
end Num
def impl_num.f (a0 : Int) (a1 : Int) : Option (ByteArray) := if a0 = 1 then some (Num.bytes 1 a1) else if a0 = 2 then some (Num.bytes 2 a1) else if a0 = 4 then some (Num.bytes 4 a1) else if a0 = 8 then some (Num.bytes 8 a1) else none
open Num in
set_option maxHeartbeats 1000000 in
set_option maxRecDepth 100000 in
theorem impl_num.calls (a0 : Int) (a1 : Int) (r : ByteArray) (w : World) (h : impl_num.f a0 a1 = some r) :
  Calls Tryz.prog 160 #[.int .i64 a0, .int .i64 a1] w fun e w' => e = .returned (.string r) ∧ Below w.heap.size w w' := by
 have hc : ∃ m : Nat, (m = 1 ∨ m = 2 ∨ m = 4 ∨ m = 8) ∧ a0 = (m : Int) ∧ r = Num.bytes m a1 := by
  unfold impl_num.f at h
  split at h
  ·rename_i e; exact ⟨1, by omega, e, (Option.some.inj h).symm⟩
  split at h
  ·rename_i e; exact ⟨2, by omega, e, (Option.some.inj h).symm⟩
  split at h
  ·rename_i e; exact ⟨4, by omega, e, (Option.some.inj h).symm⟩
  split at h
  ·rename_i e; exact ⟨8, by omega, e, (Option.some.inj h).symm⟩
  ·cases h
 clear h
 obtain ⟨m, hm, rfl, rfl⟩ := hc
 have hconv := conv w a1 m (by omega)
 have hb : Below w.heap.size w (w.alloc (.cells (arr8 a1 8) 236)) := (Below.refl _ _).alloc (Nat.le_refl _) _
 have HB := Aside0.mk hb
 clear hb
 rcases hm with rfl | rfl | rfl | rfl
 all_goals
  simp only [Nat.reduceSub] at hconv
  go_enter Tryz.func160, Tryz.ntmps160
  go_wp2
  go_loopw [1, 6] (fun n i wr => ∃ j : Nat, j ≤ 8 ∧ i = .int .i64 (7 - j) ∧ n = .int .i64 (a1 / 256 ^ j) ∧ wr = w.alloc (.cells (arr8 a1 j) 236)) (fun _ i _ => (intOf i + 1).toNat)
  case atStart => exact ⟨0, by omega, by simp, by simp, by simp [arr8, List.range, List.range.loop]⟩
  case round =>
   obtain ⟨j, hj, rfl, rfl, rfl⟩ := hrel
   obtain rfl | hj8 : j = 8 ∨ j < 8 := by omega
   ·go_wp2
    go_ret
    exact ⟨rfl, HB.out⟩
   ·have hg : (0 : Int) ≤ 7 - (j : Int) := by omega
    have ho := arr8_old a1 j hj8
    go_wp2
    refine ⟨⟨j + 1, by omega, ?_, ?_, ?_⟩, ?_⟩
    ·congr 1; omega
    ·rw [arr8_div]
    ·rw [arr8_set a1 j hj8]
    ·simp [intOf]; omega
end Go.Proofs.YtikbfjnbhogihaaGreatDoor.M
/- Labels in the order of their names: a permutation in order is what putting each at its place gives. Plain. -/
namespace Go.Proofs.YtikbfjnbhogihaaGreatDoor.CanSort
open Go.Proofs.YtikbfjnbhogihaaGreatDoor.M Go.Sort Go.Shelf
abbrev Lb := S141
instance : Inhabited Lb := ⟨z141⟩
theorem less_irrefl : ∀ a : List UInt8, Op.bytesLess a a = false
 | [] => by simp [Op.bytesLess]
 | a :: x => by rw [Op.bytesLess, less_irrefl x]; simp
theorem less_trans : ∀ a b c : List UInt8, Op.bytesLess a b = true → Op.bytesLess b c = true → Op.bytesLess a c = true
 | _, [], _ => by simp [Op.bytesLess]
 | _, _ :: _, [] => by simp [Op.bytesLess]
 | [], _ :: _, _ :: _ => by simp [Op.bytesLess]
 | a :: x, b :: y, c :: z => by
  have ih := less_trans x y z
  simp only [Op.bytesLess, Bool.or_eq_true, decide_eq_true_eq, Bool.and_eq_true, beq_iff_eq]
  rintro (h1 | ⟨rfl, h1⟩) (h2 | ⟨rfl, h2⟩)
  ·left; rw [UInt8.lt_iff_toNat_lt] at *; omega
  ·exact .inl h1
  ·exact .inl h2
  ·exact .inr ⟨rfl, ih h1 h2⟩
theorem less_total : ∀ a b : List UInt8, Op.bytesLess a b = false → Op.bytesLess b a = false → a = b
 | [], [] => fun _ _ => rfl
 | [], _ :: _ => by simp [Op.bytesLess]
 | _ :: _, [] => by simp [Op.bytesLess]
 | a :: x, b :: y => by
  have ih := less_total x y
  simp only [Op.bytesLess, Bool.or_eq_false_iff, decide_eq_false_iff_not, Bool.and_eq_false_iff, beq_eq_false_iff_ne]
  rintro ⟨h1, h2⟩ ⟨h3, h4⟩
  have e : a = b := by
   rw [UInt8.lt_iff_toNat_lt] at h1 h3
   exact UInt8.toNat_inj.1 (by omega)
  subst e
  rw [ih (h2.resolve_left (fun h => h rfl)) (h4.resolve_left (fun h => h rfl))]
theorem cmp_neg : ∀ a b : List UInt8, Lib.compareBytes a b < 0 ↔ Op.bytesLess a b = true
 | [], [] => by simp [Lib.compareBytes, Op.bytesLess]
 | [], _ :: _ => by simp [Lib.compareBytes, Op.bytesLess]
 | _ :: _, [] => by simp [Lib.compareBytes, Op.bytesLess]
 | a :: x, b :: y => by
  rw [Lib.compareBytes, Op.bytesLess]
  have ih := cmp_neg x y
  by_cases h1 : a < b
  ·rw [if_pos h1]; simp [h1]
  ·rw [if_neg h1]
   by_cases h2 : b < a
   ·rw [if_pos h2]
    have : a ≠ b := fun e => by subst e; exact absurd h2 (UInt8.lt_irrefl _)
    simp [h1, this]
   ·rw [if_neg h2, ih]
    have : a = b := by
     rw [UInt8.lt_iff_toNat_lt] at h1 h2
     exact UInt8.toNat_inj.1 (by omega)
    simp [this]
def less (a b : Lb) : Bool := Op.bytesLess a.f0.toList b.f0.toList
def L (a b : Lb) : Prop := less a b = true
theorem L_trans {a b c : Lb} (h1 : L a b) (h2 : L b c) : L a c := less_trans _ _ _ h1 h2
theorem L_of {a b : Lb} (h : ¬ L a b) (hne : a.f0.toList ≠ b.f0.toList) : L b a := by
 cases hb : less b a with
 | true => exact hb
 | false =>
  have ha : less a b = false := by simpa [L] using h
  exact absurd (less_total _ _ ha hb) hne
theorem L_ne {a b : Lb} (h : L a b) : a.f0.toList ≠ b.f0.toList := by
 intro e
 have h2 : Op.bytesLess a.f0.toList b.f0.toList = true := h
 rw [e, less_irrefl] at h2
 cases h2
def ins : List Lb → Lb → List Lb
 | [], l => [l]
 | o :: out, l => if less o l = true then o :: ins out l else l :: o :: out
theorem ins_perm : ∀ (out : List Lb) (l : Lb), (ins out l).Perm (l :: out)
 | [], l => List.Perm.refl _
 | o :: out, l => by
  unfold ins
  split
  ·exact ((ins_perm out l).cons o).trans (List.Perm.swap l o out)
  ·exact List.Perm.refl _
theorem ins_sorted : ∀ (out : List Lb) (l : Lb), out.Pairwise L → (∀ o ∈ out, o.f0.toList ≠ l.f0.toList) → (ins out l).Pairwise L
 | [], l, _, _ => by simp [ins]
 | o :: out, l, h, hne => by
  rw [List.pairwise_cons] at h
  unfold ins
  split
  ·rename_i hlt
   rw [List.pairwise_cons]
   refine ⟨fun x hx => ?_, ins_sorted out l h.2 (fun y hy => hne y (List.mem_cons_of_mem _ hy))⟩
   rcases List.mem_cons.1 ((ins_perm out l).mem_iff.1 hx) with rfl | hx
   ·exact hlt
   ·exact h.1 x hx
  ·rename_i hlt
   have hlo : L l o := L_of (a := o) (b := l) hlt (hne o (List.mem_cons_self ..))
   rw [List.pairwise_cons]
   refine ⟨fun x hx => ?_, List.pairwise_cons.2 h⟩
   rcases List.mem_cons.1 hx with rfl | hx
   ·exact hlo
   ·exact L_trans hlo (h.1 x hx)
theorem ins_at : ∀ (out : List Lb) (l : Lb) (k : Nat), k ≤ out.length → (∀ j, j < k → ∀ h : j < out.length, less out[j] l = true) → (∀ h : k < out.length, less out[k] l = false) → ins out l = out.take k ++ l :: out.drop k
 | [], l, k, hk, _, _ => by
  obtain rfl : k = 0 := by simpa using hk
  rfl
 | o :: out, l, 0, _, _, h2 => by
  unfold ins
  rw [if_neg (by rw [show less o l = false from h2 (by simp)]; simp)]
  rfl
 | o :: out, l, k + 1, hk, h1, h2 => by
  unfold ins
  have hh : less o l = true := h1 0 (by omega) (by simp)
  rw [if_pos hh, ins_at out l k (by simpa using hk) (fun j hj h => h1 (j + 1) (by omega) (by simpa using h)) (fun h => h2 (by simpa using h))]
  rfl
def Once (l : List Lb) : Prop := l.Pairwise (fun a b => a.f0.toList ≠ b.f0.toList)
theorem fold_sorted : ∀ (k acc : List Lb), acc.Pairwise L → Once k → (∀ o ∈ acc, ∀ x ∈ k, o.f0.toList ≠ x.f0.toList) → (k.foldl ins acc).Pairwise L ∧ (k.foldl ins acc).Perm (acc ++ k)
 | [], acc, h, _, _ => ⟨h, by simp⟩
 | x :: k, acc, h, ho, hd => by
  unfold Once at ho
  rw [List.pairwise_cons] at ho
  obtain ⟨h1, h2⟩ := fold_sorted k (ins acc x) (ins_sorted acc x h (fun o hm => hd o hm x (List.mem_cons_self ..))) ho.2 (fun o hm y hy => by
   rcases List.mem_cons.1 ((ins_perm acc x).mem_iff.1 hm) with rfl | hm
   ·exact ho.1 y hy
   ·exact hd o hm y (List.mem_cons_of_mem _ hy))
  refine ⟨h1, h2.trans ?_⟩
  refine ((ins_perm acc x).append_right k).trans ?_
  exact (List.perm_middle (a := x) (l₁ := acc) (l₂ := k)).symm
theorem uniq {a b : List Lb} (hp : a.Perm b) (ha : a.Pairwise L) (hb : b.Pairwise L) : a = b :=
 List.Perm.eq_of_pairwise (le := L) (fun _ _ _ _ h1 h2 => absurd (L_trans h1 h2) (fun h => L_ne h rfl)) ha hb hp
def order (k : List Lb) : List Lb := k.foldl ins []
theorem order_perm (k : List Lb) (h : Once k) : (order k).Perm k := by
 have := (fold_sorted k [] (by simp) h (by simp)).2
 unfold order
 simpa using this
theorem order_sorted (k : List Lb) (h : Once k) : (order k).Pairwise L := (fold_sorted k [] (by simp) h (by simp)).1
def cf (a b : Lb) : Int := Lib.compareBytes a.f0.data.toList b.f0.data.toList
theorem cf_less (a b : Lb) : ltOf cf a b = less a b := by
 unfold ltOf cf less
 rw [Bool.eq_iff_iff, decide_eq_true_eq, cmp_neg, ByteArray.toList_eq, ByteArray.toList_eq]
theorem swo : SWO (ltOf cf) where
 irrefl x := by rw [cf_less]; exact less_irrefl _
 trans x y z h1 h2 := by rw [cf_less] at *; exact less_trans _ _ _ h1 h2
 ntrans x y z h1 h2 := by
  rw [cf_less] at *
  cases h3 : less x z with
  | false => rfl
  | true =>
   exfalso
   cases h4 : less y x with
   | true =>
    have := less_trans _ _ _ h4 h3
    rw [show Op.bytesLess y.f0.toList z.f0.toList = less y z from rfl, h2] at this
    cases this
   | false =>
    have e := less_total _ _ h1 h4
    have h5 : Op.bytesLess x.f0.toList z.f0.toList = true := h3
    rw [e] at h5
    rw [show Op.bytesLess y.f0.toList z.f0.toList = less y z from rfl, h2] at h5
    cases h5
theorem sorted_order (d d' : Array Lb) (hp : PermIn 0 d.size d d') (hs : SortedIn (ltOf cf) 0 d.size d') (ho : Once d.toList) : d'.toList = order d.toList := by
 obtain ⟨hsz, _, hperm⟩ := hp
 have e1 : d'.extract 0 d.size = d' := by rw [← hsz]; exact Array.extract_size
 rw [e1, Array.extract_size] at hperm
 refine uniq (hperm.trans (order_perm _ ho).symm) ?_ (order_sorted _ ho)
 have hod : Once d'.toList := by
  unfold Once
  exact (List.Perm.pairwise_iff (fun h => Ne.symm h) hperm.symm).1 ho
 rw [List.pairwise_iff_getElem]
 intro i j hi hj hij
 have hi' : i < d'.size := by simpa using hi
 have hj' : j < d'.size := by simpa using hj
 have h1 := hs i j (Nat.zero_le _) hij (by omega)
 rw [getElem!_pos d' j hj', getElem!_pos d' i hi', cf_less] at h1
 have h2 := List.pairwise_iff_getElem.1 hod i j hi hj hij
 exact L_of (a := d'.toList[j]) (b := d'.toList[i]) (by simpa [L] using h1) (fun e => h2 e.symm)
end Go.Proofs.YtikbfjnbhogihaaGreatDoor.CanSort
