import Derived.Test.YtikbfjnbhogihaaGreatDoorM0
import Derived.Test.YtikbfjnbhogihaaGreatDoorF134
import Derived.Test.YtikbfjnbhogihaaGreatDoorKeyPlain
import Derived.Test.YtikbfjnbhogihaaGreatDoorF151
import Derived.Test.YtikbfjnbhogihaaGreatDoorLabLen
import Derived.Test.YtikbfjnbhogihaaGreatDoorF104
import Derived.Test.YtikbfjnbhogihaaGreatDoorF136
/- An account of the book and the book: what lies in memory, block by block. -/
namespace Go.Proofs.YtikbfjnbhogihaaGreatDoor.Bk
open Go.RowKit Go.Proofs.YtikbfjnbhogihaaGreatDoor.M Go.Proofs.YtikbfjnbhogihaaGreatDoorW.PrintWords Go.Proofs.YtikbfjnbhogihaaGreatDoorW.PrintLast Go.Proofs.YtikbfjnbhogihaaGreatDoorW.PrintMore
set_option linter.unusedVariables false
abbrev Tn := S87
abbrev Ml := S91
abbrev Sr := S93
abbrev Sg := S93
theorem sg_own {w : World} {base : Nat} {ok : Nat → Prop} {v : Value} {xs : List Sg} (h : Kd.R k93 169 w base ok v xs) : Kd.R k93 169 w base (fun k => v.ownBlock = some k) v xs :=
 ⟨fun k hk => hk, h.2.imp_ fun p c hp => by rw [k93_openM hp]; exact k93_mkM _ _ _ p⟩
structure Sx where
 k : ByteArray
 g : Nat
 last : Int
structure Ac where
 lim : Int
 mb : Nat
 sb : Nat
 cb : Nat
 v : Value
 met : List Ml
 ser : List Sx
 cnt : Mp.Al
 its : List Sg
abbrev ptr (g : Nat) : Value := .pointer (some ⟨g, 0, none⟩)
def gins {α : Type} (kf : α → ByteArray) (x : α) : List α → List α
 | [] => [x]
 | y :: r => if bytesBefore (kf x).data.toList (kf y).data.toList = true then x :: y :: r else y :: gins kf x r
def gdel {α : Type} (kf : α → ByteArray) (s : ByteArray) (l : List α) : List α := l.filter fun y => !((kf y).data.toList == s.data.toList)
def gget {α : Type} (kf : α → ByteArray) (s : ByteArray) (l : List α) : Option α := l.find? fun y => (kf y).data.toList == s.data.toList
theorem map_gins {α : Type} (f : α → ByteArray × Value) (x : α) : ∀ l : List α, (gins (fun y => (f y).1) x l).map f = Mp.ins (f x) (l.map f)
 | [] => rfl
 | y :: r => by
  unfold gins
  rw [List.map_cons, Mp.ins]
  split
  ·rfl
  ·rw [List.map_cons, map_gins f x r]
theorem map_gdel {α : Type} (f : α → ByteArray × Value) (s : ByteArray) (l : List α) : (gdel (fun y => (f y).1) s l).map f = Mp.del (l.map f) s := by
 unfold gdel Mp.del
 rw [List.filter_map]
 rfl
theorem get_map {α : Type} (f : α → ByteArray × Value) (s : ByteArray) (l : List α) : Mp.get (l.map f) s = (gget (fun y => (f y).1) s l).map fun y => (f y).2 := by
 unfold Mp.get gget
 rw [List.find?_map, Option.map_map]
 rfl
theorem gget_some {α : Type} {kf : α → ByteArray} {s : ByteArray} {l : List α} {x : α} (h : gget kf s l = some x) : x ∈ l ∧ kf x = s :=
 ⟨List.mem_of_find?_eq_some h, by
  have h1 := List.find?_some (p := fun y => (kf y).data.toList == s.data.toList) h
  exact Mp.key_inj (eq_of_beq h1)⟩
theorem gdel_none {α : Type} {kf : α → ByteArray} {s : ByteArray} {l : List α} (h : ∀ x ∈ l, kf x ≠ s) : gdel kf s l = l := by
 unfold gdel
 refine List.filter_eq_self.2 fun x hx => ?_
 rw [Bool.not_eq_true', beq_eq_false_iff_ne]
 exact fun e => h x hx (Mp.key_inj e)
theorem gins_mem {α : Type} {kf : α → ByteArray} {x p : α} : ∀ {l : List α}, p ∈ gins kf x l ↔ p = x ∨ p ∈ l
 | [] => by simp [gins]
 | y :: r => by
  unfold gins
  split
  ·simp
  ·rw [List.mem_cons, gins_mem, List.mem_cons]
   constructor
   ·rintro (h | h | h)
    ·exact .inr (.inl h)
    ·exact .inl h
    ·exact .inr (.inr h)
   ·rintro (h | h | h)
    ·exact .inr (.inl h)
    ·exact .inl h
    ·exact .inr (.inr h)
theorem gins_perm {α : Type} {kf : α → ByteArray} (x : α) : ∀ l : List α, (gins kf x l).Perm (x :: l)
 | [] => List.Perm.refl _
 | y :: r => by
  unfold gins
  split
  ·exact List.Perm.refl _
  ·exact ((gins_perm x r).cons y).trans (List.Perm.swap _ _ _)
def fM (m : Ml) : ByteArray × Value := (m.f0, .int .i64 m.f1)
def fX (x : Sx) : ByteArray × Value := (x.k, ptr x.g)
def sers (l : List Sx) : Mp.Al := l.map fX
abbrev lessV : Value := .func (.func 114) #[] #[]
abbrev cA (l : Int) (m s c : Nat) (v : Value) : Obj := .cells #[.int .i64 l, .map (some m), .map (some s), .map (some c), v, lessV] 116
abbrev cX (k : ByteArray) (n : Int) : Obj := .cells #[.string k, .int .i64 n] 93
theorem c2 {W : World} {g : Nat} {x y : Value} {t : TypeId} (h : W.heap[g]? = some (.cells #[x, y] t (0, 0))) : W.cell? ⟨g, 0, none⟩ = some x ∧ W.cell? ⟨g, 1, none⟩ = some y := ⟨(blk_cell h 0).trans rfl, (blk_cell h 1).trans rfl⟩
theorem c6 {W : World} {g : Nat} {a b c d e f : Value} {t : TypeId} (h : W.heap[g]? = some (.cells #[a, b, c, d, e, f] t (0, 0))) : W.cell? ⟨g, 0, none⟩ = some a ∧ W.cell? ⟨g, 1, none⟩ = some b ∧ W.cell? ⟨g, 2, none⟩ = some c ∧ W.cell? ⟨g, 3, none⟩ = some d ∧ W.cell? ⟨g, 4, none⟩ = some e ∧ W.cell? ⟨g, 5, none⟩ = some f := ⟨(blk_cell h 0).trans rfl, (blk_cell h 1).trans rfl, (blk_cell h 2).trans rfl, (blk_cell h 3).trans rfl, (blk_cell h 4).trans rfl, (blk_cell h 5).trans rfl⟩
def fp (a : Nat) (A : Ac) (i : Nat) : Prop := i = a ∨ i = A.mb ∨ i = A.sb ∨ i = A.cb ∨ A.v.ownBlock = some i ∨ ∃ x ∈ A.ser, x.g = i
structure At (w : World) (base a : Nat) (A : Ac) : Prop where
 blk : w.heap[a]? = some (cA A.lim A.mb A.sb A.cb A.v)
 mm : Mp.Is Tryz.prog 9 w A.mb (A.met.map fM)
 ms : Mp.Is Tryz.prog 9 w A.sb (sers A.ser)
 mc : Mp.Is Tryz.prog 9 w A.cb A.cnt
 n1 : A.mb ≠ A.sb
 n2 : A.mb ≠ A.cb
 n3 : A.sb ≠ A.cb
 sx : ∀ x ∈ A.ser, w.heap[x.g]? = some (cX x.k x.last)
 nd : (A.ser.map (·.g)).Nodup
 it : Kd.R k93 169 w base (fun _ => True) A.v A.its
 lo : ∀ i, fp a A i → base ≤ i
theorem At.lt {w : World} {base a : Nat} {A : Ac} (h : At w base a A) {i : Nat} (hi : fp a A i) : i < w.heap.size := by
 rcases hi with rfl | rfl | rfl | rfl | hi | ⟨x, hx, rfl⟩
 ·exact blk_lt h.blk
 ·exact h.mm.lt
 ·exact h.ms.lt
 ·exact h.mc.lt
 ·obtain ⟨cells, hc⟩ := Kd.R_typed h.it i hi
  exact blk_lt hc
 ·exact blk_lt (h.sx x hx)
theorem At.move {w w' : World} {base a : Nat} {A : Ac} (h : At w base a A) (hm : ∀ i, fp a A i → w'.heap[i]? = w.heap[i]?) : At w' base a A where
 blk := (hm a (.inl rfl)).trans h.blk
 mm := h.mm.move (hm _ (.inr (.inl rfl)))
 ms := h.ms.move (hm _ (.inr (.inr (.inl rfl))))
 mc := h.mc.move (hm _ (.inr (.inr (.inr (.inl rfl)))))
 n1 := h.n1
 n2 := h.n2
 n3 := h.n3
 sx := fun x hx => (hm _ (.inr (.inr (.inr (.inr (.inr ⟨x, hx, rfl⟩)))))).trans (h.sx x hx)
 nd := h.nd
 it := Kd.R_mono (Kd.R_move (sg_own h.it) fun k hk => hm _ (.inr (.inr (.inr (.inr (.inl hk)))))) fun _ _ => trivial
 lo := h.lo
theorem At.below {w w' : World} {base a : Nat} {A : Ac} (h : At w base a A) (hb : Below w.heap.size w w') : At w' base a A := h.move fun i hi => hb.block i (h.lt hi)
theorem At.kept {w w' : World} {base a : Nat} {A : Ac} {S : Nat → Prop} (h : At w base a A) (hk : Kept w w' S) (hne : ∀ i, fp a A i → ¬ S i) : At w' base a A := h.move fun i hi => hk.2 i (h.lt hi) (hne i hi)
theorem At.kinds {w : World} {base a : Nat} {A : Ac} (h : At w base a A) : (∀ x ∈ A.ser, x.g ≠ a) ∧ A.mb ≠ a ∧ A.sb ≠ a ∧ A.cb ≠ a ∧ A.v.ownBlock ≠ some a ∧ (∀ x ∈ A.ser, A.mb ≠ x.g ∧ A.sb ≠ x.g ∧ A.cb ≠ x.g ∧ A.v.ownBlock ≠ some x.g) ∧ A.v.ownBlock ≠ some A.mb ∧ A.v.ownBlock ≠ some A.sb ∧ A.v.ownBlock ≠ some A.cb := by
 obtain ⟨e1, c1, h1⟩ := h.mm.block
 obtain ⟨e2, c2, h2⟩ := h.ms.block
 obtain ⟨e3, c3, h3⟩ := h.mc.block
 have hv := Kd.R_typed h.it
 refine ⟨fun x hx e => ?_, fun e => ?_, fun e => ?_, fun e => ?_, fun e => ?_, fun x hx => ⟨fun e => ?_, fun e => ?_, fun e => ?_, fun e => ?_⟩, fun e => ?_, fun e => ?_, fun e => ?_⟩
 ·have := h.sx x hx; rw [e, h.blk] at this; cases this
 ·rw [e, h.blk] at h1; cases h1
 ·rw [e, h.blk] at h2; cases h2
 ·rw [e, h.blk] at h3; cases h3
 ·obtain ⟨c, hc⟩ := hv a e; rw [h.blk] at hc; cases hc
 ·rw [e, h.sx x hx] at h1; cases h1
 ·rw [e, h.sx x hx] at h2; cases h2
 ·rw [e, h.sx x hx] at h3; cases h3
 ·obtain ⟨c, hc⟩ := hv x.g e; rw [h.sx x hx] at hc; cases hc
 ·obtain ⟨c, hc⟩ := hv _ e; rw [h1] at hc; cases hc
 ·obtain ⟨c, hc⟩ := hv _ e; rw [h2] at hc; cases hc
 ·obtain ⟨c, hc⟩ := hv _ e; rw [h3] at hc; cases hc
theorem turned_blk {w w' : World} {b i : Nat} (h : w.mapTurned w' b) (hi : i ≠ b) (hlt : i < w.heap.size) : w'.heap[i]? = w.heap[i]? := h.grown.block i hlt (fun e => hi (by injection e))
theorem At.cnt' {w w' : World} {base a : Nat} {A : Ac} (h : At w base a A) {l : Mp.Al} (hl : Mp.Is Tryz.prog 9 w' A.cb l) (ht : w.mapTurned w' A.cb) : At w' base a { A with cnt := l } := by
 obtain ⟨k1, k2, k3, k4, k5, k6, k7, k8, k9⟩ := h.kinds
 have hm : ∀ i, fp a A i → i ≠ A.cb → w'.heap[i]? = w.heap[i]? := fun i hi hne => turned_blk ht hne (h.lt hi)
 refine ⟨(hm a (.inl rfl) (Ne.symm k4)).trans h.blk, h.mm.move (hm _ (.inr (.inl rfl)) h.n2), h.ms.move (hm _ (.inr (.inr (.inl rfl))) h.n3), hl, h.n1, h.n2, h.n3, fun x hx => (hm _ (.inr (.inr (.inr (.inr (.inr ⟨x, hx, rfl⟩))))) (Ne.symm (k6 x hx).2.2.1)).trans (h.sx x hx), h.nd, ?_, h.lo⟩
 exact Kd.R_mono (Kd.R_move (sg_own h.it) fun k hk => hm _ (.inr (.inr (.inr (.inr (.inl hk))))) (fun e => k9 (e ▸ hk))) fun _ _ => trivial
theorem At.ser' {w w' : World} {base a : Nat} {A : Ac} (h : At w base a A) {k : ByteArray} {g : Nat} {n : Int} (hg : w.heap[g]? = some (cX k n)) (hb : base ≤ g) (hnew : ¬ fp a A g) (hk : ∀ x ∈ A.ser, x.k ≠ k)
  (hl : Mp.Is Tryz.prog 9 w' A.sb (Mp.put (sers A.ser) k (ptr g))) (ht : w.mapTurned w' A.sb) : At w' base a { A with ser := gins (·.k) ⟨k, g, n⟩ A.ser } := by
 obtain ⟨k1, k2, k3, k4, k5, k6, k7, k8, k9⟩ := h.kinds
 have hm : ∀ i, fp a A i → i ≠ A.sb → w'.heap[i]? = w.heap[i]? := fun i hi hne => turned_blk ht hne (h.lt hi)
 have hgs : g ≠ A.sb := fun e => hnew (.inr (.inr (.inl e)))
 have hput : Mp.put (sers A.ser) k (ptr g) = sers (gins (·.k) ⟨k, g, n⟩ A.ser) := by
  unfold Mp.put sers
  rw [← map_gdel fX, show gdel (fun y => (fX y).1) k A.ser = A.ser from gdel_none hk]
  exact (map_gins fX ⟨k, g, n⟩ A.ser).symm
 refine ⟨(hm a (.inl rfl) (Ne.symm k3)).trans h.blk, h.mm.move (hm _ (.inr (.inl rfl)) h.n1), hput ▸ hl, h.mc.move (hm _ (.inr (.inr (.inr (.inl rfl)))) (Ne.symm h.n3)), h.n1, h.n2, h.n3, fun x hx => ?_, ?_, ?_, fun i hi => ?_⟩
 ·rcases gins_mem.1 hx with rfl | hx
  ·exact (turned_blk ht hgs (blk_lt hg)).trans hg
  ·exact (hm _ (.inr (.inr (.inr (.inr (.inr ⟨x, hx, rfl⟩))))) (Ne.symm (k6 x hx).2.1)).trans (h.sx x hx)
 ·refine ((gins_perm ⟨k, g, n⟩ A.ser).map (·.g)).nodup_iff.2 ?_
  rw [List.map_cons, List.nodup_cons]
  exact ⟨fun hc => by
   obtain ⟨x, hx, e⟩ := List.mem_map.1 hc
   exact hnew (.inr (.inr (.inr (.inr (.inr ⟨x, hx, e⟩))))), h.nd⟩
 ·exact Kd.R_mono (Kd.R_move (sg_own h.it) fun k' hk' => hm _ (.inr (.inr (.inr (.inr (.inl hk'))))) (fun e => k8 (e ▸ hk'))) fun _ _ => trivial
 ·rcases hi with hi | hi | hi | hi | hi | ⟨x, hx, hi⟩
  ·exact h.lo i (.inl hi)
  ·exact h.lo i (.inr (.inl hi))
  ·exact h.lo i (.inr (.inr (.inl hi)))
  ·exact h.lo i (.inr (.inr (.inr (.inl hi))))
  ·exact h.lo i (.inr (.inr (.inr (.inr (.inl hi)))))
  ·rcases gins_mem.1 hx with rfl | hx
   ·exact hi ▸ hb
   ·exact h.lo i (.inr (.inr (.inr (.inr (.inr ⟨x, hx, hi⟩)))))
theorem At.del' {w w' : World} {base a : Nat} {A : Ac} (h : At w base a A) {k : ByteArray} (hl : Mp.Is Tryz.prog 9 w' A.sb (Mp.del (sers A.ser) k)) (ht : w.mapTurned w' A.sb) : At w' base a { A with ser := gdel (·.k) k A.ser } := by
 obtain ⟨k1, k2, k3, k4, k5, k6, k7, k8, k9⟩ := h.kinds
 have hm : ∀ i, fp a A i → i ≠ A.sb → w'.heap[i]? = w.heap[i]? := fun i hi hne => turned_blk ht hne (h.lt hi)
 have hdel : Mp.del (sers A.ser) k = sers (gdel (·.k) k A.ser) := (map_gdel fX k A.ser).symm
 have hin : ∀ x ∈ gdel (·.k) k A.ser, x ∈ A.ser := fun x hx => (List.mem_filter.1 hx).1
 refine ⟨(hm a (.inl rfl) (Ne.symm k3)).trans h.blk, h.mm.move (hm _ (.inr (.inl rfl)) h.n1), hdel ▸ hl, h.mc.move (hm _ (.inr (.inr (.inr (.inl rfl)))) (Ne.symm h.n3)), h.n1, h.n2, h.n3, fun x hx => (hm _ (.inr (.inr (.inr (.inr (.inr ⟨x, hin x hx, rfl⟩))))) (Ne.symm (k6 x (hin x hx)).2.1)).trans (h.sx x (hin x hx)), ?_, ?_, fun i hi => ?_⟩
 ·exact h.nd.sublist (List.filter_sublist.map _)
 ·exact Kd.R_mono (Kd.R_move (sg_own h.it) fun k' hk' => hm _ (.inr (.inr (.inr (.inr (.inl hk'))))) (fun e => k8 (e ▸ hk'))) fun _ _ => trivial
 ·rcases hi with hi | hi | hi | hi | hi | ⟨x, hx, hi⟩
  ·exact h.lo i (.inl hi)
  ·exact h.lo i (.inr (.inl hi))
  ·exact h.lo i (.inr (.inr (.inl hi)))
  ·exact h.lo i (.inr (.inr (.inr (.inl hi))))
  ·exact h.lo i (.inr (.inr (.inr (.inr (.inl hi)))))
  ·exact h.lo i (.inr (.inr (.inr (.inr (.inr ⟨x, hin x hx, hi⟩)))))
theorem At.row' {w w' : World} {base a : Nat} {A : Ac} (h : At w base a A) {v : Value} {its : List Sg} (hb : w'.heap[a]? = some (cA A.lim A.mb A.sb A.cb v)) (hr : Kd.R k93 169 w' base (fun _ => True) v its)
  (hk : Kept w w' (fun i => i = a ∨ A.v.ownBlock = some i)) : At w' base a { A with v := v, its := its } := by
 obtain ⟨k1, k2, k3, k4, k5, k6, k7, k8, k9⟩ := h.kinds
 have hm : ∀ i, fp a A i → i ≠ a → A.v.ownBlock ≠ some i → w'.heap[i]? = w.heap[i]? := fun i hi h1 h2 => hk.2 i (h.lt hi) (fun e => e.elim h1 h2)
 refine ⟨hb, h.mm.move (hm _ (.inr (.inl rfl)) k2 k7), h.ms.move (hm _ (.inr (.inr (.inl rfl))) k3 k8), h.mc.move (hm _ (.inr (.inr (.inr (.inl rfl)))) k4 k9), h.n1, h.n2, h.n3, fun x hx => (hm _ (.inr (.inr (.inr (.inr (.inr ⟨x, hx, rfl⟩))))) (k1 x hx) (k6 x hx).2.2.2).trans (h.sx x hx), h.nd, hr, fun i hi => ?_⟩
 rcases hi with hi | hi | hi | hi | hi | hi
 ·exact h.lo i (.inl hi)
 ·exact h.lo i (.inr (.inl hi))
 ·exact h.lo i (.inr (.inr (.inl hi)))
 ·exact h.lo i (.inr (.inr (.inr (.inl hi))))
 ·rcases Kd.R_base2 hr with h1 | ⟨k, h1, h2⟩
  ·rw [show v.ownBlock = some i from hi] at h1; cases h1
  ·rw [show v.ownBlock = some i from hi] at h1
   obtain rfl := Option.some.inj h1
   exact h2
 ·exact h.lo i (.inr (.inr (.inr (.inr (.inr hi)))))
/-! ### the book's accounts -/
structure Tb where
 name : ByteArray
 a : Nat
 A : Ac
def fT (x : Tb) : ByteArray × Value := (x.name, ptr x.a)
def tens (l : List Tb) : Mp.Al := l.map fT
structure Bk (w : World) (base tb : Nat) (l : List Tb) : Prop where
 mp : Mp.Is Tryz.prog 9 w tb (tens l)
 at_ : ∀ x ∈ l, At w base x.a x.A
 dj : l.Pairwise fun x y => ∀ i, fp x.a x.A i → ¬ fp y.a y.A i
 tn : ∀ x ∈ l, ¬ fp x.a x.A tb
theorem Bk.move {w w' : World} {base tb : Nat} {l : List Tb} (h : Bk w base tb l) (h1 : w'.heap[tb]? = w.heap[tb]?) (hm : ∀ x ∈ l, ∀ i, fp x.a x.A i → w'.heap[i]? = w.heap[i]?) : Bk w' base tb l :=
 ⟨h.mp.move h1, fun x hx => (h.at_ x hx).move (hm x hx), h.dj, h.tn⟩
theorem Bk.below {w w' : World} {base tb : Nat} {l : List Tb} (h : Bk w base tb l) (hb : Below w.heap.size w w') : Bk w' base tb l :=
 h.move (hb.block _ h.mp.lt) fun x hx i hi => hb.block i ((h.at_ x hx).lt hi)
theorem Bk.turn {w w' : World} {base tb : Nat} {l1 l2 : List Tb} {x : Tb} {A' : Ac} (h : Bk w base tb (l1 ++ x :: l2)) (hA : At w' base x.a A') (hk : Kept w w' (fp x.a x.A)) (hf : ∀ i, fp x.a A' i → fp x.a x.A i ∨ w.heap.size ≤ i) :
  Bk w' base tb (l1 ++ ⟨x.name, x.a, A'⟩ :: l2) := by
 have hx : x ∈ l1 ++ x :: l2 := by simp
 obtain ⟨d1, d2, d3⟩ := List.pairwise_append.1 h.dj
 obtain ⟨d4, d5⟩ := List.pairwise_cons.1 d2
 have hlt : ∀ y ∈ l1 ++ x :: l2, ∀ i, fp y.a y.A i → i < w.heap.size := fun y hy i hi => (h.at_ y hy).lt hi
 have away1 : ∀ y ∈ l1, ∀ i, fp y.a y.A i → ¬ fp x.a A' i := fun y hy i hi hi' => by
  rcases hf i hi' with h1 | h1
  ·exact d3 y hy x List.mem_cons_self i hi h1
  ·have := hlt y (by simp [hy]) i hi; omega
 have away2 : ∀ y ∈ l2, ∀ i, fp x.a A' i → ¬ fp y.a y.A i := fun y hy i hi hi' => by
  rcases hf i hi with h1 | h1
  ·exact d4 y hy i h1 hi'
  ·have := hlt y (by simp [hy]) i hi'; omega
 refine ⟨?_, fun y hy => ?_, ?_, fun y hy hi => ?_⟩
 ·have e : tens (l1 ++ ⟨x.name, x.a, A'⟩ :: l2) = tens (l1 ++ x :: l2) := by simp [tens, fT]
  rw [e]
  exact h.mp.move (hk.2 tb h.mp.lt (h.tn x hx))
 ·rcases List.mem_append.1 hy with hy | hy
  ·exact (h.at_ y (by simp [hy])).kept hk fun i hi hi' => d3 y hy x List.mem_cons_self i hi hi'
  ·rcases List.mem_cons.1 hy with rfl | hy
   ·exact hA
   ·exact (h.at_ y (by simp [hy])).kept hk fun i hi hi' => d4 y hy i hi' hi
 ·refine List.pairwise_append.2 ⟨d1, List.pairwise_cons.2 ⟨fun y hy => away2 y hy, d5⟩, fun y hy z hz => ?_⟩
  rcases List.mem_cons.1 hz with rfl | hz
  ·exact away1 y hy
  ·exact d3 y hy z (List.mem_cons_of_mem _ hz)
 ·rcases List.mem_append.1 hy with hy | hy
  ·exact h.tn y (by simp [hy]) hi
  ·rcases List.mem_cons.1 hy with rfl | hy
   ·rcases hf tb hi with h1 | h1
    ·exact h.tn x hx h1
    ·have := h.mp.lt; omega
   ·exact h.tn y (by simp [hy]) hi
end Go.Proofs.YtikbfjnbhogihaaGreatDoor.Bk
/- Keys read: both decoders accept just what EncodeKey writes, and give what was written. Plain. -/
namespace Go.Proofs.YtikbfjnbhogihaaGreatDoor.KeyDec
open Go.Proofs.YtikbfjnbhogihaaGreatDoor.M Go.Proofs.YtikbfjnbhogihaaGreatDoor.Loops Go.Proofs.YtikbfjnbhogihaaGreatDoor.Can Go.Proofs.YtikbfjnbhogihaaGreatDoor.Utf Go.Proofs.YtikbfjnbhogihaaGreatDoor.Key Go.Proofs.YtikbfjnbhogihaaGreatDoor.LabLaws Go.Proofs.YtikbfjnbhogihaaGreatDoor.DecLib Go.Proofs.YtikbfjnbhogihaaGreatDoor.M.Enc Go.Proofs.YtikbfjnbhogihaaGreatDoorW.PrintWords Go.Proofs.YtikbfjnbhogihaaGreatDoorW.PrintLast Go.Proofs.YtikbfjnbhogihaaGreatDoorW.PrintMore Go.RowKit
set_option linter.unusedVariables false
set_option linter.unusedSimpArgs false
abbrev Lab := S141
abbrev Out := List Lab × Bool
/-! ### what a key's labels are -/
theorem width4 (s : ByteArray) (pos : Nat) : (Utf8.decode s pos).2 ≤ 4 := by
 rw [Lib.decode_at]
 rcases Lib.decodeN_shape (s.size - pos) (s.get! pos).toNat (s.get! (pos + 1)).toNat (s.get! (pos + 2)).toNat (s.get! (pos + 3)).toNat with h | h | h | h | h
 ·rw [h.2]; exact (by omega : 1 ≤ 4)
 ·rw [h.2.2.2.2]; exact (by omega : 2 ≤ 4)
 ·rw [h.2.2.2.2.2.2]; exact (by omega : 3 ≤ 4)
 ·rw [h.2.2.2.2.2.2.2]; exact (by omega : 4 ≤ 4)
 ·rw [h]; exact (by omega : 1 ≤ 4)
theorem scan_size (s : ByteArray) : ∀ (b pos : Nat) (rs : List Nat), s.size ≤ pos + b → scan s b pos = some rs → s.size ≤ pos + 4 * rs.length := by
 intro b
 induction b with
 | zero => intro pos rs h _; omega
 | succ b ih =>
  intro pos rs h hs
  by_cases hp : pos < s.size
  ·by_cases hb : bad s pos
   ·rw [scan_bad s b pos hp hb] at hs; cases hs
   ·rw [scan_step s b pos hp hb] at hs
    obtain ⟨t, ht, rfl⟩ := Option.map_eq_some_iff.1 hs
    have hw := width_pos s pos hp
    have h4 := width4 s pos
    have := ih _ t (by omega) ht
    rw [List.length_cons]; omega
  ·omega
theorem vf_size (s : ByteArray) (h : vf s = 0) : s.size ≤ 512 := by
 unfold vf at h
 cases hs : scan s s.size 0 with
 | none => rw [hs] at h; cases h
 | some rs =>
  rw [hs] at h
  have := scan_size s s.size 0 rs (by omega) hs
  unfold fin at h
  simp only [Nat.zero_add] at h
  by_cases h1 : 128 < rs.length
  ·rw [if_pos h1] at h; cases h
  ·omega
theorem fault_zero {x : Lab} (h : fault x = 0) : LabOK x := by
 unfold fault at h
 cases hn : nameOK x.f0 with
 | false => rw [hn] at h; cases h
 | true =>
  rw [hn] at h
  have hv := vf_size x.f1 h
  unfold nameOK at hn
  have := of_decide_eq_true (Bool.and_eq_true_iff.1 hn).1
  exact ⟨by omega, by omega⟩
theorem firstF_none : ∀ (l : List Lab) (i : Nat), firstF l i = none → ∀ x ∈ l, fault x = 0
 | [], _, _, x, hx => by cases hx
 | y :: l, i, h, x, hx => by
  by_cases h0 : fault y = 0
  ·rw [firstF_ok h0] at h
   rcases List.mem_cons.1 hx with rfl | hx
   ·exact h0
   ·exact firstF_none l _ h x hx
  ·rw [firstF_bad h0] at h; cases h
theorem firstF_some : ∀ (l : List Lab) (i : Nat) (c : Int) (j : Nat), firstF l i = some (c, j) → c ≠ 0
 | [], _, _, _, h => by cases h
 | y :: l, i, c, j, h => by
  by_cases h0 : fault y = 0
  ·rw [firstF_ok h0] at h
   exact firstF_some l _ c j h
  ·rw [firstF_bad h0] at h
   cases h
   exact h0
def Good (l : List Lab) : Prop := l.length ≤ 16 ∧ ∀ x ∈ l, LabOK x
theorem can_ok {l : List Lab} (h : (can l).2.1 = 0) : Good l := by
 by_cases h16 : 16 < l.length
 ·rw [can_many h16] at h; cases h
 ·cases hf : firstF l 0 with
  | none => exact ⟨by omega, fun x hx => fault_zero (firstF_none l 0 hf x hx)⟩
  | some cj =>
   obtain ⟨c, j⟩ := cj
   rw [can_fault h16 hf] at h
   exact absurd h (firstF_some l 0 c j hf)
theorem wr_list : ∀ (l : List Lab) (b : ByteArray), (wr b l).data.toList = b.data.toList ++ labsL l
 | [], b => by simp [wr, labsL]
 | x :: l, b => by
  unfold wr
  rw [wr_list l, app_, app_, show Key.s8 x.f0 = s8B x.f0 from rfl, show Key.s16 x.f1 = s16B x.f1 from rfl, s8B_list, s16B_list]
  simp only [labsL, List.flatMap_cons, labL, List.append_assoc]
def keyL (l : List Lab) : List UInt8 := nL 1 l.length ++ labsL l
theorem key_good (l : List Lab) (s : ByteArray) (h : (key l).toList = s.toList) (hs : ¬ s.toList = []) : Good l ∧ s = B (keyL l) := by
 have hne : ¬ (key l).toList = [] := fun e => hs (h.symm.trans e)
 have hks : key l = s := by
  apply ByteArray.ext
  apply Array.ext'
  rw [ByteArray.toList_eq, ByteArray.toList_eq] at h
  exact h
 unfold key at hks hne
 by_cases h0 : (can l).2.1 = 0
 ·rw [if_pos h0] at hks hne
  by_cases hsm : same (can l).1 l = true
  ·rw [if_pos hsm] at hks
   refine ⟨can_ok h0, ?_⟩
   rw [← hks]
   have := wr_list l (Num.bytes 1 (l.length : Int))
   rw [← B_list (wr _ l), this]
   rfl
  ·rw [if_neg hsm] at hne
   exact absurd (Can.size_zero.2 rfl) hne
 ·rw [if_neg h0] at hne
  exact absurd (Can.size_zero.2 rfl) hne
noncomputable def fin (s : ByteArray) (l : List Lab) : Out := if s.toList = [] then ([], false) else if (key l).toList = s.toList then (l, true) else ([], false)
theorem fin_ev (s : ByteArray) (l : List Lab) (E : Nat → List Lab → Option ByteArray) (h : Ev (fun k => E k l) (key l)) :
  Ev (fun k => if s.toList = ([] : List UInt8) then (some (([] : List Lab), false)) else ((E k l).bind fun t => (if t.toList = s.toList then (some (l, true)) else (some (([] : List Lab), false))))) (fin s l) := by
 unfold fin
 by_cases h0 : s.toList = []
 ·rw [if_pos h0]; exact Ev.ite_pos h0 (Ev.now _)
 ·rw [if_neg h0]
  refine Ev.ite_neg h0 (Ev.bind h ?_)
  by_cases h1 : (key l).toList = s.toList
  ·exact Ev.eq (Ev.ite_pos h1 (Ev.now _)) (if_pos h1).symm
  ·exact Ev.eq (Ev.ite_neg h1 (Ev.now _)) (if_neg h1).symm
theorem fit_snoc {l : List Lab} {t u : ByteArray} (h : Fit l) (h1 : t.size ≤ 1048576) (h2 : u.size ≤ 1048576) : Fit (l ++ [(⟨t, u⟩ : Lab)]) := by
 intro y hy
 rcases List.mem_append.1 hy with hy | hy
 ·exact h y hy
 ·rw [List.mem_singleton] at hy
  subst hy
  exact ⟨by show t.size ≤ _; omega, by show u.size ≤ _; omega⟩
/-! ### the program's reader -/
theorem impl_end (s : ByteArray) (n : Nat) (acc : List Lab) (rest : ByteArray) (ha : acc.length ≤ 1048576) (hf : Fit acc) : Ev (fun k => impl_DecodeKey.l0 k s acc n n rest) (fin s acc) := by
 refine Ev.step (fun k => ?_) (fin_ev s acc (fun k l => impl_EncodeKey.f k l) (impl_key acc ha hf))
 simp only [impl_DecodeKey.l0]
 rw [if_neg (by omega)]
theorem impl_any (s : ByteArray) (n : Nat) (hn : n ≤ 65535) : ∀ m i, i + m = n → ∀ (acc : List Lab) (rest : ByteArray), acc.length ≤ i → rest.size ≤ 1048576 → Fit acc → ∃ l, Ev (fun k => impl_DecodeKey.l0 k s acc n i rest) (fin s l) := by
 intro m
 induction m with
 | zero =>
  intro i hi acc rest ha hr hf
  obtain rfl : i = n := by omega
  exact ⟨acc, impl_end s i acc rest (by omega) hf⟩
 | succ m ih =>
  intro i hi acc rest ha hr hf
  obtain ⟨t, r1, ht, hr1, h1⟩ := s8_any rest (by omega)
  obtain ⟨u, r2, hu, hr2, h2⟩ := s16_any r1 (by omega)
  obtain ⟨l, hl⟩ := ih (i + 1) (by omega) (acc ++ [(⟨t, u⟩ : Lab)]) r2 (by simp; omega) (by omega) (fit_snoc hf (by omega) (by omega))
  refine ⟨l, Ev.step (fun k => ?_) hl⟩
  simp only [impl_DecodeKey.l0]
  rw [if_pos (by omega), h1, Option.bind_some, h2, Option.bind_some, if_pos (by omega), w_succ i (by omega)]
theorem fit_good {l : List Lab} (h : ∀ x ∈ l, LabOK x) : Fit l := fun x hx => by
 have := h x hx
 exact ⟨by have := this.1; omega, by have := this.2; omega⟩
theorem labL_len (x : Lab) (h : LabOK x) : (labL x).length ≤ 70000 := by
 unfold labL
 rw [List.length_append, s8L_length, s16L_length]
 have := h.1
 have := h.2
 omega
theorem labsL_len : ∀ (l : List Lab), (∀ x ∈ l, LabOK x) → (labsL l).length ≤ l.length * 70000
 | [], _ => Nat.zero_le _
 | x :: l, h => by
  have := labL_len x (h x List.mem_cons_self)
  have := labsL_len l (fun y hy => h y (List.mem_cons_of_mem _ hy))
  show (labL x ++ labsL l).length ≤ _
  rw [List.length_append, List.length_cons]; omega
theorem impl_rt (s : ByteArray) (n : Nat) (hn : n ≤ 16) : ∀ (ls done : List Lab), (∀ x ∈ done, LabOK x) → (∀ x ∈ ls, LabOK x) → done.length + ls.length = n → Ev (fun k => impl_DecodeKey.l0 k s done n done.length (B (labsL ls))) (fin s (done ++ ls)) := by
 intro ls
 induction ls with
 | nil =>
  intro done hd _ hl
  simp only [List.length_nil, Nat.add_zero] at hl
  rw [List.append_nil]
  have := impl_end s n done (B (labsL [])) (by omega) (fit_good hd)
  rw [← hl] at this ⊢
  exact this
 | cons y ls ih =>
  intro done hd hok hl
  have hy := hok y List.mem_cons_self
  have hrest := labsL_len ls (fun z hz => hok z (List.mem_cons_of_mem _ hz))
  simp only [List.length_cons] at hl
  have hle : ls.length * 70000 ≤ 16 * 70000 := Nat.mul_le_mul_right _ (by omega)
  have e : labsL (y :: ls) = s8L y.f0 ++ (s16L y.f1 ++ labsL ls) := by
   show labL y ++ labsL ls = _
   unfold labL
   simp only [List.append_assoc]
  have h16 : (s16L y.f1).length ≤ 65537 := by rw [s16L_length]; have := hy.2; omega
  have h := ih (done ++ [y]) (fun z hz => by
   rcases List.mem_append.1 hz with hz | hz
   ·exact hd z hz
   ·rw [List.mem_singleton] at hz; subst hz; exact hy) (fun z hz => hok z (List.mem_cons_of_mem _ hz)) (by simp; omega)
  rw [show (done ++ [y]).length = done.length + 1 by simp, List.append_assoc] at h
  refine Ev.step (fun k => ?_) h
  simp only [impl_DecodeKey.l0]
  rw [e, if_pos (by omega), s8_rt y.f0 _ hy.1 (by rw [List.length_append]; omega), Option.bind_some, s16_rt y.f1 _ hy.2 (by omega), Option.bind_some, if_pos (by omega), w_succ _ (by omega)]
theorem impl_total (s : ByteArray) (hs : s.size ≤ 1048576) : ∃ l, Ev (fun k => impl_DecodeKey.f k s) (fin s l) := by
 obtain ⟨v, hv, h⟩ := num_small s 1 (.inl rfl) (by omega)
 obtain ⟨l, hl⟩ := impl_any s v hv v 0 (by omega) [] _ (Nat.le_refl _) (show (s.extract (min 1 s.size) s.size).size ≤ 1048576 by rw [ByteArray.size_extract]; omega) (fun x hx => by cases hx)
 refine ⟨l, ?_⟩
 unfold impl_DecodeKey.f
 rw [show (1 : Int) = ((1 : Nat) : Int) from rfl, h]
 simp only [Option.bind_some]
 exact hl
theorem impl_back (l : List Lab) (hg : Good l) : Ev (fun k => impl_DecodeKey.f k (B (keyL l))) (fin (B (keyL l)) l) := by
 have hlen := labsL_len l hg.2
 have hle : l.length * 70000 ≤ 16 * 70000 := Nat.mul_le_mul_right _ hg.1
 have h := num1_rt (l.length : Int) (labsL l) (by omega) (by have := hg.1; omega) (by omega)
 have h2 := impl_rt (B (keyL l)) l.length hg.1 l [] (fun x hx => by cases hx) hg.2 (by simp)
 unfold impl_DecodeKey.f
 rw [show impl_source_num.f (B (keyL l)) 1 = some ((l.length : Int), B (labsL l)) from h]
 simp only [Option.bind_some]
 exact h2
/-! ### the reference's reader -/
theorem spec_step (k : Nat) (s : ByteArray) (acc : List Lab) (p : Int) : spec_DecodeKey.l0 (k + 1) s acc p = spec_DecodeKey.j1 k s acc p (decide (p > 0 ∧ p < (s.size : Int) ∧ (acc.length : Int) ≤ 16)) := by
 simp only [spec_DecodeKey.l0]
 by_cases h1 : p > 0
 ·by_cases h2 : p < (s.size : Int)
  ·rw [if_pos h1, if_pos h2]
   congr 1
   simp [h1, h2]
  ·rw [if_pos h1, if_neg h2, decide_eq_false (fun h => h2 h.2.1)]
 ·rw [if_neg h1, decide_eq_false (fun h => h1 h.1)]
theorem spec_end (s : ByteArray) (acc : List Lab) (p : Int) (hp : ¬ (p > 0 ∧ p < (s.size : Int) ∧ (acc.length : Int) ≤ 16)) (ha : acc.length ≤ 1048576) (hf : Fit acc) : Ev (fun k => spec_DecodeKey.l0 k s acc p) (fin s acc) := by
 refine Ev.step (f := fun k => spec_DecodeKey.j1 k s acc p false) (fun k => by rw [spec_step, decide_eq_false hp]) ?_
 refine Ev.step (fun k => ?_) (fin_ev s acc (fun k l => spec_EncodeKey.f k l) (spec_key acc ha hf))
 simp only [spec_DecodeKey.j1, Bool.false_eq_true, if_false]
theorem spec_any (s : ByteArray) (hs : s.size ≤ 1048576) : ∀ m (acc : List Lab) (p : Int), acc.length + m = 17 → At s p → Fit acc → ∃ l, Ev (fun k => spec_DecodeKey.l0 k s acc p) (fin s l) := by
 intro m
 induction m with
 | zero =>
  intro acc p ha hp hf
  exact ⟨acc, spec_end s acc p (fun h => by have := h.2.2; omega) (by omega) hf⟩
 | succ m ih =>
  intro acc p ha hp hf
  by_cases hc : p > 0 ∧ p < (s.size : Int) ∧ (acc.length : Int) ≤ 16
  ·obtain ⟨t, p1, h1, hp1, ht⟩ := l3_any s p 1 (.inl rfl) hp (by omega)
   obtain ⟨u, p2, h2, hp2, hu⟩ := l3_any s p1 2 (.inr rfl) hp1 (by omega)
   obtain ⟨l, hl⟩ := ih (acc ++ [(⟨t, u⟩ : Lab)]) p2 (by simp; omega) hp2 (fit_snoc hf (by omega) (by omega))
   refine ⟨l, Ev.step (f := fun k => spec_DecodeKey.j1 k s acc p true) (fun k => by rw [spec_step, decide_eq_true hc]) ?_⟩
   refine Ev.step (f := fun k => (spec_l3Part.f k s p ((1 : Nat) : Int)).bind fun bt266 => ((spec_l3Part.f k s bt266.2 ((2 : Nat) : Int)).bind fun bt268 => (spec_DecodeKey.l0 k s (acc ++ [(⟨bt266.1, bt268.1⟩ : Lab)]) bt268.2))) (fun k => ?_) (Ev.bind h1 (Ev.bind h2 hl))
   simp only [spec_DecodeKey.j1, if_true, if_pos (show acc.length < 4398046511104 by omega)]
   rfl
  ·exact ⟨acc, spec_end s acc p hc (by omega) hf⟩
theorem spec_rt (n : Nat) (hn : n ≤ 16) (all : List Lab) (hall : (keyL all).length ≤ 2000000) : ∀ (ls done : List Lab), (∀ x ∈ done, LabOK x) → (∀ x ∈ ls, LabOK x) → done ++ ls = all → done.length + ls.length = n →
  Ev (fun k => spec_DecodeKey.l0 k (B (keyL all)) done ((1 + (labsL done).length : Nat) : Int)) (fin (B (keyL all)) all) := by
 intro ls
 induction ls with
 | nil =>
  intro done hd _ he hl
  rw [List.append_nil] at he
  subst he
  simp only [List.length_nil, Nat.add_zero] at hl
  refine spec_end _ _ _ (fun h => ?_) (by omega) (fit_good hd)
  have h2 := h.2.1
  rw [B_size] at h2
  unfold keyL at h2
  rw [List.length_append, nL_length] at h2
  omega
 | cons y ls ih =>
  intro done hd hok he hl
  have hy := hok y List.mem_cons_self
  simp only [List.length_cons] at hl
  have ed : labsL (done ++ [y]) = labsL done ++ (s8L y.f0 ++ s16L y.f1) := by
   unfold labsL
   rw [List.flatMap_append]
   simp [labL]
  have ea : keyL all = (nL 1 all.length ++ labsL done) ++ s8L y.f0 ++ (s16L y.f1 ++ labsL ls) := by
   rw [← he]
   unfold keyL labsL
   rw [List.flatMap_append, List.flatMap_cons]
   simp only [labL, List.append_assoc]
  have eb : keyL all = (nL 1 all.length ++ labsL done ++ s8L y.f0) ++ s16L y.f1 ++ labsL ls := by
   rw [ea]; simp only [List.append_assoc]
  have h1 := l3_8 (nL 1 all.length ++ labsL done) (s16L y.f1 ++ labsL ls) y.f0 hy.1 (by rw [← ea]; omega)
  have h2 := l3_16 (nL 1 all.length ++ labsL done ++ s8L y.f0) (labsL ls) y.f1 hy.2 (by rw [← eb]; omega)
  rw [← ea] at h1
  rw [← eb] at h2
  have h := ih (done ++ [y]) (fun z hz => by
   rcases List.mem_append.1 hz with hz | hz
   ·exact hd z hz
   ·rw [List.mem_singleton] at hz; subst hz; exact hy) (fun z hz => hok z (List.mem_cons_of_mem _ hz)) (by rw [List.append_assoc]; exact he) (by simp; omega)
  have hp0 : (nL 1 all.length ++ labsL done).length = 1 + (labsL done).length := by rw [List.length_append, nL_length]
  have hp2 : (nL 1 all.length ++ labsL done ++ s8L y.f0 ++ s16L y.f1).length = 1 + (labsL (done ++ [y])).length := by
   rw [ed]; simp only [List.length_append, nL_length]; omega
  rw [hp0] at h1
  rw [hp2] at h2
  have hsz : (B (keyL all)).size = (keyL all).length := B_size _
  have hlt : 1 + (labsL done).length < (keyL all).length := by
   rw [ea]; simp only [List.length_append, nL_length, s8L_length]; omega
  have hc : ((1 + (labsL done).length : Nat) : Int) > 0 ∧ ((1 + (labsL done).length : Nat) : Int) < ((B (keyL all)).size : Int) ∧ (done.length : Int) ≤ 16 := ⟨by omega, by rw [hsz]; omega, by omega⟩
  refine Ev.step (f := fun k => spec_DecodeKey.j1 k (B (keyL all)) done ((1 + (labsL done).length : Nat) : Int) true) (fun k => by rw [spec_step, decide_eq_true hc]) ?_
  refine Ev.step (f := fun k => (spec_l3Part.f k (B (keyL all)) ((1 + (labsL done).length : Nat) : Int) 1).bind fun bt266 => ((spec_l3Part.f k (B (keyL all)) bt266.2 2).bind fun bt268 => (spec_DecodeKey.l0 k (B (keyL all)) (done ++ [(⟨bt266.1, bt268.1⟩ : Lab)]) bt268.2))) (fun k => ?_) (Ev.bind h1 (Ev.bind h2 h))
  simp only [spec_DecodeKey.j1, if_true, if_pos (show done.length < 4398046511104 by omega)]
theorem spec_total (s : ByteArray) (hs : s.size ≤ 1048576) : ∃ l, Ev (fun k => spec_DecodeKey.f k s) (fin s l) := by
 unfold spec_DecodeKey.f
 by_cases h0 : s.size = 0
 ·exact ⟨[], spec_end s [] 1 (fun h => by have := h.2.1; omega) (Nat.zero_le _) (fun x hx => by cases hx)⟩
 ·exact spec_any s hs 17 [] 1 (by simp) (.inr ⟨1, rfl, by omega⟩) (fun x hx => by cases hx)
theorem spec_back (l : List Lab) (hg : Good l) : Ev (fun k => spec_DecodeKey.f k (B (keyL l))) (fin (B (keyL l)) l) := by
 have hlen := labsL_len l hg.2
 have hle : l.length * 70000 ≤ 16 * 70000 := Nat.mul_le_mul_right _ hg.1
 unfold spec_DecodeKey.f
 exact spec_rt l.length hg.1 l (by unfold keyL; rw [List.length_append, nL_length]; omega) l [] (fun x hx => by cases hx) hg.2 rfl (by simp)
theorem same_dec (s : ByteArray) (hs : s.size ≤ 1048576) : ∃ l : List Lab, Ev (fun k => impl_DecodeKey.f k s) (fin s l) ∧ Ev (fun k => spec_DecodeKey.f k s) (fin s l) := by
 obtain ⟨a, ha⟩ := impl_total s hs
 obtain ⟨b, hb⟩ := spec_total s hs
 by_cases h0 : s.toList = []
 ·have e : fin s a = fin s b := by unfold fin; rw [if_pos h0, if_pos h0]
  exact ⟨b, e ▸ ha, hb⟩
 ·by_cases h1 : (key a).toList = s.toList
  ·obtain ⟨hg, rfl⟩ := key_good a s h1 h0
   exact ⟨a, impl_back a hg, spec_back a hg⟩
  ·by_cases h2 : (key b).toList = s.toList
   ·obtain ⟨hg, rfl⟩ := key_good b s h2 h0
    exact ⟨b, impl_back b hg, spec_back b hg⟩
   ·have e : fin s a = fin s b := by unfold fin; rw [if_neg h0, if_neg h0, if_neg h1, if_neg h2]
    exact ⟨b, e ▸ ha, hb⟩
theorem fin_len (s : ByteArray) (l : List Lab) : (fin s l).1.length ≤ 16 := by
 unfold fin
 by_cases h0 : s.toList = []
 ·rw [if_pos h0]; exact Nat.zero_le _
 ·rw [if_neg h0]
  by_cases h1 : (key l).toList = s.toList
  ·rw [if_pos h1]; exact (key_good l s h1 h0).1.1
  ·rw [if_neg h1]; exact Nat.zero_le _
end Go.Proofs.YtikbfjnbhogihaaGreatDoor.KeyDec
