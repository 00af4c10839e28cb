import Derived.Maps.RangeWalk
import Derived.Sort.KeysCollected
import Derived.Maps.Ext
import Derived.Test.YtikbfjnbhogihaaGreatDoorKp
import Derived.Test.YtikbfjnbhogihaaGreatDoorWWords
import Derived.Test.YtikbfjnbhogihaaGreatDoorF102
import Derived.Laws.RangeAny
import Derived.Lib.MapLaws
import Derived.Test.YtikbfjnbhogihaaGreatDoorM0
import Derived.WalkKit
/- Maps keyed by strings whose elements are numbers or pointers to blocks: each as the list of its entries in the order of the keys. -/
namespace Go.Proofs.YtikbfjnbhogihaaGreatDoor.Mp
open Go.Maps Go.ChangeMaps
open Go.WideMaps (keyOf_string_mk)
open Go.WideElems (Fit rg)
open Go.Proofs (encStr)
set_option linter.unusedVariables false
def code : Value → DataW Unit
 | .int .i64 a => .lit (.int .i64 a)
 | .pointer (some ⟨a, 0, none⟩) => .lit (.int .u64 (a : Int))
 | _ => .nil
def adm : Value → Bool
 | .int .i64 _ => true
 | .pointer none => true
 | .pointer (some ⟨_, 0, none⟩) => true
 | _ => false
def R (v : Value) : Option (DataW Unit × List MemPlace) := if adm v = true then some (code v, []) else none
abbrev Al := List (ByteArray × Value)
def key (s : ByteArray) : Lit := .string s.data.toList
theorem key_inj {a b : ByteArray} (h : a.data.toList = b.data.toList) : a = b := by
 cases a; cases b
 simpa using h
def f (p : ByteArray × Value) : Lit × DataW Unit := (key p.1, code p.2)
def D (l : Al) : DataW Unit := .map (l.map f)
def get (l : Al) (s : ByteArray) : Option Value := (l.find? fun p => p.1.data.toList == s.data.toList).map (·.2)
def del (l : Al) (s : ByteArray) : Al := l.filter fun p => !(p.1.data.toList == s.data.toList)
def ins (x : ByteArray × Value) : Al → Al
 | [] => [x]
 | y :: r => if bytesBefore x.1.data.toList y.1.data.toList = true then x :: y :: r else y :: ins x r
def put (l : Al) (s : ByteArray) (v : Value) : Al := ins (s, v) (del l s)
theorem f_ins (x : ByteArray × Value) : ∀ l : Al, (ins x l).map f = DataW.insert (f x) (l.map f)
 | [] => rfl
 | y :: r => by
  show (if bytesBefore x.1.data.toList y.1.data.toList = true then x :: y :: r else y :: ins x r).map f = (if bytesBefore x.1.data.toList y.1.data.toList = true then f x :: f y :: r.map f else f y :: DataW.insert (f x) (r.map f))
  split
  ·rfl
  ·rw [List.map_cons, f_ins x r]
theorem f_del (l : Al) (s : ByteArray) : (del l s).map f = (l.map f).filter fun p => !p.1.sameKey (key s) := by
 unfold del
 rw [List.filter_map]
 rfl
theorem D_del (l : Al) (s : ByteArray) : (D l).del (key s) = D (del l s) := by
 show DataW.map ((l.map f).filter fun p => !p.1.sameKey (key s)) = .map ((del l s).map f)
 rw [f_del]
theorem ins_len (x : ByteArray × Value) : ∀ l : Al, (ins x l).length = l.length + 1
 | [] => rfl
 | y :: r => by
  unfold ins
  split
  ·rfl
  ·simp [ins_len x r]
theorem put_len (l : Al) (s : ByteArray) (v : Value) : (put l s v).length ≤ l.length + 1 := by
 unfold put
 rw [ins_len]
 have := List.length_filter_le (fun p : ByteArray × Value => !(p.1.data.toList == s.data.toList)) l
 unfold del
 omega
section
variable {P : Program} {k t e : TypeId} {w : World} {b : Nat} {l : Al}
def Is (P : Program) (k : TypeId) (w : World) (b : Nat) (l : Al) : Prop := w.ownsMap P k R b l.length (D l) ∧ ∀ p ∈ l, adm p.2 = true
theorem exact_ {n : Nat} {L : List (Lit × DataW Unit)} (h : w.ownsMap P k R b n (.map L)) : w.ownsMap P k R b L.length (.map L) := by
 obtain ⟨es, clock, hb, F, hs, hD⟩ := h
 refine ⟨es, clock, hb, F, ?_, hD⟩
 injection hD with hD
 rw [hD, length_sorted]; simp
theorem Is.lt (h : Is P k w b l) : b < w.heap.size := h.1.lt
theorem Is.block (h : Is P k w b l) : ∃ es c, w.heap[b]? = some (.map es c) := by
 obtain ⟨es, c, hb, _⟩ := h.1
 exact ⟨es, c, hb⟩
theorem Is.move {w' : World} (h : Is P k w b l) (he : w'.heap[b]? = w.heap[b]?) : Is P k w' b l := by
 obtain ⟨⟨es, c, hb, r⟩, ha⟩ := h
 exact ⟨⟨es, c, he.trans hb, r⟩, ha⟩
variable (hk : P.underlying k = some .string) (ht : P.underlying t = some (.map k e))
include hk
include ht
theorem Is.drop (h : Is P k w b l) (s : ByteArray) (hs : s.size ≤ maxLen) (ty : TypeId) :
  ∃ w', (Builtin.delete_ #[t, k] ty #[.map (some b), .string s]).run P w = .ok (.tuple #[]) w' ∧ Is P k w' b (del l s) ∧ w.mapTurned w' b := by
 obtain ⟨w', hrun, h1, h2⟩ := h.1.drop (string_keyed hk) ht (keyOf_string_mk hk hs) ty
 refine ⟨w', hrun, ⟨?_, fun p hp => h.2 p (List.mem_filter.1 hp).1⟩, h2⟩
 have h3 : w'.ownsMap P k R b l.length (D (del l s)) := by rw [← D_del]; exact h1
 have h4 := exact_ h3
 rwa [List.length_map] at h4
omit hk
theorem Is.len (h : Is P k w b l) (ty : TypeId) : (Builtin.len_ #[t] ty #[.map (some b)]).run P w = .ok (.int .i64 (l.length : Nat)) w := by
 have := h.1.len ht ty
 rwa [show Maps.size (D l) = l.length from by simp [D, Maps.size]] at this
end
/-! ### ranged over -/
section
variable {P : Program} {k t e : TypeId} {w : World} {b r cnt : Nat} {l : Al} {left : Lit → Bool}
def Rg (P : Program) (k : TypeId) (w : World) (b r : Nat) (l : Al) (left : Lit → Bool) (cnt : Nat) : Prop := w.ranges P k R b r l.length (D l) left cnt ∧ ∀ p ∈ l, adm p.2 = true
theorem Rg.iter (h : Rg P k w b r l left cnt) : ∃ s0 seen c0, w.heap[r]? = some (.mapIter (some b) s0 seen c0) := by
 obtain ⟨⟨es, clock, since, seen, c0, hb, F, hs, hD, hr, rest⟩, ha⟩ := h
 exact ⟨_, _, _, hr⟩
end
/-! ### at the operation -/
section
variable {P : Program} {ops : Array Oper} {rest : List Oper} {o : Oper} {a : Act} {Q : Exit → Act → World → Prop} {w : World}
end
end Go.Proofs.YtikbfjnbhogihaaGreatDoor.Mp
/- markText has an answer for every number in reach; marking a list of strings and reading the marks again. Plain. -/
namespace Go.Proofs.YtikbfjnbhogihaaGreatDoor.Mark
open Go.Proofs.YtikbfjnbhogihaaGreatDoor.M Go.Proofs.YtikbfjnbhogihaaGreatDoor.Loops Go.Proofs.YtikbfjnbhogihaaGreatDoorW.PrintWords Go.Proofs.YtikbfjnbhogihaaGreatDoorW.PrintLast Go.RowKit
theorem text_loop : ∀ (n : Nat) (x : Nat) (t : ByteArray), x < 10 ^ n → n ≤ 18 → t.size + n ≤ 1000 → ∃ r, Ev (fun k => laws_markText.l0 k x t) r := by
 intro n
 induction n with
 | zero =>
  intro x t hx _ ht
  obtain rfl : x = 0 := by simpa using hx
  exact ⟨_, Ev.step (f := fun _ => some _) (fun k => by simp only [laws_markText.l0]; rw [if_neg (by omega), if_pos (by omega)]) (Ev.now _)⟩
 | succ n ih =>
  intro x t hx hn ht
  by_cases h0 : x = 0
  ·subst h0
   exact ⟨_, Ev.step (f := fun _ => some _) (fun k => by simp only [laws_markText.l0]; rw [if_neg (by omega), if_pos (by omega)]) (Ev.now _)⟩
  ·have hp : (10 : Nat) ^ (n + 1) ≤ 10 ^ 18 := Nat.pow_le_pow_right (by decide) (by omega)
   have hp' : (10 : Nat) ^ 18 = 1000000000000000000 := by decide
   have hdv : x / 10 < 10 ^ n := by
    rw [Nat.pow_succ] at hx
    omega
   obtain ⟨r, hr⟩ := ih (x / 10) (strOfNums [(wrap64 (48 + (Int.tmod (x : Int) 10))) % 256] ++ t) hdv (by omega) (by rw [ByteArray.size_append, strOfNums_size]; simp; omega)
   refine ⟨r, Ev.step (fun k => ?_) hr⟩
   simp only [laws_markText.l0]
   have e : wrap64 (Int.tdiv (x : Int) 10) = ((x / 10 : Nat) : Int) := by
    rw [Int.tdiv_eq_ediv_of_nonneg (by omega), w_id _ (by omega) (by omega)]
    omega
   rw [if_pos (by omega), Option.bind_some, if_pos (by rw [strOfNums_size]; simp; omega), e]
theorem text_ex (n : Nat) (h : n < 10 ^ 18) : ∃ r, Ev (fun k => laws_markText.f k n) r := by
 unfold laws_markText.f
 by_cases h0 : (n : Int) ≤ 0
 ·exact ⟨_, Ev.ite_pos h0 (Ev.now _)⟩
 ·obtain ⟨r, hr⟩ := text_loop 18 n ⟨#[]⟩ h (by omega) (by show 0 + 18 ≤ 1000; omega)
  exact ⟨r, Ev.ite_neg h0 hr⟩
open Classical in
noncomputable def T (n : Nat) : ByteArray := if h : ∃ r, Ev (fun k => laws_markText.f k n) r then Classical.choose h else ByteArray.empty
theorem text (n : Nat) (h : n < 10 ^ 18) : Ev (fun k => laws_markText.f k n) (T n) := by
 have hx := text_ex n h
 unfold T
 rw [dif_pos hx]
 exact Classical.choose_spec hx
end Go.Proofs.YtikbfjnbhogihaaGreatDoor.Mark
/- A text's runes, one by one, as the model decodes them; what a value's fault is. Plain. -/
namespace Go.Proofs.YtikbfjnbhogihaaGreatDoor.Utf
open Go
def bad (s : ByteArray) (pos : Nat) : Prop := (Utf8.decode s pos).1 = 65533 ∧ (Utf8.decode s pos).2 = 1
instance (s : ByteArray) (pos : Nat) : Decidable (bad s pos) := by unfold bad; infer_instance
def scan (s : ByteArray) : Nat → Nat → Option (List Nat)
 | 0, _ => some []
 | b + 1, pos => if pos < s.size then (if bad s pos then none else (scan s b (pos + (Utf8.decode s pos).2)).map ((Utf8.decode s pos).1 :: ·)) else some []
def ctl (r : Nat) : Bool := decide (r < 32) || (decide (127 ≤ r) && decide (r ≤ 159))
def fin (n : Nat) (c : Bool) : Option (List Nat) → Int
 | none => 42
 | some rs => if 128 < n + rs.length then 43 else if (c || rs.any ctl) = true then 44 else 0
def vf (s : ByteArray) : Int := fin 0 false (scan s s.size 0)
theorem width_pos (s : ByteArray) (pos : Nat) (h : pos < s.size) : 1 ≤ (Utf8.decode s pos).2 := by
 by_cases ha : (s[pos]'h).toNat < 128
 ·rw [decode_ascii s pos h ha]
  exact Nat.le_refl _
 ·exact (decode_high s pos h (by omega)).2
theorem scan_end (s : ByteArray) (b pos : Nat) (h : s.size ≤ pos) : scan s b pos = some [] := by
 cases b with
 | zero => rfl
 | succ b => unfold scan; rw [if_neg (by omega)]
theorem scan_bad (s : ByteArray) (b pos : Nat) (h : pos < s.size) (hb : bad s pos) : scan s (b + 1) pos = none := by
 unfold scan; rw [if_pos h, if_pos hb]
theorem scan_step (s : ByteArray) (b pos : Nat) (h : pos < s.size) (hb : ¬ bad s pos) : scan s (b + 1) pos = (scan s b (pos + (Utf8.decode s pos).2)).map ((Utf8.decode s pos).1 :: ·) := by
 conv => lhs; unfold scan
 rw [if_pos h, if_neg hb]
theorem fin_none (n : Nat) (c : Bool) : fin n c none = 42 := rfl
theorem fin_map (n : Nat) (c : Bool) (r : Nat) (o : Option (List Nat)) : fin n c (o.map (r :: ·)) = fin (n + 1) (c || ctl r) o := by
 cases o with
 | none => rfl
 | some rs =>
  simp only [Option.map_some, fin, List.length_cons, List.any_cons, Bool.or_assoc]
  have e : (128 < n + (rs.length + 1)) = (128 < n + 1 + rs.length) := by rw [show n + (rs.length + 1) = n + 1 + rs.length by omega]
  by_cases h : 128 < n + 1 + rs.length
  ·rw [if_pos h, if_pos (e ▸ h)]
  ·rw [if_neg h, if_neg (e ▸ h)]; rfl
end Go.Proofs.YtikbfjnbhogihaaGreatDoor.Utf
/- An account of the book and the book: what lies in memory, block by block. -/
namespace Go.Proofs.YtikbfjnbhogihaaGreatDoor.Bk
open Go.RowKit Go.Proofs.YtikbfjnbhogihaaGreatDoor.M Go.Proofs.YtikbfjnbhogihaaGreatDoorW.PrintWords Go.Proofs.YtikbfjnbhogihaaGreatDoorW.PrintLast Go.Proofs.YtikbfjnbhogihaaGreatDoorW.PrintMore
set_option linter.unusedVariables false
abbrev Tn := S87
abbrev Ml := S91
abbrev Sr := S93
abbrev Sg := S93
theorem sg_own {w : World} {base : Nat} {ok : Nat → Prop} {v : Value} {xs : List Sg} (h : Kd.R k93 169 w base ok v xs) : Kd.R k93 169 w base (fun k => v.ownBlock = some k) v xs :=
 ⟨fun k hk => hk, h.2.imp_ fun p c hp => by rw [k93_openM hp]; exact k93_mkM _ _ _ p⟩
structure Sx where
 k : ByteArray
 g : Nat
 last : Int
structure Ac where
 lim : Int
 mb : Nat
 sb : Nat
 cb : Nat
 v : Value
 met : List Ml
 ser : List Sx
 cnt : Mp.Al
 its : List Sg
abbrev ptr (g : Nat) : Value := .pointer (some ⟨g, 0, none⟩)
def gins {α : Type} (kf : α → ByteArray) (x : α) : List α → List α
 | [] => [x]
 | y :: r => if bytesBefore (kf x).data.toList (kf y).data.toList = true then x :: y :: r else y :: gins kf x r
def gget {α : Type} (kf : α → ByteArray) (s : ByteArray) (l : List α) : Option α := l.find? fun y => (kf y).data.toList == s.data.toList
theorem map_gins {α : Type} (f : α → ByteArray × Value) (x : α) : ∀ l : List α, (gins (fun y => (f y).1) x l).map f = Mp.ins (f x) (l.map f)
 | [] => rfl
 | y :: r => by
  unfold gins
  rw [List.map_cons, Mp.ins]
  split
  ·rfl
  ·rw [List.map_cons, map_gins f x r]
theorem gins_mem {α : Type} {kf : α → ByteArray} {x p : α} : ∀ {l : List α}, p ∈ gins kf x l ↔ p = x ∨ p ∈ l
 | [] => by simp [gins]
 | y :: r => by
  unfold gins
  split
  ·simp
  ·rw [List.mem_cons, gins_mem, List.mem_cons]
   constructor
   ·rintro (h | h | h)
    ·exact .inr (.inl h)
    ·exact .inl h
    ·exact .inr (.inr h)
   ·rintro (h | h | h)
    ·exact .inr (.inl h)
    ·exact .inl h
    ·exact .inr (.inr h)
theorem gins_perm {α : Type} {kf : α → ByteArray} (x : α) : ∀ l : List α, (gins kf x l).Perm (x :: l)
 | [] => List.Perm.refl _
 | y :: r => by
  unfold gins
  split
  ·exact List.Perm.refl _
  ·exact ((gins_perm x r).cons y).trans (List.Perm.swap _ _ _)
def fM (m : Ml) : ByteArray × Value := (m.f0, .int .i64 m.f1)
def fX (x : Sx) : ByteArray × Value := (x.k, ptr x.g)
def sers (l : List Sx) : Mp.Al := l.map fX
abbrev lessV : Value := .func (.func 114) #[] #[]
abbrev cA (l : Int) (m s c : Nat) (v : Value) : Obj := .cells #[.int .i64 l, .map (some m), .map (some s), .map (some c), v, lessV] 116
abbrev cX (k : ByteArray) (n : Int) : Obj := .cells #[.string k, .int .i64 n] 93
theorem c2 {W : World} {g : Nat} {x y : Value} {t : TypeId} (h : W.heap[g]? = some (.cells #[x, y] t (0, 0))) : W.cell? ⟨g, 0, none⟩ = some x ∧ W.cell? ⟨g, 1, none⟩ = some y := ⟨(blk_cell h 0).trans rfl, (blk_cell h 1).trans rfl⟩
theorem c6 {W : World} {g : Nat} {a b c d e f : Value} {t : TypeId} (h : W.heap[g]? = some (.cells #[a, b, c, d, e, f] t (0, 0))) : W.cell? ⟨g, 0, none⟩ = some a ∧ W.cell? ⟨g, 1, none⟩ = some b ∧ W.cell? ⟨g, 2, none⟩ = some c ∧ W.cell? ⟨g, 3, none⟩ = some d ∧ W.cell? ⟨g, 4, none⟩ = some e ∧ W.cell? ⟨g, 5, none⟩ = some f := ⟨(blk_cell h 0).trans rfl, (blk_cell h 1).trans rfl, (blk_cell h 2).trans rfl, (blk_cell h 3).trans rfl, (blk_cell h 4).trans rfl, (blk_cell h 5).trans rfl⟩
def fp (a : Nat) (A : Ac) (i : Nat) : Prop := i = a ∨ i = A.mb ∨ i = A.sb ∨ i = A.cb ∨ A.v.ownBlock = some i ∨ ∃ x ∈ A.ser, x.g = i
structure At (w : World) (base a : Nat) (A : Ac) : Prop where
 blk : w.heap[a]? = some (cA A.lim A.mb A.sb A.cb A.v)
 mm : Mp.Is Tryz.prog 9 w A.mb (A.met.map fM)
 ms : Mp.Is Tryz.prog 9 w A.sb (sers A.ser)
 mc : Mp.Is Tryz.prog 9 w A.cb A.cnt
 n1 : A.mb ≠ A.sb
 n2 : A.mb ≠ A.cb
 n3 : A.sb ≠ A.cb
 sx : ∀ x ∈ A.ser, w.heap[x.g]? = some (cX x.k x.last)
 nd : (A.ser.map (·.g)).Nodup
 it : Kd.R k93 169 w base (fun _ => True) A.v A.its
 lo : ∀ i, fp a A i → base ≤ i
theorem At.lt {w : World} {base a : Nat} {A : Ac} (h : At w base a A) {i : Nat} (hi : fp a A i) : i < w.heap.size := by
 rcases hi with rfl | rfl | rfl | rfl | hi | ⟨x, hx, rfl⟩
 ·exact blk_lt h.blk
 ·exact h.mm.lt
 ·exact h.ms.lt
 ·exact h.mc.lt
 ·obtain ⟨cells, hc⟩ := Kd.R_typed h.it i hi
  exact blk_lt hc
 ·exact blk_lt (h.sx x hx)
theorem At.move {w w' : World} {base a : Nat} {A : Ac} (h : At w base a A) (hm : ∀ i, fp a A i → w'.heap[i]? = w.heap[i]?) : At w' base a A where
 blk := (hm a (.inl rfl)).trans h.blk
 mm := h.mm.move (hm _ (.inr (.inl rfl)))
 ms := h.ms.move (hm _ (.inr (.inr (.inl rfl))))
 mc := h.mc.move (hm _ (.inr (.inr (.inr (.inl rfl)))))
 n1 := h.n1
 n2 := h.n2
 n3 := h.n3
 sx := fun x hx => (hm _ (.inr (.inr (.inr (.inr (.inr ⟨x, hx, rfl⟩)))))).trans (h.sx x hx)
 nd := h.nd
 it := Kd.R_mono (Kd.R_move (sg_own h.it) fun k hk => hm _ (.inr (.inr (.inr (.inr (.inl hk)))))) fun _ _ => trivial
 lo := h.lo
theorem At.kept {w w' : World} {base a : Nat} {A : Ac} {S : Nat → Prop} (h : At w base a A) (hk : Kept w w' S) (hne : ∀ i, fp a A i → ¬ S i) : At w' base a A := h.move fun i hi => hk.2 i (h.lt hi) (hne i hi)
theorem At.kinds {w : World} {base a : Nat} {A : Ac} (h : At w base a A) : (∀ x ∈ A.ser, x.g ≠ a) ∧ A.mb ≠ a ∧ A.sb ≠ a ∧ A.cb ≠ a ∧ A.v.ownBlock ≠ some a ∧ (∀ x ∈ A.ser, A.mb ≠ x.g ∧ A.sb ≠ x.g ∧ A.cb ≠ x.g ∧ A.v.ownBlock ≠ some x.g) ∧ A.v.ownBlock ≠ some A.mb ∧ A.v.ownBlock ≠ some A.sb ∧ A.v.ownBlock ≠ some A.cb := by
 obtain ⟨e1, c1, h1⟩ := h.mm.block
 obtain ⟨e2, c2, h2⟩ := h.ms.block
 obtain ⟨e3, c3, h3⟩ := h.mc.block
 have hv := Kd.R_typed h.it
 refine ⟨fun x hx e => ?_, fun e => ?_, fun e => ?_, fun e => ?_, fun e => ?_, fun x hx => ⟨fun e => ?_, fun e => ?_, fun e => ?_, fun e => ?_⟩, fun e => ?_, fun e => ?_, fun e => ?_⟩
 ·have := h.sx x hx; rw [e, h.blk] at this; cases this
 ·rw [e, h.blk] at h1; cases h1
 ·rw [e, h.blk] at h2; cases h2
 ·rw [e, h.blk] at h3; cases h3
 ·obtain ⟨c, hc⟩ := hv a e; rw [h.blk] at hc; cases hc
 ·rw [e, h.sx x hx] at h1; cases h1
 ·rw [e, h.sx x hx] at h2; cases h2
 ·rw [e, h.sx x hx] at h3; cases h3
 ·obtain ⟨c, hc⟩ := hv x.g e; rw [h.sx x hx] at hc; cases hc
 ·obtain ⟨c, hc⟩ := hv _ e; rw [h1] at hc; cases hc
 ·obtain ⟨c, hc⟩ := hv _ e; rw [h2] at hc; cases hc
 ·obtain ⟨c, hc⟩ := hv _ e; rw [h3] at hc; cases hc
theorem turned_blk {w w' : World} {b i : Nat} (h : w.mapTurned w' b) (hi : i ≠ b) (hlt : i < w.heap.size) : w'.heap[i]? = w.heap[i]? := h.grown.block i hlt (fun e => hi (by injection e))
theorem At.cnt' {w w' : World} {base a : Nat} {A : Ac} (h : At w base a A) {l : Mp.Al} (hl : Mp.Is Tryz.prog 9 w' A.cb l) (ht : w.mapTurned w' A.cb) : At w' base a { A with cnt := l } := by
 obtain ⟨k1, k2, k3, k4, k5, k6, k7, k8, k9⟩ := h.kinds
 have hm : ∀ i, fp a A i → i ≠ A.cb → w'.heap[i]? = w.heap[i]? := fun i hi hne => turned_blk ht hne (h.lt hi)
 refine ⟨(hm a (.inl rfl) (Ne.symm k4)).trans h.blk, h.mm.move (hm _ (.inr (.inl rfl)) h.n2), h.ms.move (hm _ (.inr (.inr (.inl rfl))) h.n3), hl, h.n1, h.n2, h.n3, fun x hx => (hm _ (.inr (.inr (.inr (.inr (.inr ⟨x, hx, rfl⟩))))) (Ne.symm (k6 x hx).2.2.1)).trans (h.sx x hx), h.nd, ?_, h.lo⟩
 exact Kd.R_mono (Kd.R_move (sg_own h.it) fun k hk => hm _ (.inr (.inr (.inr (.inr (.inl hk))))) (fun e => k9 (e ▸ hk))) fun _ _ => trivial
theorem At.row' {w w' : World} {base a : Nat} {A : Ac} (h : At w base a A) {v : Value} {its : List Sg} (hb : w'.heap[a]? = some (cA A.lim A.mb A.sb A.cb v)) (hr : Kd.R k93 169 w' base (fun _ => True) v its)
  (hk : Kept w w' (fun i => i = a ∨ A.v.ownBlock = some i)) : At w' base a { A with v := v, its := its } := by
 obtain ⟨k1, k2, k3, k4, k5, k6, k7, k8, k9⟩ := h.kinds
 have hm : ∀ i, fp a A i → i ≠ a → A.v.ownBlock ≠ some i → w'.heap[i]? = w.heap[i]? := fun i hi h1 h2 => hk.2 i (h.lt hi) (fun e => e.elim h1 h2)
 refine ⟨hb, h.mm.move (hm _ (.inr (.inl rfl)) k2 k7), h.ms.move (hm _ (.inr (.inr (.inl rfl))) k3 k8), h.mc.move (hm _ (.inr (.inr (.inr (.inl rfl)))) k4 k9), h.n1, h.n2, h.n3, fun x hx => (hm _ (.inr (.inr (.inr (.inr (.inr ⟨x, hx, rfl⟩))))) (k1 x hx) (k6 x hx).2.2.2).trans (h.sx x hx), h.nd, hr, fun i hi => ?_⟩
 rcases hi with hi | hi | hi | hi | hi | hi
 ·exact h.lo i (.inl hi)
 ·exact h.lo i (.inr (.inl hi))
 ·exact h.lo i (.inr (.inr (.inl hi)))
 ·exact h.lo i (.inr (.inr (.inr (.inl hi))))
 ·rcases Kd.R_base2 hr with h1 | ⟨k, h1, h2⟩
  ·rw [show v.ownBlock = some i from hi] at h1; cases h1
  ·rw [show v.ownBlock = some i from hi] at h1
   obtain rfl := Option.some.inj h1
   exact h2
 ·exact h.lo i (.inr (.inr (.inr (.inr (.inr hi)))))
/-! ### the book's accounts -/
structure Tb where
 name : ByteArray
 a : Nat
 A : Ac
def fT (x : Tb) : ByteArray × Value := (x.name, ptr x.a)
def tens (l : List Tb) : Mp.Al := l.map fT
structure Bk (w : World) (base tb : Nat) (l : List Tb) : Prop where
 mp : Mp.Is Tryz.prog 9 w tb (tens l)
 at_ : ∀ x ∈ l, At w base x.a x.A
 dj : l.Pairwise fun x y => ∀ i, fp x.a x.A i → ¬ fp y.a y.A i
 tn : ∀ x ∈ l, ¬ fp x.a x.A tb
theorem Bk.move {w w' : World} {base tb : Nat} {l : List Tb} (h : Bk w base tb l) (h1 : w'.heap[tb]? = w.heap[tb]?) (hm : ∀ x ∈ l, ∀ i, fp x.a x.A i → w'.heap[i]? = w.heap[i]?) : Bk w' base tb l :=
 ⟨h.mp.move h1, fun x hx => (h.at_ x hx).move (hm x hx), h.dj, h.tn⟩
theorem Bk.below {w w' : World} {base tb : Nat} {l : List Tb} (h : Bk w base tb l) (hb : Below w.heap.size w w') : Bk w' base tb l :=
 h.move (hb.block _ h.mp.lt) fun x hx i hi => hb.block i ((h.at_ x hx).lt hi)
end Go.Proofs.YtikbfjnbhogihaaGreatDoor.Bk
/- impl.valueFault: a range over a text's runes. -/
namespace Go.Proofs.YtikbfjnbhogihaaGreatDoor.M
open Go.RowKit Go.Proofs.YtikbfjnbhogihaaGreatDoorW.PrintWords Go.Proofs.YtikbfjnbhogihaaGreatDoorW.PrintLast Go.Proofs.YtikbfjnbhogihaaGreatDoorW.PrintMore
set_option linter.unusedVariables false
set_option linter.unusedSimpArgs false
def Tabs (w : World) : Prop := Lib.Utf8Tabs (Tryz.lays197_ren.g 3) (Tryz.lays197_ren.g 4) w
theorem Tabs.below {w w' : World} (h : Tabs w) (hb : Below w.heap.size w w') : Tabs w' := by
 have up : ∀ {a : Addr} {v : Value}, w.cell? a = some v → w'.cell? a = some v := fun hc => (hb.cell (World.block_lt_of_cell? w _ hc)).trans hc
 exact ⟨fun c hc => up (h.1 c hc), fun i hi => ⟨up (h.2 i hi).1, up (h.2 i hi).2⟩⟩
namespace Vf
open Utf
theorem get_cut (s : ByteArray) (pos k : Nat) (h : pos ≤ s.size) : (s.extract pos s.size).get! k = s.get! (pos + k) := by
 have hz : (s.extract pos s.size).size = s.size - pos := by rw [ByteArray.size_extract]; omega
 by_cases hk : pos + k < s.size
 ·rw [Utf8W.get!_of_lt _ k (by omega), Utf8W.get!_of_lt s (pos + k) hk, ByteArray.getElem_extract]
 ·have e1 : (s.extract pos s.size).get! k = default := by
   cases hs : s.extract pos s.size with
   | mk d =>
    have : ¬ k < d.size := by rw [hs] at hz; have : d.size = s.size - pos := hz; omega
    exact getElem!_neg d k this
  have e2 : s.get! (pos + k) = default := by
   cases s with
   | mk d => exact getElem!_neg d (pos + k) hk
  rw [e1, e2]
theorem decode_cut (s : ByteArray) (pos : Nat) (h : pos < s.size) : Lib.decodeGo (s.extract pos s.size) = Utf8.decode s pos := by
 have hz : (s.extract pos s.size).size = s.size - pos := by rw [ByteArray.size_extract]; omega
 unfold Lib.decodeGo
 rw [if_neg (by omega), Lib.decode_at, Lib.decode_at, hz, get_cut s pos _ (by omega), get_cut s pos _ (by omega), get_cut s pos _ (by omega), get_cut s pos _ (by omega), Nat.sub_zero, Nat.add_zero]
section
variable {P : Program}
theorem next_at (W : World) (g : Nat) (s : ByteArray) (pos : Nat) (hb : W.heap[g]? = some (.stringIter s pos)) (h : pos < s.size) (ty : TypeId) :
  (Instr.next (.pointer (some ⟨g, 0, none⟩)) true ty).run P W = .ok (.tuple #[.bool true, .int .i64 pos, .int .i32 (Utf8.decode s pos).1]) { W with heap := W.heap.setIfInBounds g (.stringIter s (pos + (Utf8.decode s pos).2)) } := by
 simp only [Instr.next, getObj, setObj, Sem.run_bind, Sem.run, hb, Result.andThen, h, if_true]
 simp [goInt]
theorem next_end (W : World) (g : Nat) (s : ByteArray) (pos : Nat) (hb : W.heap[g]? = some (.stringIter s pos)) (h : ¬ pos < s.size) (ty : TypeId) :
  (Instr.next (.pointer (some ⟨g, 0, none⟩)) true ty).run P W = .ok (.tuple #[.bool false]) W := by
 simp [Instr.next, getObj, Sem.run, hb, h]
end
theorem ctl_int (r : Nat) : ctl r = (decide ((r : Int) < 32) || (decide ((127 : Int) ≤ (r : Int)) && decide ((r : Int) ≤ 159))) := by
 unfold ctl
 rw [Bool.eq_iff_iff]
 simp only [Bool.or_eq_true, Bool.and_eq_true, decide_eq_true_eq]
 omega
theorem moved {w W : World} {g : Nat} {o o' : Obj} (hb : W.heap[g]? = some o) (hB : Below w.heap.size w W) (hg : w.heap.size ≤ g) :
  ({ W with heap := W.heap.setIfInBounds g o' } : World).heap[g]? = some o' ∧ Below w.heap.size w { W with heap := W.heap.setIfInBounds g o' } := by
 have hlt := blk_lt hb
 refine ⟨by simp [Array.getElem?_setIfInBounds, hlt], ⟨hB.os, hB.tape, hB.output, by simpa using hB.size, fun k hk => ?_⟩⟩
 show (W.heap.setIfInBounds g o')[k]? = _
 rw [Array.getElem?_setIfInBounds, if_neg (by omega)]
 exact hB.block k hk
set_option maxHeartbeats 8000000 in
set_option maxRecDepth 100000 in
theorem walk (s : ByteArray) (w : World) (hz : s.size ≤ 4611686018427387904) (hT : Tabs w) :
  Calls Tryz.prog 112 #[.string s] w fun e w' => e = .returned (.int .i64 (vf s)) ∧ Below w.heap.size w w' := by
 have HT := Aside0.mk hT
 clear hT
 go_enter Tryz.func112, Tryz.ntmps112
 go_wp2
 have hx0 : Aside0 ((w.iter s 0).heap[w.heap.size]? = some (.stringIter s 0)) := ⟨World.iter_heap w s 0⟩
 have hB0 : Aside0 (Below w.heap.size w (w.iter s 0)) := ⟨below_alloc (Below.refl _ w) _⟩
 go_loopw [3, 4] (fun n c wr => ∃ (pos b k : Nat) (cc : Bool), n = .int .i64 k ∧ c = .bool cc ∧ Aside0 (wr.heap[w.heap.size]? = some (.stringIter s pos)) ∧ Aside0 (Below w.heap.size w wr) ∧ Aside0 (fin k cc (scan s b pos) = vf s) ∧ Aside0 (s.size ≤ pos + b) ∧ Aside0 (k ≤ pos))
  (fun _ _ wr => s.size - wr.iterPos w.heap.size)
 case atStart => exact ⟨0, s.size, 0, false, rfl, rfl, hx0, hB0, ⟨rfl⟩, ⟨by omega⟩, ⟨Nat.le_refl _⟩⟩
 case round =>
  obtain ⟨pos, b, k, cc, rfl, rfl, HX, HB, HV, HS, HK⟩ := hrel
  by_cases hp : pos < s.size
  ·have hw := width_pos s pos hp
   obtain ⟨r, hr⟩ : ∃ r, r = (Utf8.decode s pos).1 := ⟨_, rfl⟩
   obtain ⟨d, hd⟩ : ∃ d, d = (Utf8.decode s pos).2 := ⟨_, rfl⟩
   obtain ⟨hx1, hb1⟩ := moved (o' := .stringIter s (pos + d)) HX.out HB.out (Nat.le_refl _)
   obtain ⟨W1, hW1⟩ : ∃ W1, ({ wr with heap := wr.heap.setIfInBounds w.heap.size (.stringIter s (pos + d)) } : World) = W1 := ⟨_, rfl⟩
   rw [hW1] at hx1 hb1
   have hnx : ∀ ty, (Instr.next (.pointer (some ⟨w.heap.size, 0, none⟩)) true ty).run Tryz.prog wr = .ok (.tuple #[.bool true, .int .i64 pos, .int .i32 r]) W1 := fun ty => by
    have := next_at (P := Tryz.prog) wr w.heap.size s pos HX.out hp ty
    rw [← hr, ← hd, hW1] at this
    exact this
   rw [← hd] at hw
   have hip : wr.iterPos w.heap.size = pos := by unfold World.iterPos; rw [HX.out]
   have HX1 := Aside0.mk hx1
   have HB1 := Aside0.mk hb1
   have HR := Aside0.mk hr
   have HD := Aside0.mk hd
   have HIP := Aside0.mk hip
   have HW := Aside0.mk hw
   clear hx1 hb1 hr hd hip hw hW1
   obtain ⟨b, rfl⟩ : ∃ b', b = b' + 1 := ⟨b - 1, by have := HS.out; omega⟩
   have hkw : wrap64 ((k : Int) + 1) = ((k + 1 : Nat) : Int) := by have := HK.out; unfold wrap64; omega
   have HKW := Aside0.mk hkw
   clear hkw
   have h0 : (0 : Int) ≤ (pos : Int) := Int.natCast_nonneg pos
   have h1 : (pos : Int) ≤ (s.size : Int) := by omega
   have done : ∀ (W2 : World) (cc' : Bool), W2.heap[w.heap.size]? = some (.stringIter s (pos + d)) → Below w.heap.size w W2 → cc' = (cc || ctl r) → ¬ bad s pos →
     (∃ (pos' b' k' : Nat) (c2 : Bool), Value.int .i64 (wrap64 ((k : Int) + 1)) = .int .i64 k' ∧ Value.bool cc' = .bool c2 ∧ Aside0 (W2.heap[w.heap.size]? = some (.stringIter s pos')) ∧ Aside0 (Below w.heap.size w W2) ∧ Aside0 (fin k' c2 (scan s b' pos') = vf s) ∧ Aside0 (s.size ≤ pos' + b') ∧ Aside0 (k' ≤ pos')) ∧ s.size - W2.iterPos w.heap.size < s.size - wr.iterPos w.heap.size := by
    intro W2 cc' hx hb hc hbad
    have hv := HV.out
    rw [scan_step s b pos hp hbad, fin_map, ← HR.out, ← HD.out, ← hc] at hv
    refine ⟨⟨pos + d, b, k + 1, cc', by rw [HKW.out], rfl, ⟨hx⟩, ⟨hb⟩, ⟨hv⟩, ⟨by have := HS.out; have := HW.out; omega⟩, ⟨by have := HK.out; have := HW.out; omega⟩⟩, ?_⟩
    rw [HIP.out, show W2.iterPos w.heap.size = pos + d by unfold World.iterPos; rw [hx]]
    have := HW.out
    omega
   have HDone := Aside0.mk done
   clear done
   by_cases hr5 : r = 65533
   ·have hr5' : (r : Int) = 65533 := by omega
    have HR5 := Aside0.mk hr5
    clear hr5
    go_wp2_with fail
    refine (Tryz.utf8_DecodeRuneInString (s.extract pos s.size) W1 (Tabs.below HT.out HB1.out)).mono ?_
    rintro e w2 ⟨rfl, hb2⟩
    rw [decode_cut s pos hp, ← HR.out, ← HD.out]
    have HX2 := Aside0.mk ((hb2.block _ (blk_lt HX1.out)).trans HX1.out)
    have HB2 := Aside0.mk (below_then HB1.out HB1.out.size hb2)
    clear hb2
    by_cases hd1 : d = 1
    ·have hd1' : (d : Int) = 1 := by omega
     have hv := HV.out
     rw [scan_bad s b pos hp ⟨by rw [← HR.out]; exact HR5.out, by rw [← HD.out]; exact hd1⟩, fin_none] at hv
     have HV2 := Aside0.mk hv
     clear hv hd1
     go_wp2
     go_ret
     exact ⟨by rw [← HV2.out]; rfl, HB2.out⟩
    ·have hd1' : ¬ (d : Int) = 1 := by omega
     have hbad : ¬ bad s pos := fun h => hd1 (HD.out.trans h.2)
     have hctl : ctl r = false := by rw [HR5.out]; rfl
     cases cc with
     | true =>
      go_wp2
      go_round
      case rel => exact (HDone.out _ _ HX2.out HB2.out rfl hbad).1
      case measure => exact (HDone.out _ true HX2.out HB2.out rfl hbad).2
     | false =>
      have HC := Aside0.mk hctl
      clear hctl
      go_wp2
      go_round
      case rel => exact (HDone.out _ _ HX2.out HB2.out (by rw [HC.out]; rfl) hbad).1
      case measure => exact (HDone.out _ false HX2.out HB2.out (by rw [HC.out]; rfl) hbad).2
   ·have hr5' : ¬ (r : Int) = 65533 := by omega
    have hbad : ¬ bad s pos := fun h => hr5 (HR.out.trans h.1)
    have HBad := Aside0.mk hbad
    clear hbad hr5
    cases cc with
    | true =>
     obtain h32 | h32 : (r : Int) < 32 ∨ ¬ (r : Int) < 32 := by omega
     all_goals obtain h127 | h127 : (127 : Int) ≤ (r : Int) ∨ ¬ (127 : Int) ≤ (r : Int) := by omega
     all_goals obtain h159 | h159 : (r : Int) ≤ 159 ∨ ¬ (r : Int) ≤ 159 := by omega
     all_goals first | (exfalso; omega) | skip
     all_goals go_wp2
     all_goals go_round
     all_goals first | exact (HDone.out _ true HX1.out HB1.out rfl HBad.out).1 | exact (HDone.out _ true HX1.out HB1.out rfl HBad.out).2
    | false =>
     obtain h32 | h32 : (r : Int) < 32 ∨ ¬ (r : Int) < 32 := by omega
     all_goals obtain h127 | h127 : (127 : Int) ≤ (r : Int) ∨ ¬ (127 : Int) ≤ (r : Int) := by omega
     all_goals obtain h159 | h159 : (r : Int) ≤ 159 ∨ ¬ (r : Int) ≤ 159 := by omega
     all_goals first | (exfalso; omega) | skip
     all_goals (have hctl := ctl_int r)
     all_goals (have HC := Aside0.mk hctl; clear hctl)
     all_goals go_wp2
     all_goals go_round
     all_goals first | exact (HDone.out _ (false || ctl r) HX1.out HB1.out rfl HBad.out).2 | exact (HDone.out _ _ HX1.out HB1.out (by rw [HC.out]; simp [h32, h127, h159]) HBad.out).1
  ·have hnx : ∀ ty, (Instr.next (.pointer (some ⟨w.heap.size, 0, none⟩)) true ty).run Tryz.prog wr = _ := fun ty => next_end wr w.heap.size s pos HX.out hp ty
   have hv := HV.out
   rw [scan_end s b pos (by omega)] at hv
   have hv2 : (if 128 < k then (43 : Int) else if cc = true then 44 else 0) = vf s := by rw [← hv]; simp [fin]
   have HV2 := Aside0.mk hv2
   clear hv hv2
   by_cases hk : 128 < k
   ·go_wp2
    go_ret
    exact ⟨by rw [← HV2.out, if_pos hk]; rfl, HB.out⟩
   ·cases cc
    ·go_wp2
     go_ret
     exact ⟨by rw [← HV2.out, if_neg hk]; rfl, HB.out⟩
    ·go_wp2
     go_ret
     exact ⟨by rw [← HV2.out, if_neg hk]; rfl, HB.out⟩
end Vf
def impl_valueFault.f (a0 : ByteArray) : Option Int := if a0.size ≤ 4611686018427387904 then some (Utf.vf a0) else none
theorem impl_valueFault.calls (a0 : ByteArray) (r : Int) (w : World) (h : impl_valueFault.f a0 = some r) (hT : Tabs w) :
  Calls Tryz.prog 112 #[.string a0] w fun e w' => e = .returned (.int .i64 r) ∧ Below w.heap.size w w' := by
 unfold impl_valueFault.f at h
 by_cases hz : a0.size ≤ 4611686018427387904
 ·rw [if_pos hz] at h
  obtain rfl := Option.some.inj h
  exact Vf.walk a0 w hz hT
 ·rw [if_neg hz] at h; cases h
end Go.Proofs.YtikbfjnbhogihaaGreatDoor.M
namespace Go.Proofs.YtikbfjnbhogihaaGreatDoor.M
open Go.RowKit Go.Proofs.YtikbfjnbhogihaaGreatDoorW.PrintWords Go.Proofs.YtikbfjnbhogihaaGreatDoorW.PrintLast Go.Proofs.YtikbfjnbhogihaaGreatDoorW.PrintMore
attribute [local go_sem] max2_int min2_int max_two min_two max_three min_three max_four min_four
set_option linter.unusedVariables false
set_option linter.unusedSimpArgs false
/-! ### laws_markSeriesS: function 117 -/
def laws_markSeriesS.l0 : Nat → List (S93) → Int → Int → Option (Int × (List (S93)))
 | 0, _, _, _ => none
 | k + 1, x0, x1, x5 => if x5 < (x0.length : Int) then ((laws_markText.f k x1).bind fun t482 => (if 0 ≤ x5 then ((some (x0.set (x5 : Int).toNat (⟨t482, (rd_T93 x0 x5).f1⟩ : S93) : List (S93))).bind fun y483 => (laws_markSeriesS.l0 k (y483.set (x5 : Int).toNat (⟨(rd_T93 y483 x5).f0, wrap64 (x1 + 1)⟩ : S93)) (wrap64 ((wrap64 (x1 + 1)) + 1)) (wrap64 (x5 + 1)))) else (none))) else (some (x1, x0))
def laws_markSeriesS.f (k : Nat) (l0 : List (S93)) (a1 : Int) : Option (Int × (List (S93))) := laws_markSeriesS.l0 k l0 a1 0
set_option maxHeartbeats 8000000 in
set_option maxRecDepth 100000 in
theorem laws_markSeriesS.calls (k : Nat) (P0_ : Nat → Prop) (u9000_ : Value) (l0 : List (S93)) (a1 : Int) (r1 : Int) (r2 : List (S93)) (w0 w : World) (hB : Below w0.heap.size w0 w) (ho0 : Kd.R k93 93 w w0.heap.size P0_ u9000_ l0) (h : laws_markSeriesS.f k l0 a1 = some (r1, r2)) :
  Calls Tryz.prog 117 #[u9000_, .int .i64 a1] w fun e w' => e = .returned (.int .i64 r1) ∧ Kd.R k93 93 w' w0.heap.size (fun k_ => (P0_ k_ ∨ w.heap.size ≤ k_)) u9000_ r2 ∧ Below w0.heap.size w0 w' ∧ Kept w w' (fun k_ => P0_ k_) := by
 have HO0 := Aside0.mk (show Kd.R k93 93 w w0.heap.size (fun k_ => (P0_ k_ ∨ w.heap.size ≤ k_)) u9000_ l0 from Kd.R_mono ho0 (fun k_ hk => (.inl hk)))
 have HK := Aside0.mk (Kept.refl w (fun k_ => P0_ k_))
 have HB := Aside0.mk hB
 clear hB
 have H : (laws_markSeriesS.l0 k l0 a1 0) = some (r1, r2) := h
 clear h
 have H' := Aside0.mk H
 clear H
 go_enter Tryz.func117, Tryz.ntmps117
 go_wp2
 go_loopg [1, 5] k (fun kq v1 v5 w' => ∃ (x0_1 : List (S93)) (x1_1 : Int) (x5_1 : Int), v1 = .int .i64 x1_1 ∧ v5 = .int .i64 x5_1 ∧ Aside0 (laws_markSeriesS.l0 kq x0_1 x1_1 x5_1 = some (r1, r2)) ∧ Aside0 (kq ≤ k) ∧ Aside0 (Kd.R k93 93 w' w0.heap.size (fun k_ => (P0_ k_ ∨ w.heap.size ≤ k_)) u9000_ x0_1) ∧ Aside0 (Kept w w' (fun k_ => P0_ k_)) ∧ Aside0 (Below w0.heap.size w0 w'))
 case atStart => exact ⟨(l0), (a1), (0), (by rfl), (by rfl), H', ⟨Nat.le_refl _⟩, ⟨by (with_reducible repeat (first | apply Kd.R_alloc | apply Kd.R_drewN | apply Kd.R_drew)); exact HO0.out⟩, ⟨by repeat ((with_reducible exact HK.out))⟩, ⟨by repeat ((with_reducible exact HB.out))⟩⟩
 case round =>
  clear H'
  obtain ⟨x0_1, x1_1, x5_1, rfl, rfl, HA, HK1, HO_0, HK, HB⟩ := hrel
  cases gk with
  | zero => exact absurd HA.out (by simp [laws_markSeriesS.l0])
  | succ k1 =>
   have H := HA.out
   clear HA
   simp only [laws_markSeriesS.l0] at H
   by_cases c3 : x5_1 < (x0_1.length : Int)
   ·rw [if_pos c3] at H
    have c3b0 : decide (x5_1 < (x0_1.length : Int)) = true := decide_eq_true c3
    clear c3
    replace H := Option.bind_eq_some_iff.mp H
    obtain ⟨t482, A40, H⟩ := H
    replace H : (if 0 ≤ x5_1 then ((some (x0_1.set (x5_1 : Int).toNat (⟨t482, (rd_T93 x0_1 x5_1).f1⟩ : S93) : List (S93))).bind fun y483 => (laws_markSeriesS.l0 k1 (y483.set (x5_1 : Int).toNat (⟨(rd_T93 y483 x5_1).f0, wrap64 (x1_1 + 1)⟩ : S93)) (wrap64 ((wrap64 (x1_1 + 1)) + 1)) (wrap64 (x5_1 + 1)))) else (none)) = some (r1, r2) := H
    have A4 := Aside0.mk A40
    clear A40
    by_cases c5 : 0 ≤ x5_1
    ·rw [if_pos c5] at H
     have c5b0 : decide (0 ≤ x5_1) = true := decide_eq_true c5
     clear c5
     obtain ⟨y483, hy483⟩ : ∃ y_ : List (S93), y_ = (x0_1.set (x5_1 : Int).toNat (⟨t482, (rd_T93 x0_1 x5_1).f1⟩ : S93)) := ⟨_, rfl⟩
     replace H : (laws_markSeriesS.l0 k1 (y483.set (x5_1 : Int).toNat (⟨(rd_T93 y483 x5_1).f0, wrap64 (x1_1 + 1)⟩ : S93)) (wrap64 ((wrap64 (x1_1 + 1)) + 1)) (wrap64 (x5_1 + 1))) = some (r1, r2) := by (have H2_ := (Option.bind_some _ _).symm.trans H; rw [hy483]; with_reducible exact H2_)
     have Ny483 := Aside0.mk hy483
     clear hy483
     obtain ⟨y484, hy484⟩ : ∃ y_ : List (S93), y_ = (y483.set (x5_1 : Int).toNat (⟨(rd_T93 y483 x5_1).f0, wrap64 (x1_1 + 1)⟩ : S93)) := ⟨_, rfl⟩
     replace H : (laws_markSeriesS.l0 k1 y484 (wrap64 ((wrap64 (x1_1 + 1)) + 1)) (wrap64 (x5_1 + 1))) = some (r1, r2) := by (rw [hy484]; with_reducible exact H)
     have Ny484 := Aside0.mk hy484
     clear hy484
     have H' := Aside0.mk H
     clear H
     obtain ⟨Ao8, co8, eo8⟩ := Kd.R_slice HO_0.out
     subst eo8
     go_wp2_with (first | ((with_reducible refine gate_callee (f := 102) rfl ?_); refine goesL_ (some 15) rfl rfl Tryz.func102 (by kernel_rfl) rfl #[.int .i64 x1_1] rfl (by (try simp only [List.map_toArray, List.map_cons, List.map_nil]); first | done | rfl) ?_; (with_reducible refine (laws_markText.calls k1 x1_1 t482 _ A4.out).mono ?_); rintro e w9 ⟨rfl, hb⟩; refine ⟨_, rfl, ?_⟩; have n0_ := Aside0.mk (Kd.R_below (by (with_reducible repeat (first | apply Kd.R_alloc | apply Kd.R_drewN | apply Kd.R_drew)); exact HO_0.out) hb); have n1_ := Aside0.mk (Kept.below (S := (fun k_ => P0_ k_)) (by repeat ((with_reducible exact HK.out))) hb); have n2_ := Aside0.mk (below_step (by repeat ((with_reducible exact HB.out))) hb); clear HO_0; clear HK; clear HB; have HO_0 := n0_; have HK := n1_; have HB := n2_; clear n0_ n1_ n2_; (try clear hb); have p6 : 0 ≤ (x5_1 : Int) := of_decide_eq_true (by (with_reducible assumption)); have q6 : (x5_1 : Int) < ((x0_1.length : Int) : Int) := of_decide_eq_true (by (with_reducible assumption)); obtain ⟨go6, co6, eo6, gb6, gl6, cl6, HG6⟩ := Kd.R_form HO_0.out (by omega); (cases eo6); have GB6 := Aside0.mk gb6; clear gb6 gl6 HG6; obtain ⟨ce6, hcl6, hM6, hcc6, hfr6⟩ := Kd.R_elem HO_0.out z93 (x5_1 : Int) p6 q6; obtain rfl := k93_openM hM6; have hx6_0 : w9.cell? ⟨go6, (x5_1 : Int).toNat * 2, none⟩ = some (.string ((rd_T93 x0_1 x5_1).f0)) := hcc6 0 _ rfl; have hf6_0 : w9.frozen? ⟨go6, (x5_1 : Int).toNat * 2, none⟩ = false := hfr6 0; clear hcl6 hcc6 hfr6 hM6; replace p6 := eq_true p6; replace q6 := eq_true q6; have HX10 := Aside0.mk (show Kd.R k93 93 w9 w0.heap.size (fun k_ => (P0_ k_ ∨ w.heap.size ≤ k_)) (.slice (some ⟨go6, 0, none⟩) x0_1.length co8) x0_1 from (by (with_reducible repeat (first | apply Kd.R_alloc | apply Kd.R_drewN | apply Kd.R_drew)); exact HO_0.out)); obtain ⟨ce10, hcl10, hM10, hcc10, hfr10⟩ := Kd.R_elem HX10.out z93 (x5_1 : Int) (of_decide_eq_true (by (with_reducible assumption))) (by have h_ : (x5_1 : Int) < ((x0_1.length : Int) : Int) := of_decide_eq_true (by (with_reducible assumption)); exact h_); obtain rfl := k93_openM hM10; have HP10 := Kd.R_seg HX10.out (x5_1 : Int) (of_decide_eq_true (by (with_reducible assumption))) (by have h_ : (x5_1 : Int) < ((x0_1.length : Int) : Int) := of_decide_eq_true (by (with_reducible assumption)); exact h_) (seg := [.string t482]) (j := 0) hcl10 hcc10 (show 1 ≤ 2 from by decide) (x' := (⟨t482, (rd_T93 x0_1 x5_1).f1⟩ : S93)) (k93_mkM _ _ _ (⟨t482, (rd_T93 x0_1 x5_1).f1⟩ : S93) ) (fun _ hk => hk); have hx10_0 := hcc10 0 _ rfl; (try simp only [show (k93).sz = 2 from rfl, Nat.mul_one, Nat.add_zero] at hx10_0); have hf10_0 := hfr10 0; (try simp only [show (k93).sz = 2 from rfl, Nat.mul_one, Nat.add_zero] at hf10_0); clear hcl10 hcc10 hfr10 hM10) | ((with_reducible refine gate_store (t := 9) (p := 17) rfl ?_); refine store_event (t := 9) (p := 17) (v := ?vo_w11) (w1 := (w9.setCell ⟨go6, (x5_1 : Int).toNat * 2, none⟩ (.string t482))) ?hg ?ho ?hn ?hr ?_; (case ho => rfl); (case hg => rfl); (case hn => rfl); (case hr => (go_simp; done)); intro w11 hw; have hg : w9.grownBy w11 (some go6) := (by rw [hw]; exact HP10.2); have hp_ : Kd.R k93 93 w11 w0.heap.size (fun k_ => (P0_ k_ ∨ w.heap.size ≤ k_)) (.slice (some ⟨go6, 0, none⟩) x0_1.length co8) y483 := (by rw [hw, Ny483.out]; exact HP10.1); clear HP10; have n0_ := Aside0.mk (hp_); have n1_ := Aside0.mk ((by rw [hw]; exact below_set (HB.out) GB6.out : Below w0.heap.size w0 w11)); have n2_ := Aside0.mk (Kept.of_grown (S := (fun k_ => P0_ k_)) hg (by repeat ((with_reducible exact HK.out))) (fun k_ e_ => (HO_0.out.1 k_ e_))); clear HO_0; clear HB; clear HK; have HO_0 := n0_; have HB := n1_; have HK := n2_; clear n0_ n1_ n2_; clear hg hw hp_; have p7 : 0 ≤ (x5_1 : Int) := of_decide_eq_true (by (with_reducible assumption)); have q7 : (x5_1 : Int) < ((x0_1.length : Int) : Int) := of_decide_eq_true (by (with_reducible assumption)); obtain ⟨ce7, hcl7, hM7, hcc7, hfr7⟩ := Kd.R_elem HO_0.out z93 (x5_1 : Int) p7 q7; obtain rfl := k93_openM hM7; have hx7_1 : w11.cell? ⟨go6, (x5_1 : Int).toNat * 2 + 1, none⟩ = some (.int .i64 ((rd_T93 y483 x5_1).f1)) := hcc7 1 _ rfl; have hf7_1 : w11.frozen? ⟨go6, (x5_1 : Int).toNat * 2 + 1, none⟩ = false := hfr7 1; clear hcl7 hcc7 hfr7 hM7; have HX12 := Aside0.mk (show Kd.R k93 93 w11 w0.heap.size (fun k_ => (P0_ k_ ∨ w.heap.size ≤ k_)) (.slice (some ⟨go6, 0, none⟩) x0_1.length co8) y483 from (by (with_reducible repeat (first | apply Kd.R_alloc | apply Kd.R_drewN | apply Kd.R_drew)); exact HO_0.out)); obtain ⟨ce12, hcl12, hM12, hcc12, hfr12⟩ := Kd.R_elem HX12.out z93 (x5_1 : Int) (of_decide_eq_true (by (with_reducible assumption))) (by have h_ : (x5_1 : Int) < ((x0_1.length : Int) : Int) := of_decide_eq_true (by (with_reducible assumption)); exact h_); obtain rfl := k93_openM hM12; have HP12 := Kd.R_seg HX12.out (x5_1 : Int) (of_decide_eq_true (by (with_reducible assumption))) (by have h_ : (x5_1 : Int) < ((x0_1.length : Int) : Int) := of_decide_eq_true (by (with_reducible assumption)); exact h_) (seg := [.int .i64 (wrap64 (x1_1 + 1))]) (j := 1) hcl12 hcc12 (show 2 ≤ 2 from by decide) (x' := (⟨(rd_T93 y483 x5_1).f0, wrap64 (x1_1 + 1)⟩ : S93)) (k93_mkM _ _ _ (⟨(rd_T93 y483 x5_1).f0, wrap64 (x1_1 + 1)⟩ : S93) ) (fun _ hk => hk); have hx12_1 := hcc12 1 _ rfl; (try simp only [show (k93).sz = 2 from rfl, Nat.mul_one, Nat.add_zero] at hx12_1); have hf12_1 := hfr12 1; (try simp only [show (k93).sz = 2 from rfl, Nat.mul_one, Nat.add_zero] at hf12_1); clear hcl12 hcc12 hfr12 hM12) | ((with_reducible refine gate_store (t := 3) (p := 24) rfl ?_); refine store_event (t := 3) (p := 24) (v := ?vo_w13) (w1 := (w11.setCell ⟨go6, (x5_1 : Int).toNat * 2 + 1, none⟩ (.int .i64 (wrap64 (x1_1 + 1))))) ?hg ?ho ?hn ?hr ?_; (case ho => rfl); (case hg => rfl); (case hn => rfl); (case hr => (go_simp; done)); intro w13 hw; have hg : w11.grownBy w13 (some go6) := (by rw [hw]; exact HP12.2); have hp_ : Kd.R k93 93 w13 w0.heap.size (fun k_ => (P0_ k_ ∨ w.heap.size ≤ k_)) (.slice (some ⟨go6, 0, none⟩) x0_1.length co8) y484 := (by rw [hw, Ny484.out]; exact HP12.1); clear HP12; have n0_ := Aside0.mk (hp_); have n1_ := Aside0.mk ((by rw [hw]; exact below_set (HB.out) GB6.out : Below w0.heap.size w0 w13)); have n2_ := Aside0.mk (Kept.of_grown (S := (fun k_ => P0_ k_)) hg (by repeat ((with_reducible exact HK.out))) (fun k_ e_ => (HO_0.out.1 k_ e_))); clear HO_0; clear HB; clear HK; have HO_0 := n0_; have HB := n1_; have HK := n2_; clear n0_ n1_ n2_; clear hg hw hp_))
     go_roundg k1
     case measure => have := HK1.out; omega
     case rel => exact ⟨(y484), (wrap64 ((wrap64 (x1_1 + 1)) + 1)), (wrap64 (x5_1 + 1)), (by rfl), (by rfl), H', ⟨by have := HK1.out; omega⟩, ⟨by (with_reducible repeat (first | apply Kd.R_alloc | apply Kd.R_drewN | apply Kd.R_drew)); exact HO_0.out⟩, ⟨by repeat ((with_reducible exact HK.out))⟩, ⟨by repeat ((with_reducible exact HB.out))⟩⟩
    ·rw [if_neg c5] at H
     exact absurd H (by simp)
   ·rw [if_neg c3] at H
    have c3b0 : decide (x5_1 < (x0_1.length : Int)) = false := decide_eq_false c3
    clear c3
    simp only [Option.some.injEq, Prod.mk.injEq] at H
    obtain ⟨rfl, rfl⟩ := H
    obtain ⟨Ao14, co14, eo14⟩ := Kd.R_slice HO_0.out
    subst eo14
    go_wp2
    go_ret
    exact ⟨by rfl, by (with_reducible repeat (first | apply Kd.R_alloc | apply Kd.R_drewN | apply Kd.R_drew)); exact HO_0.out, by repeat ((with_reducible exact HB.out)), by repeat ((with_reducible exact HK.out))⟩
end Go.Proofs.YtikbfjnbhogihaaGreatDoor.M
