/- Some of this seat's texts, joined by prune.py. -/
import Derived.Test.YtdfgfhnbcifheaaDoorXJoin
import Derived.Test.YtdfgfhnbcifheaaDoorE0
import Derived.Test.YtdfgfhnbcifheaaDoorF25
import Derived.Test.YtdfgfhnbcifheaaDoorF26
import Derived.Test.YtdfgfhnbcifheaaDoorF28
import Derived.WalkKit
import Derived.Laws.RangeAny
import Derived.Test.YtdfgfhnbcifheaaDoorShelf
/- Labels in canonical form: what both compute. Plain. -/
namespace Go.Proofs.YtdfgfhnbcifheaaDoor.Can
open Go.Proofs.YtdfgfhnbcifheaaDoor.M Go.Proofs.YtdfgfhnbcifheaaDoor.Loops Go.Proofs.YtdfgfhnbcifheaaDoor.CanSort Go.Proofs.YtdfgfhnbcifheaaDoor.Utf Go.Proofs.YtdfgfhnbcifheaaDoorW.PrintWords Go.Proofs.YtdfgfhnbcifheaaDoorW.PrintLast Go.Proofs.YtdfgfhnbcifheaaDoorW.PrintMore Go.RowKit
/-- A byte that a name may have; a digit not at the first place. -/
def chr (i : Nat) (c : Int) : Bool := decide (65 ≤ c ∧ c ≤ 90 ∨ 97 ≤ c ∧ c ≤ 122 ∨ c = 95 ∨ (48 ≤ c ∧ c ≤ 57 ∧ 0 < i))
def chars (s : ByteArray) : Nat → Bool
  | 0 => true
  | n + 1 => chr (s.size - (n + 1)) (bt s ((s.size - (n + 1) : Nat) : Int)) && chars s n
def nameOK (s : ByteArray) : Bool := decide (1 ≤ s.size ∧ s.size ≤ 64) && chars s s.size
def fault (x : Lb) : Int := if nameOK x.f0 = true then vf x.f1 else 41
/-- The first label with a fault, and the fault. -/
def firstF : List Lb → Nat → Option (Int × Nat)
  | [], _ => none
  | x :: l, i => if fault x = 0 then firstF l (i + 1) else some (fault x, i)
def named (x : Lb) (b : Lb) : Bool := decide (b.f0.toList = x.f0.toList)
/-- The first label whose name stood before. -/
def firstT : List Lb → List Lb → Option Nat
  | _, [] => none
  | before, x :: l => if before.any (named x) = true then some before.length else firstT (before ++ [x]) l
def keep (x : Lb) : Bool := decide (¬ x.f1.toList = [])
def isMet (x : Lb) : Bool := keep x && decide (x.f0.toList = [95, 95, 110, 97, 109, 101, 95, 95])
def can (l : List Lb) : List Lb × Int × Int :=
  if 16 < l.length then ([], 40, 0) else match firstF l 0 with
  | some (c, i) => ([], c, (i : Int))
  | none => match firstT [] l with
    | some i => ([], 45, (i : Int))
    | none => if l.any isMet = true then (order (l.filter keep), 0, 0) else ([], 46, 0)
/-- What can be told of: no text beyond reach. -/
def Fit (l : List Lb) : Prop := ∀ x ∈ l, x.f0.size ≤ 1073741824 ∧ x.f1.size ≤ 1073741824
theorem can_many {l : List Lb} (h : 16 < l.length) : can l = ([], 40, 0) := by unfold can; rw [if_pos h]
theorem can_fault {l : List Lb} {c : Int} {i : Nat} (h : ¬ 16 < l.length) (h2 : firstF l 0 = some (c, i)) : can l = ([], c, (i : Int)) := by unfold can; rw [if_neg h, h2]
theorem can_twice {l : List Lb} {i : Nat} (h : ¬ 16 < l.length) (h2 : firstF l 0 = none) (h3 : firstT [] l = some i) : can l = ([], 45, (i : Int)) := by unfold can; rw [if_neg h, h2, h3]
theorem can_none {l : List Lb} (h : ¬ 16 < l.length) (h2 : firstF l 0 = none) (h3 : firstT [] l = none) (h4 : l.any isMet = false) : can l = ([], 46, 0) := by unfold can; rw [if_neg h, h2, h3]; simp [h4]
theorem can_good {l : List Lb} (h : ¬ 16 < l.length) (h2 : firstF l 0 = none) (h3 : firstT [] l = none) (h4 : l.any isMet = true) : can l = (order (l.filter keep), 0, 0) := by unfold can; rw [if_neg h, h2, h3]; simp [h4]
theorem firstF_ok {x : Lb} {l : List Lb} {i : Nat} (h : fault x = 0) : firstF (x :: l) i = firstF l (i + 1) := by conv => lhs; unfold firstF; rw [if_pos h]
theorem firstF_bad {x : Lb} {l : List Lb} {i : Nat} (h : ¬ fault x = 0) : firstF (x :: l) i = some (fault x, i) := by conv => lhs; unfold firstF; rw [if_neg h]
theorem firstT_no {b : List Lb} {x : Lb} {l : List Lb} (h : b.any (named x) = false) : firstT b (x :: l) = firstT (b ++ [x]) l := by conv => lhs; unfold firstT; rw [h]; simp
theorem firstT_yes {b : List Lb} {x : Lb} {l : List Lb} (h : b.any (named x) = true) : firstT b (x :: l) = some b.length := by conv => lhs; unfold firstT; rw [h]; simp
theorem once_of : ∀ (l b : List Lb), firstT b l = none → Once b → Once (b ++ l)
  | [], b, _, hb => by simpa using hb
  | x :: l, b, h, hb => by
    cases hx : b.any (named x) with
    | true => rw [firstT_yes hx] at h; cases h
    | false =>
      rw [firstT_no hx] at h
      have h2 : Once (b ++ [x]) := by
        unfold Once at hb ⊢
        rw [List.pairwise_append]
        refine ⟨hb, by simp, fun a ha c hc => ?_⟩
        rw [List.mem_singleton] at hc
        subst hc
        intro e
        rw [List.any_eq_false] at hx
        exact hx a ha (by unfold named; exact decide_eq_true e)
      have := once_of l (b ++ [x]) h h2
      simpa using this
theorem once_all {l : List Lb} (h : firstT [] l = none) : Once l := by
  have := once_of l [] h (by unfold Once; simp)
  simpa using this
theorem once_filter {l : List Lb} (p : Lb → Bool) (h : Once l) : Once (l.filter p) := by unfold Once at h ⊢; exact h.filter _
/-! ### names -/
theorem impl_chars (s : ByteArray) (hz : s.size ≤ 64) : ∀ n j, j + n = s.size → Ev (fun k => impl_isName.l0 k s (s.size : Int) j) (chars s n) := by
  intro n
  induction n with
  | zero =>
    intro j hj
    refine Ev.step (f := fun _ => some _) (fun k => by simp only [impl_isName.l0]; rw [if_neg (by omega)]; rfl) (Ev.now _)
  | succ n ih =>
    intro j hj
    have hb := bt_range s (j : Int)
    have e : s.size - (n + 1) = j := by omega
    have hn := ih (j + 1) (by omega)
    have yes : chr j (bt s (j : Int)) = true → chars s (n + 1) = chars s n := fun h => (show chars s (n + 1) = (chr (s.size - (n + 1)) (bt s ((s.size - (n + 1) : Nat) : Int)) && chars s n) from rfl).trans (by rw [e, h]; rfl)
    have no : chr j (bt s (j : Int)) = false → chars s (n + 1) = false := fun h => (show chars s (n + 1) = (chr (s.size - (n + 1)) (bt s ((s.size - (n + 1) : Nat) : Int)) && chars s n) from rfl).trans (by rw [e, h]; rfl)
    have hw : wrap64 ((j : Int) + 1) = ((j + 1 : Nat) : Int) := w_succ j (by omega)
    cases hc : chr j (bt s (j : Int)) with
    | true =>
      rw [yes hc]
      refine Ev.step (fun k => ?_) hn
      unfold chr at hc
      have hc := of_decide_eq_true hc
      simp only [impl_isName.l0]
      rw [hw, if_pos (by omega), if_pos (by omega), if_pos (by omega)]
      generalize bt s (j : Int) = c at hb hc ⊢
      repeat' split
      all_goals first | rfl | (exfalso; omega)
    | false =>
      rw [no hc]
      refine Ev.step (f := fun _ => some false) (fun k => ?_) (Ev.now _)
      unfold chr at hc
      have hc := of_decide_eq_false hc
      simp only [impl_isName.l0]
      rw [hw, if_pos (by omega), if_pos (by omega), if_pos (by omega)]
      generalize bt s (j : Int) = c at hb hc ⊢
      repeat' split
      all_goals first | rfl | (exfalso; omega)
theorem size_zero {a : ByteArray} : a.toList = [] ↔ a.size = 0 := by
  rw [ByteArray.toList_eq]
  constructor
  · intro h
    have : a.data.toList.length = 0 := by rw [h]; rfl
    exact this
  · intro h
    exact List.length_eq_zero_iff.1 h
theorem impl_name (s : ByteArray) : Ev (fun k => impl_isName.f k s) (nameOK s) := by
  unfold impl_isName.f nameOK
  by_cases h0 : s.toList = []
  · have := size_zero.1 h0
    refine Ev.ite_pos h0 (Ev.eq (Ev.now _) ?_)
    rw [decide_eq_false (by omega)]; rfl
  · have h1 : ¬ s.size = 0 := fun h => h0 (size_zero.2 h)
    by_cases h2 : (s.size : Int) > 64
    · refine Ev.ite_neg h0 (Ev.ite_pos h2 (Ev.eq (Ev.now _) ?_))
      rw [decide_eq_false (by omega)]; rfl
    · refine Ev.ite_neg h0 (Ev.ite_neg h2 (Ev.eq (impl_chars s (by omega) s.size 0 (by omega)) ?_))
      rw [decide_eq_true (by omega)]; rfl
theorem spec_chars (s : ByteArray) (hz : s.size ≤ 64) (hd : ¬ (48 ≤ bt s 0 ∧ bt s 0 ≤ 57)) : ∀ n j, j + n = s.size → Ev (fun k => spec_l3NameOK.l0 k s j) (chars s n) := by
  intro n
  induction n with
  | zero =>
    intro j hj
    refine Ev.step (f := fun _ => some _) (fun k => by simp only [spec_l3NameOK.l0]; rw [if_neg (by omega)]; rfl) (Ev.now _)
  | succ n ih =>
    intro j hj
    have hb := bt_range s (j : Int)
    have e : s.size - (n + 1) = j := by omega
    have hn := ih (j + 1) (by omega)
    have yes : chr j (bt s (j : Int)) = true → chars s (n + 1) = chars s n := fun h => (show chars s (n + 1) = (chr (s.size - (n + 1)) (bt s ((s.size - (n + 1) : Nat) : Int)) && chars s n) from rfl).trans (by rw [e, h]; rfl)
    have no : chr j (bt s (j : Int)) = false → chars s (n + 1) = false := fun h => (show chars s (n + 1) = (chr (s.size - (n + 1)) (bt s ((s.size - (n + 1) : Nat) : Int)) && chars s n) from rfl).trans (by rw [e, h]; rfl)
    have hw : wrap64 ((j : Int) + 1) = ((j + 1 : Nat) : Int) := w_succ j (by omega)
    have hd' : j = 0 → ¬ (48 ≤ bt s (j : Int) ∧ bt s (j : Int) ≤ 57) := fun h => by subst h; exact hd
    cases hc : chr j (bt s (j : Int)) with
    | true =>
      rw [yes hc]
      refine Ev.step (fun k => ?_) hn
      unfold chr at hc
      have hc := of_decide_eq_true hc
      simp only [spec_l3NameOK.l0]
      rw [hw, if_pos (by omega), if_pos (by omega)]
      generalize bt s (j : Int) = c at hb hc hd' ⊢
      repeat' split
      all_goals first | rfl | (exfalso; omega)
    | false =>
      rw [no hc]
      refine Ev.step (f := fun _ => some false) (fun k => ?_) (Ev.now _)
      unfold chr at hc
      have hc := of_decide_eq_false hc
      simp only [spec_l3NameOK.l0]
      rw [hw, if_pos (by omega), if_pos (by omega)]
      generalize bt s (j : Int) = c at hb hc hd' ⊢
      repeat' split
      all_goals first | rfl | (exfalso; omega)
theorem spec_name (s : ByteArray) : Ev (fun k => spec_l3NameOK.f k s) (nameOK s) := by
  have stop : ∀ c, c = true → Ev (fun k => spec_l3NameOK.j0 k s c) false := by
    rintro c rfl
    exact Ev.step (f := fun _ => some false) (fun k => by simp only [spec_l3NameOK.j0, if_true]) (Ev.now _)
  have bet : spec_l1Between.f (s.size : Int) 1 64 = some (decide (1 ≤ s.size ∧ s.size ≤ 64)) := by
    unfold spec_l1Between.f
    split
    · congr 1; rw [Bool.eq_iff_iff, decide_eq_true_eq, decide_eq_true_eq]; omega
    · rw [decide_eq_false (by omega)]
  unfold spec_l3NameOK.f nameOK
  rw [bet]
  simp only [Option.bind_some]
  by_cases h : 1 ≤ s.size ∧ s.size ≤ 64
  · rw [decide_eq_true h]
    simp only [if_true, Bool.true_and]
    refine Ev.ite_pos (by omega) ?_
    have first : 48 ≤ bt s 0 ∧ bt s 0 ≤ 57 → chars s s.size = false := by
      intro hd
      obtain ⟨n, hn⟩ : ∃ n, s.size = n + 1 := ⟨s.size - 1, by omega⟩
      rw [hn]
      unfold chars
      rw [show s.size - (n + 1) = 0 by omega]
      have : chr 0 (bt s ((0 : Nat) : Int)) = false := by
        unfold chr
        apply decide_eq_false
        have h2 : bt s ((0 : Nat) : Int) = bt s 0 := rfl
        rw [h2]
        omega
      rw [this]; rfl
    have go : ¬ (48 ≤ bt s 0 ∧ bt s 0 ≤ 57) → Ev (fun k => spec_l3NameOK.j0 k s false) (chars s s.size) := fun hd =>
      Ev.step (fun k => by simp only [spec_l3NameOK.j0, Bool.false_eq_true, if_false]; rfl) (spec_chars s h.2 hd s.size 0 (by omega))
    by_cases h48 : bt s 0 ≥ 48
    · refine Ev.ite_pos h48 ?_
      by_cases h57 : bt s 0 ≤ 57
      · rw [first ⟨h48, h57⟩]
        exact stop _ (decide_eq_true h57)
      · rw [decide_eq_false h57]
        exact go (by omega)
    · exact Ev.ite_neg h48 (go (by omega))
  · rw [decide_eq_false h]
    simp only [Bool.false_eq_true, if_false, Bool.false_and]
    exact stop true rfl
end Go.Proofs.YtdfgfhnbcifheaaDoor.Can
/- impl.valueFault: a range over a text's runes. -/
namespace Go.Proofs.YtdfgfhnbcifheaaDoor.M
open Go.RowKit Go.Proofs.YtdfgfhnbcifheaaDoorW.PrintWords Go.Proofs.YtdfgfhnbcifheaaDoorW.PrintLast Go.Proofs.YtdfgfhnbcifheaaDoorW.PrintMore
set_option linter.unusedVariables false
set_option linter.unusedSimpArgs false
/-- The two tables of unicode/utf8, as the program's text lays them. -/
def Tabs (w : World) : Prop := Lib.Utf8Tabs (Tryd.lays197_ren.g 3) (Tryd.lays197_ren.g 4) w
theorem Tabs.below {w w' : World} (h : Tabs w) (hb : Below w.heap.size w w') : Tabs w' := by
  have up : ∀ {a : Addr} {v : Value}, w.cell? a = some v → w'.cell? a = some v := fun hc => (hb.cell (World.block_lt_of_cell? w _ hc)).trans hc
  exact ⟨fun c hc => up (h.1 c hc), fun i hi => ⟨up (h.2 i hi).1, up (h.2 i hi).2⟩⟩
namespace Vf
open Utf
theorem get_cut (s : ByteArray) (pos k : Nat) (h : pos ≤ s.size) : (s.extract pos s.size).get! k = s.get! (pos + k) := by
  have hz : (s.extract pos s.size).size = s.size - pos := by rw [ByteArray.size_extract]; omega
  by_cases hk : pos + k < s.size
  · rw [Utf8W.get!_of_lt _ k (by omega), Utf8W.get!_of_lt s (pos + k) hk, ByteArray.getElem_extract]
  · have e1 : (s.extract pos s.size).get! k = default := by
      cases hs : s.extract pos s.size with
      | mk d =>
        have : ¬ k < d.size := by rw [hs] at hz; have : d.size = s.size - pos := hz; omega
        exact getElem!_neg d k this
    have e2 : s.get! (pos + k) = default := by
      cases s with
      | mk d => exact getElem!_neg d (pos + k) hk
    rw [e1, e2]
theorem decode_cut (s : ByteArray) (pos : Nat) (h : pos < s.size) : Lib.decodeGo (s.extract pos s.size) = Utf8.decode s pos := by
  have hz : (s.extract pos s.size).size = s.size - pos := by rw [ByteArray.size_extract]; omega
  unfold Lib.decodeGo
  rw [if_neg (by omega), Lib.decode_at, Lib.decode_at, hz, get_cut s pos _ (by omega), get_cut s pos _ (by omega), get_cut s pos _ (by omega), get_cut s pos _ (by omega), Nat.sub_zero, Nat.add_zero]
section
variable {P : Program}
theorem next_at (W : World) (g : Nat) (s : ByteArray) (pos : Nat) (hb : W.heap[g]? = some (.stringIter s pos)) (h : pos < s.size) (ty : TypeId) :
    (Instr.next (.pointer (some ⟨g, 0, none⟩)) true ty).run P W = .ok (.tuple #[.bool true, .int .i64 pos, .int .i32 (Utf8.decode s pos).1]) { W with heap := W.heap.setIfInBounds g (.stringIter s (pos + (Utf8.decode s pos).2)) } := by
  simp only [Instr.next, getObj, setObj, Sem.run_bind, Sem.run, hb, Result.andThen, h, if_true]
  simp [goInt]
theorem next_end (W : World) (g : Nat) (s : ByteArray) (pos : Nat) (hb : W.heap[g]? = some (.stringIter s pos)) (h : ¬ pos < s.size) (ty : TypeId) :
    (Instr.next (.pointer (some ⟨g, 0, none⟩)) true ty).run P W = .ok (.tuple #[.bool false]) W := by
  simp [Instr.next, getObj, Sem.run, hb, h]
end
theorem ctl_int (r : Nat) : ctl r = (decide ((r : Int) < 32) || (decide ((127 : Int) ≤ (r : Int)) && decide ((r : Int) ≤ 159))) := by
  unfold ctl
  rw [Bool.eq_iff_iff]
  simp only [Bool.or_eq_true, Bool.and_eq_true, decide_eq_true_eq]
  omega
theorem moved {w W : World} {g : Nat} {o o' : Obj} (hb : W.heap[g]? = some o) (hB : Below w.heap.size w W) (hg : w.heap.size ≤ g) :
    ({ W with heap := W.heap.setIfInBounds g o' } : World).heap[g]? = some o' ∧ Below w.heap.size w { W with heap := W.heap.setIfInBounds g o' } := by
  have hlt := blk_lt hb
  refine ⟨by simp [Array.getElem?_setIfInBounds, hlt], ⟨hB.os, hB.tape, hB.output, by simpa using hB.size, fun k hk => ?_⟩⟩
  show (W.heap.setIfInBounds g o')[k]? = _
  rw [Array.getElem?_setIfInBounds, if_neg (by omega)]
  exact hB.block k hk
set_option maxHeartbeats 8000000 in
set_option maxRecDepth 100000 in
theorem walk (s : ByteArray) (w : World) (hz : s.size ≤ 4611686018427387904) (hT : Tabs w) :
    Calls Tryd.prog 29 #[.string s] w fun e w' => e = .returned (.int .i64 (vf s)) ∧ Below w.heap.size w w' := by
  have HT := Aside0.mk hT
  clear hT
  go_enter Tryd.func29, Tryd.ntmps29
  go_wp2
  have hx0 : Aside0 ((w.iter s 0).heap[w.heap.size]? = some (.stringIter s 0)) := ⟨World.iter_heap w s 0⟩
  have hB0 : Aside0 (Below w.heap.size w (w.iter s 0)) := ⟨below_alloc (Below.refl _ w) _⟩
  go_loopw [3, 4] (fun n c wr => ∃ (pos b k : Nat) (cc : Bool), n = .int .i64 k ∧ c = .bool cc ∧ Aside0 (wr.heap[w.heap.size]? = some (.stringIter s pos)) ∧ Aside0 (Below w.heap.size w wr) ∧ Aside0 (fin k cc (scan s b pos) = vf s) ∧ Aside0 (s.size ≤ pos + b) ∧ Aside0 (k ≤ pos))
    (fun _ _ wr => s.size - wr.iterPos w.heap.size)
  case atStart => exact ⟨0, s.size, 0, false, rfl, rfl, hx0, hB0, ⟨rfl⟩, ⟨by omega⟩, ⟨Nat.le_refl _⟩⟩
  case round =>
    obtain ⟨pos, b, k, cc, rfl, rfl, HX, HB, HV, HS, HK⟩ := hrel
    by_cases hp : pos < s.size
    · have hw := width_pos s pos hp
      obtain ⟨r, hr⟩ : ∃ r, r = (Utf8.decode s pos).1 := ⟨_, rfl⟩
      obtain ⟨d, hd⟩ : ∃ d, d = (Utf8.decode s pos).2 := ⟨_, rfl⟩
      obtain ⟨hx1, hb1⟩ := moved (o' := .stringIter s (pos + d)) HX.out HB.out (Nat.le_refl _)
      obtain ⟨W1, hW1⟩ : ∃ W1, ({ wr with heap := wr.heap.setIfInBounds w.heap.size (.stringIter s (pos + d)) } : World) = W1 := ⟨_, rfl⟩
      rw [hW1] at hx1 hb1
      have hnx : ∀ ty, (Instr.next (.pointer (some ⟨w.heap.size, 0, none⟩)) true ty).run Tryd.prog wr = .ok (.tuple #[.bool true, .int .i64 pos, .int .i32 r]) W1 := fun ty => by
        have := next_at (P := Tryd.prog) wr w.heap.size s pos HX.out hp ty
        rw [← hr, ← hd, hW1] at this
        exact this
      rw [← hd] at hw
      have hip : wr.iterPos w.heap.size = pos := by unfold World.iterPos; rw [HX.out]
      have HX1 := Aside0.mk hx1
      have HB1 := Aside0.mk hb1
      have HR := Aside0.mk hr
      have HD := Aside0.mk hd
      have HIP := Aside0.mk hip
      have HW := Aside0.mk hw
      clear hx1 hb1 hr hd hip hw hW1
      obtain ⟨b, rfl⟩ : ∃ b', b = b' + 1 := ⟨b - 1, by have := HS.out; omega⟩
      have hkw : wrap64 ((k : Int) + 1) = ((k + 1 : Nat) : Int) := by have := HK.out; unfold wrap64; omega
      have HKW := Aside0.mk hkw
      clear hkw
      have h0 : (0 : Int) ≤ (pos : Int) := Int.natCast_nonneg pos
      have h1 : (pos : Int) ≤ (s.size : Int) := by omega
      have done : ∀ (W2 : World) (cc' : Bool), W2.heap[w.heap.size]? = some (.stringIter s (pos + d)) → Below w.heap.size w W2 → cc' = (cc || ctl r) → ¬ bad s pos →
          (∃ (pos' b' k' : Nat) (c2 : Bool), Value.int .i64 (wrap64 ((k : Int) + 1)) = .int .i64 k' ∧ Value.bool cc' = .bool c2 ∧ Aside0 (W2.heap[w.heap.size]? = some (.stringIter s pos')) ∧ Aside0 (Below w.heap.size w W2) ∧ Aside0 (fin k' c2 (scan s b' pos') = vf s) ∧ Aside0 (s.size ≤ pos' + b') ∧ Aside0 (k' ≤ pos')) ∧ s.size - W2.iterPos w.heap.size < s.size - wr.iterPos w.heap.size := by
        intro W2 cc' hx hb hc hbad
        have hv := HV.out
        rw [scan_step s b pos hp hbad, fin_map, ← HR.out, ← HD.out, ← hc] at hv
        refine ⟨⟨pos + d, b, k + 1, cc', by rw [HKW.out], rfl, ⟨hx⟩, ⟨hb⟩, ⟨hv⟩, ⟨by have := HS.out; have := HW.out; omega⟩, ⟨by have := HK.out; have := HW.out; omega⟩⟩, ?_⟩
        rw [HIP.out, show W2.iterPos w.heap.size = pos + d by unfold World.iterPos; rw [hx]]
        have := HW.out
        omega
      have HDone := Aside0.mk done
      clear done
      by_cases hr5 : r = 65533
      · have hr5' : (r : Int) = 65533 := by omega
        have HR5 := Aside0.mk hr5
        clear hr5
        go_wp2_with fail
        refine (Tryd.utf8_DecodeRuneInString (s.extract pos s.size) W1 (Tabs.below HT.out HB1.out)).mono ?_
        rintro e w2 ⟨rfl, hb2⟩
        rw [decode_cut s pos hp, ← HR.out, ← HD.out]
        have HX2 := Aside0.mk ((hb2.block _ (blk_lt HX1.out)).trans HX1.out)
        have HB2 := Aside0.mk (below_then HB1.out HB1.out.size hb2)
        clear hb2
        by_cases hd1 : d = 1
        · have hd1' : (d : Int) = 1 := by omega
          have hv := HV.out
          rw [scan_bad s b pos hp ⟨by rw [← HR.out]; exact HR5.out, by rw [← HD.out]; exact hd1⟩, fin_none] at hv
          have HV2 := Aside0.mk hv
          clear hv hd1
          go_wp2
          go_ret
          exact ⟨by rw [← HV2.out]; rfl, HB2.out⟩
        · have hd1' : ¬ (d : Int) = 1 := by omega
          have hbad : ¬ bad s pos := fun h => hd1 (HD.out.trans h.2)
          have hctl : ctl r = false := by rw [HR5.out]; rfl
          cases cc with
          | true =>
            go_wp2
            go_round
            case rel => exact (HDone.out _ _ HX2.out HB2.out rfl hbad).1
            case measure => exact (HDone.out _ true HX2.out HB2.out rfl hbad).2
          | false =>
            have HC := Aside0.mk hctl
            clear hctl
            go_wp2
            go_round
            case rel => exact (HDone.out _ _ HX2.out HB2.out (by rw [HC.out]; rfl) hbad).1
            case measure => exact (HDone.out _ false HX2.out HB2.out (by rw [HC.out]; rfl) hbad).2
      · have hr5' : ¬ (r : Int) = 65533 := by omega
        have hbad : ¬ bad s pos := fun h => hr5 (HR.out.trans h.1)
        have HBad := Aside0.mk hbad
        clear hbad hr5
        cases cc with
        | true =>
          obtain h32 | h32 : (r : Int) < 32 ∨ ¬ (r : Int) < 32 := by omega
          all_goals obtain h127 | h127 : (127 : Int) ≤ (r : Int) ∨ ¬ (127 : Int) ≤ (r : Int) := by omega
          all_goals obtain h159 | h159 : (r : Int) ≤ 159 ∨ ¬ (r : Int) ≤ 159 := by omega
          all_goals first | (exfalso; omega) | skip
          all_goals go_wp2
          all_goals go_round
          all_goals first | exact (HDone.out _ true HX1.out HB1.out rfl HBad.out).1 | exact (HDone.out _ true HX1.out HB1.out rfl HBad.out).2
        | false =>
          obtain h32 | h32 : (r : Int) < 32 ∨ ¬ (r : Int) < 32 := by omega
          all_goals obtain h127 | h127 : (127 : Int) ≤ (r : Int) ∨ ¬ (127 : Int) ≤ (r : Int) := by omega
          all_goals obtain h159 | h159 : (r : Int) ≤ 159 ∨ ¬ (r : Int) ≤ 159 := by omega
          all_goals first | (exfalso; omega) | skip
          all_goals (have hctl := ctl_int r)
          all_goals (have HC := Aside0.mk hctl; clear hctl)
          all_goals go_wp2
          all_goals go_round
          all_goals first | exact (HDone.out _ (false || ctl r) HX1.out HB1.out rfl HBad.out).2 | exact (HDone.out _ _ HX1.out HB1.out (by rw [HC.out]; simp [h32, h127, h159]) HBad.out).1
    · have hnx : ∀ ty, (Instr.next (.pointer (some ⟨w.heap.size, 0, none⟩)) true ty).run Tryd.prog wr = _ := fun ty => next_end wr w.heap.size s pos HX.out hp ty
      have hv := HV.out
      rw [scan_end s b pos (by omega)] at hv
      have hv2 : (if 128 < k then (43 : Int) else if cc = true then 44 else 0) = vf s := by rw [← hv]; simp [fin]
      have HV2 := Aside0.mk hv2
      clear hv hv2
      by_cases hk : 128 < k
      · go_wp2
        go_ret
        exact ⟨by rw [← HV2.out, if_pos hk]; rfl, HB.out⟩
      · cases cc
        · go_wp2
          go_ret
          exact ⟨by rw [← HV2.out, if_neg hk]; rfl, HB.out⟩
        · go_wp2
          go_ret
          exact ⟨by rw [← HV2.out, if_neg hk]; rfl, HB.out⟩
end Vf
def impl_valueFault.f (a0 : ByteArray) : Option Int := if a0.size ≤ 4611686018427387904 then some (Utf.vf a0) else none
theorem impl_valueFault.calls (a0 : ByteArray) (r : Int) (w : World) (h : impl_valueFault.f a0 = some r) (hT : Tabs w) :
    Calls Tryd.prog 29 #[.string a0] w fun e w' => e = .returned (.int .i64 r) ∧ Below w.heap.size w w' := by
  unfold impl_valueFault.f at h
  by_cases hz : a0.size ≤ 4611686018427387904
  · rw [if_pos hz] at h
    obtain rfl := Option.some.inj h
    exact Vf.walk a0 w hz hT
  · rw [if_neg hz] at h; cases h
end Go.Proofs.YtdfgfhnbcifheaaDoor.M
