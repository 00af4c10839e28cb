/- Requests as bytes: plain. -/
import Derived.Test.YtbhjbbanhmjgnaaXPlain
import Derived.Test.YtbhjbbanhmjgnaaXBld
import Derived.Test.YtbhjbbanhmjgnaaXNum
import Derived.Test.YtbhjbbanhmjgnaaF26
import Derived.Test.YtbhjbbanhmjgnaaF27
namespace Go.Proofs.Ytbhjbbanhmjgnaa.M
open Go.RowKit Go.Proofs.YtbhjbbanhmjgnaaW.PrintWords Go.Proofs.YtbhjbbanhmjgnaaW.PrintLast Go.Proofs.YtbhjbbanhmjgnaaW.PrintMore
namespace Enc
abbrev Lb := S67
abbrev Sm := S65
/-- The lowest m bytes of v. -/
def nL (m : Nat) (v : Int) : List UInt8 := (Num.bytes m v).data.toList
theorem num_size (m : Nat) (v : Int) : (Num.bytes m v).size = m := by
  unfold Num.bytes
  rw [strOfNums_size]
  simp [Num.nums8]
theorem nL_length (m : Nat) (v : Int) : (nL m v).length = m := num_size m v
theorem num1 (v : Int) : impl_num.f 1 v = some (Num.bytes 1 v) := by unfold impl_num.f; simp
theorem num2 (v : Int) : impl_num.f 2 v = some (Num.bytes 2 v) := by unfold impl_num.f; simp
theorem num8 (v : Int) : impl_num.f 8 v = some (Num.bytes 8 v) := by unfold impl_num.f; simp
def s8L (s : ByteArray) : List UInt8 := nL 1 s.size ++ s.data.toList
def s16L (s : ByteArray) : List UInt8 := nL 2 s.size ++ s.data.toList
theorem len_ (s : ByteArray) : s.data.toList.length = s.size := rfl
theorem s8L_length (s : ByteArray) : (s8L s).length = 1 + s.size := by unfold s8L; rw [List.length_append, nL_length, len_]
theorem s16L_length (s : ByteArray) : (s16L s).length = 2 + s.size := by unfold s16L; rw [List.length_append, nL_length, len_]
def s8B (s : ByteArray) : ByteArray := Num.bytes 1 s.size ++ s
def s16B (s : ByteArray) : ByteArray := Num.bytes 2 s.size ++ s
theorem app_ (a b : ByteArray) : (a ++ b).data.toList = a.data.toList ++ b.data.toList := by
  rw [show (a ++ b).data = a.data ++ b.data from ByteArray.data_append]; simp
theorem s8B_list (s : ByteArray) : (s8B s).data.toList = s8L s := app_ _ _
theorem s16B_list (s : ByteArray) : (s16B s).data.toList = s16L s := app_ _ _
theorem s8B_size (s : ByteArray) : (s8B s).size = 1 + s.size := by have := s8L_length s; rw [← s8B_list] at this; exact this
theorem s16B_size (s : ByteArray) : (s16B s).size = 2 + s.size := by have := s16L_length s; rw [← s16B_list] at this; exact this
theorem s8f (s : ByteArray) (h : s.size ≤ 9223372036854775000) : impl_s8.f s = some (s8B s) := by
  unfold impl_s8.f
  rw [num1, Option.bind_some, if_pos (by rw [num_size]; omega)]; rfl
theorem s16f (s : ByteArray) (h : s.size ≤ 9223372036854775000) : impl_s16.f s = some (s16B s) := by
  unfold impl_s16.f
  rw [num2, Option.bind_some, if_pos (by rw [num_size]; omega)]; rfl
def labL (x : Lb) : List UInt8 := s8L x.f0 ++ s16L x.f1
def labsL (l : List Lb) : List UInt8 := l.flatMap labL
def LabOK (x : Lb) : Prop := x.f0.size ≤ 255 ∧ x.f1.size ≤ 65535
def sampL (x : Sm) : List UInt8 := nL 1 x.f0.length ++ labsL x.f0 ++ nL 8 x.f1
def SampOK (x : Sm) : Prop := x.f0.length ≤ 255 ∧ ∀ y ∈ x.f0, LabOK y
def sampsL (l : List Sm) : List UInt8 := l.flatMap sampL
theorem labL_length (x : Lb) (h : LabOK x) : (labL x).length ≤ 65793 := by
  unfold labL
  rw [List.length_append, s8L_length, s16L_length]
  have := h.1
  have := h.2
  omega
theorem flat_le {α : Type} (f : α → List UInt8) (b : Nat) : ∀ l : List α, (∀ x ∈ l, (f x).length ≤ b) → (l.flatMap f).length ≤ l.length * b := by
  intro l
  induction l with
  | nil => intro _; simp
  | cons a l ih =>
    intro h
    have h1 := ih (fun x hx => h x (List.mem_cons_of_mem _ hx))
    have h2 := h a (List.mem_cons_self ..)
    rw [List.flatMap_cons, List.length_append, List.length_cons, Nat.succ_mul]
    omega
theorem labsL_le (l : List Lb) (h : ∀ y ∈ l, LabOK y) : (labsL l).length ≤ l.length * 65793 := flat_le _ _ l (fun x hx => labL_length x (h x hx))
theorem sampL_le (x : Sm) (h : SampOK x) : (sampL x).length ≤ 16777224 := by
  have h1 := labsL_le x.f0 h.2
  have h2 := h.1
  unfold sampL
  rw [List.length_append, List.length_append, nL_length, nL_length]
  omega
theorem sampsL_le (l : List Sm) (h : ∀ y ∈ l, SampOK y) : (sampsL l).length ≤ l.length * 16777224 := flat_le _ _ l (fun x hx => sampL_le x (h x hx))
def headL (k : Int) (t m : ByteArray) (nm : Int) : List UInt8 := nL 1 k ++ (if k = 1 ∨ k = 3 ∨ k = 5 ∨ k = 6 then s8L t else []) ++ (if k = 3 ∨ k = 5 then s16L m else []) ++ (if k = 2 ∨ k = 3 then nL 8 nm else [])
def bodyL (k : Int) (t m : ByteArray) (nm : Int) (l : List Sm) : List UInt8 := headL k t m nm ++ (if k = 1 then nL 2 l.length ++ sampsL l else [])
def Good (k : Int) (t m : ByteArray) (nm : Int) (l : List Sm) : Prop := Plain.Ok k t m nm l.length ∧ t.size ≤ 255 ∧ m.size ≤ 65535 ∧ l.length ≤ 500
/-- The request's bytes. -/
noncomputable def req (k : Int) (t m : ByteArray) (nm : Int) (l : List Sm) : ByteArray :=
  @ite _ (Good k t m nm l ∧ (∀ y ∈ l, SampOK y) ∧ (bodyL k t m nm l).length ≤ 60000) (Classical.propDecidable _) ⟨(bodyL k t m nm l).toArray⟩ ⟨#[]⟩
theorem req_yes {k : Int} {t m : ByteArray} {nm : Int} {l : List Sm} (h1 : Good k t m nm l) (h2 : ∀ y ∈ l, SampOK y) (h3 : (bodyL k t m nm l).length ≤ 60000) : req k t m nm l = ⟨(bodyL k t m nm l).toArray⟩ := by
  unfold req; exact if_pos ⟨h1, h2, h3⟩
theorem req_no {k : Int} {t m : ByteArray} {nm : Int} {l : List Sm} (h : ¬ (Good k t m nm l ∧ (∀ y ∈ l, SampOK y) ∧ (bodyL k t m nm l).length ≤ 60000)) : req k t m nm l = ⟨#[]⟩ := by
  unfold req; exact if_neg h
/-! ### lists, an element at a time -/
theorem take_flat {α : Type} (f : α → List UInt8) (l : List α) (j : Nat) (h : j < l.length) : (l.take (j + 1)).flatMap f = (l.take j).flatMap f ++ f l[j] := by
  rw [List.take_add_one, List.getElem?_eq_getElem h, Option.toList_some, List.flatMap_append, List.flatMap_cons, List.flatMap_nil, List.append_nil]
theorem take_all {α : Type} (p : α → Prop) (l : List α) (j : Nat) (h : j < l.length) (h1 : ∀ y ∈ l.take j, p y) (h2 : p l[j]) : ∀ y ∈ l.take (j + 1), p y := by
  intro y hy
  rw [List.take_add_one, List.getElem?_eq_getElem h] at hy
  simp only [Option.toList_some, List.mem_append, List.mem_singleton] at hy
  rcases hy with hy | rfl
  · exact h1 y hy
  · exact h2
theorem rd_S (l : List Sm) (j : Nat) (h : j < l.length) : rd_T65 l (j : Int) = l[j] := by
  unfold rd_T65
  rw [Int.toNat_natCast, List.getD_eq_getElem?_getD, List.getElem?_eq_getElem h]; rfl
theorem rd_L (l : List Lb) (j : Nat) (h : j < l.length) : rd_T67 l (j : Int) = l[j] := by
  unfold rd_T67
  rw [Int.toNat_natCast, List.getD_eq_getElem?_getD, List.getElem?_eq_getElem h]; rfl
/-! ### the world of a call that holds a request's box and a builder behind it -/
structure St (w : World) (b : Nat) (L : List UInt8) (BX : Array Value) (W : World) : Prop where
  is : Bld.Is b b L W
  box : W.heap[w.heap.size]? = some (.cells BX 29 (0, 0))
  bel : Below w.heap.size w W
  ge : w.heap.size < b
theorem St.below {w : World} {b : Nat} {L : List UInt8} {BX : Array Value} {W W' : World} (h : St w b L BX W) (hb : Below W.heap.size W W') : St w b L BX W' :=
  ⟨h.is.below hb, (hb.block _ (blk_lt h.box)).trans h.box, below_then h.bel h.bel.size hb, h.ge⟩
theorem St.write {w : World} {b : Nat} {L L' : List UInt8} {BX : Array Value} {W W' : World} (h : St w b L BX W) (hi : Bld.Is b b L' W') (hb : Below b W W') : St w b L' BX W' :=
  ⟨hi, (hb.block _ h.ge).trans h.box, h.bel.trans (hb.mono (Nat.le_of_lt h.ge)), h.ge⟩
theorem St.alloc {w : World} {b : Nat} {L : List UInt8} {BX : Array Value} {W : World} (h : St w b L BX W) (o : Obj) : St w b L BX (W.alloc o) := h.below ((Below.refl _ W).alloc (Nat.le_refl _) _)
theorem St.drew {w : World} {b : Nat} {L : List UInt8} {BX : Array Value} {W : World} (h : St w b L BX W) : St w b L BX W.drew := ⟨h.is.drew, h.box, below_drew1 h.bel, h.ge⟩
theorem St.cells {w : World} {b : Nat} {L : List UInt8} {W : World} {v0 v1 v2 v3 v4 : Value} (h : St w b L #[v0, v1, v2, v3, v4] W) :
    W.cell? ⟨w.heap.size, 0, none⟩ = some v0 ∧ W.cell? ⟨w.heap.size, 1, none⟩ = some v1 ∧ W.cell? ⟨w.heap.size, 2, none⟩ = some v2 ∧ W.cell? ⟨w.heap.size, 3, none⟩ = some v3 ∧ W.cell? ⟨w.heap.size, 4, none⟩ = some v4 :=
  ⟨(blk_cell h.box 0).trans rfl, (blk_cell h.box 1).trans rfl, (blk_cell h.box 2).trans rfl, (blk_cell h.box 3).trans rfl, (blk_cell h.box 4).trans rfl⟩
end Enc
end Go.Proofs.Ytbhjbbanhmjgnaa.M
