/- States as bytes: plain. -/
import Derived.Test.YtbhjbbanhmjgnaaEncReq
import Derived.Test.YtbhjbbanhmjgnaaLoops
import Derived.Test.YtbhjbbanhmjgnaaXCrc
namespace Go.Proofs.Ytbhjbbanhmjgnaa.M
open Go.RowKit Go.Proofs.YtbhjbbanhmjgnaaW.PrintWords Go.Proofs.YtbhjbbanhmjgnaaW.PrintLast Go.Proofs.YtbhjbbanhmjgnaaW.PrintMore
namespace Enc
abbrev Mt := S79
abbrev Sr := S81
abbrev Tn := S77
def metL (x : Mt) : List UInt8 := s16L x.f0 ++ nL 8 x.f1
def serL (x : Sr) : List UInt8 := s16L x.f0 ++ nL 8 x.f1
def metsL (l : List Mt) : List UInt8 := l.flatMap metL
def sersL (l : List Sr) : List UInt8 := l.flatMap serL
def tenL (x : Tn) : List UInt8 := s8L x.f0 ++ nL 8 x.f1 ++ nL 4 x.f2.length ++ metsL x.f2 ++ nL 4 x.f3.length ++ sersL x.f3
def tensL (l : List Tn) : List UInt8 := l.flatMap tenL
def MetOK (x : Mt) : Prop := x.f0.size ≤ 65535
def SerOK (x : Sr) : Prop := x.f0.size ≤ 65535
def TenOK (x : Tn) : Prop := x.f0.size ≤ 255 ∧ (∀ y ∈ x.f2, MetOK y) ∧ ∀ y ∈ x.f3, SerOK y
def ckpt : ByteArray := ⟨#[67, 75, 80, 84]⟩
def hdL (n now : Int) (l : List Tn) : List UInt8 := ckpt.data.toList ++ nL 8 n ++ nL 8 now ++ nL 4 l.length
def stL (n now : Int) (l : List Tn) : List UInt8 := hdL n now l ++ tensL l
theorem hdL_length (n now : Int) (l : List Tn) : (hdL n now l).length = 24 := by
  unfold hdL
  rw [List.length_append, List.length_append, List.length_append, nL_length, nL_length, nL_length]; rfl
open Go.Proofs.Ytbhjbbanhmjgnaa.Loops in
def wtT (x : Tn) : Nat := x.f0.size + (x.f2.length + total (fun y : Mt => y.f0.size) x.f2) + (x.f3.length + total (fun y : Sr => y.f0.size) x.f3)
open Go.Proofs.Ytbhjbbanhmjgnaa.Loops in
theorem mets_length (l : List Mt) : (metsL l).length = 10 * l.length + total (fun y : Mt => y.f0.size) l := by
  induction l with
  | nil => rfl
  | cons a l ih =>
    unfold metsL at ih ⊢
    rw [List.flatMap_cons, List.length_append, ih, total_cons, List.length_cons]
    unfold metL
    rw [List.length_append, s16L_length, nL_length]; omega
open Go.Proofs.Ytbhjbbanhmjgnaa.Loops in
theorem sers_length (l : List Sr) : (sersL l).length = 10 * l.length + total (fun y : Sr => y.f0.size) l := by
  induction l with
  | nil => rfl
  | cons a l ih =>
    unfold sersL at ih ⊢
    rw [List.flatMap_cons, List.length_append, ih, total_cons, List.length_cons]
    unfold serL
    rw [List.length_append, s16L_length, nL_length]; omega
theorem ten_length (x : Tn) : (tenL x).length ≤ 17 + 10 * wtT x := by
  unfold tenL wtT
  simp only [List.length_append, s8L_length, nL_length, mets_length, sers_length]
  omega
open Go.Proofs.Ytbhjbbanhmjgnaa.Loops in
theorem tens_length (l : List Tn) : (tensL l).length ≤ 17 * l.length + 10 * total wtT l := by
  induction l with
  | nil => simp [tensL]
  | cons a l ih =>
    unfold tensL at ih ⊢
    rw [List.flatMap_cons, List.length_append, total_cons, List.length_cons]
    have := ten_length a
    omega
/-- What the statement's guard says of a state. -/
def Fits (l : List Tn) : Prop := l.length + Go.Proofs.Ytbhjbbanhmjgnaa.Loops.total wtT l ≤ 1048576
theorem tens_fit {l : List Tn} (h : Fits l) : (tensL l).length ≤ 30000000 := by
  have := tens_length l
  unfold Fits at h
  omega
theorem flat_take_le {α : Type} (f : α → List UInt8) (l : List α) (j : Nat) : ((l.take j).flatMap f).length ≤ (l.flatMap f).length := by
  have h : l.flatMap f = (l.take j).flatMap f ++ (l.drop j).flatMap f := by rw [← List.flatMap_append, List.take_append_drop]
  rw [h, List.length_append]; omega
theorem flat_mem_le {α : Type} (f : α → List UInt8) (l : List α) (x : α) (hx : x ∈ l) : (f x).length ≤ (l.flatMap f).length := by
  induction l with
  | nil => cases hx
  | cons a l ih =>
    rw [List.flatMap_cons, List.length_append]
    rcases List.mem_cons.1 hx with rfl | hx
    · omega
    · have := ih hx; omega
noncomputable def crcOf (l : List UInt8) : Int := (impl_Crc32c.f ⟨l.toArray⟩).getD 0
/-- The state's bytes. -/
noncomputable def sta (n now : Int) (l : List Tn) : ByteArray :=
  @ite _ ((0 ≤ n ∧ n ≤ 1000000000000000) ∧ ∀ y ∈ l, TenOK y) (Classical.propDecidable _) ⟨(stL n now l ++ nL 4 (crcOf (stL n now l))).toArray⟩ ⟨#[]⟩
theorem sta_yes {n now : Int} {l : List Tn} (h1 : 0 ≤ n ∧ n ≤ 1000000000000000) (h2 : ∀ y ∈ l, TenOK y) : sta n now l = ⟨(stL n now l ++ nL 4 (crcOf (stL n now l))).toArray⟩ := by
  unfold sta; exact if_pos ⟨h1, h2⟩
theorem sta_no {n now : Int} {l : List Tn} (h : ¬ ((0 ≤ n ∧ n ≤ 1000000000000000) ∧ ∀ y ∈ l, TenOK y)) : sta n now l = ⟨#[]⟩ := by
  unfold sta; exact if_neg h
theorem rd_T (l : List Tn) (j : Nat) (h : j < l.length) : rd_T77 l (j : Int) = l[j] := by
  unfold rd_T77
  rw [Int.toNat_natCast, List.getD_eq_getElem?_getD, List.getElem?_eq_getElem h]; rfl
theorem rd_M (l : List Mt) (j : Nat) (h : j < l.length) : rd_T79 l (j : Int) = l[j] := by
  unfold rd_T79
  rw [Int.toNat_natCast, List.getD_eq_getElem?_getD, List.getElem?_eq_getElem h]; rfl
theorem rd_R (l : List Sr) (j : Nat) (h : j < l.length) : rd_T81 l (j : Int) = l[j] := by
  unfold rd_T81
  rw [Int.toNat_natCast, List.getD_eq_getElem?_getD, List.getElem?_eq_getElem h]; rfl
/-! ### the world of a call that holds a state's box and a builder behind it -/
structure Sb (w : World) (b : Nat) (L : List UInt8) (BX : Array Value) (W : World) : Prop where
  is : Bld.Is b b L W
  box : W.heap[w.heap.size]? = some (.cells BX 40 (0, 0))
  bel : Below w.heap.size w W
  ge : w.heap.size < b
theorem Sb.below {w : World} {b : Nat} {L : List UInt8} {BX : Array Value} {W W' : World} (h : Sb w b L BX W) (hb : Below W.heap.size W W') : Sb w b L BX W' :=
  ⟨h.is.below hb, (hb.block _ (blk_lt h.box)).trans h.box, below_then h.bel h.bel.size hb, h.ge⟩
theorem Sb.write {w : World} {b : Nat} {L L' : List UInt8} {BX : Array Value} {W W' : World} (h : Sb w b L BX W) (hi : Bld.Is b b L' W') (hb : Below b W W') : Sb w b L' BX W' :=
  ⟨hi, (hb.block _ h.ge).trans h.box, h.bel.trans (hb.mono (Nat.le_of_lt h.ge)), h.ge⟩
theorem Sb.alloc {w : World} {b : Nat} {L : List UInt8} {BX : Array Value} {W : World} (h : Sb w b L BX W) (o : Obj) : Sb w b L BX (W.alloc o) := h.below ((Below.refl _ W).alloc (Nat.le_refl _) _)
theorem Sb.drew {w : World} {b : Nat} {L : List UInt8} {BX : Array Value} {W : World} (h : Sb w b L BX W) : Sb w b L BX W.drew := ⟨h.is.drew, h.box, below_drew1 h.bel, h.ge⟩
end Enc
end Go.Proofs.Ytbhjbbanhmjgnaa.M
