/- Batches as bytes: plain. -/
import Derived.Test.YtogoblkehdmapaaDoorSmall
import Derived.Test.YtogoblkehdmapaaDoorXLift
import Derived.Test.YtogoblkehdmapaaDoorXBld
namespace Go.Proofs.YtogoblkehdmapaaDoor.M
open Go.RowKit Go.Proofs.YtogoblkehdmapaaDoorW.PrintWords Go.Proofs.YtogoblkehdmapaaDoorW.PrintLast Go.Proofs.YtogoblkehdmapaaDoorW.PrintMore
set_option linter.unusedVariables false
namespace Bat
open Go.Proofs.YtogoblkehdmapaaDoor.M.Enc
def recL (x : Rc) : List UInt8 := nL 1 x.f0 ++ (s8L x.f1 ++ (s16L x.f2 ++ nL 8 x.f3))
def recsL (l : List Rc) : List UInt8 := l.flatMap recL
def hdL (n : Int) (l : List Rc) : List UInt8 := nL 8 n ++ nL 2 l.length
/-- A record that a batch may have. -/
def okR (x : Rc) : Bool := recB x && (decide (x.f1.size ≤ 255) && decide (x.f2.size ≤ 65535))
def batOK (n : Int) (l : List Rc) : Bool := decide (1 ≤ n ∧ n ≤ 1000000000000000) && (decide (1 ≤ l.length ∧ l.length ≤ 500) && l.all okR)
def bat (n : Int) (l : List Rc) : ByteArray := if batOK n l = true then ⟨(hdL n l ++ recsL l).toArray⟩ else ⟨#[]⟩
theorem hdL_length (n : Int) (l : List Rc) : (hdL n l).length = 10 := by unfold hdL; rw [List.length_append, nL_length, nL_length]
theorem recL_length (x : Rc) : (recL x).length = 12 + x.f1.size + x.f2.size := by
  unfold recL
  simp only [List.length_append, nL_length, s8L_length, s16L_length]; omega
theorem recL_le (x : Rc) (h : okR x = true) : (recL x).length ≤ 65802 := by
  unfold okR at h
  simp only [Bool.and_eq_true, decide_eq_true_eq] at h
  rw [recL_length]; omega
theorem recs_le : ∀ l : List Rc, (∀ x ∈ l, okR x = true) → (recsL l).length ≤ l.length * 65802
  | [], _ => Nat.zero_le _
  | x :: l, h => by
    have h1 := recL_le x (h x List.mem_cons_self)
    have h2 := recs_le l (fun y hy => h y (List.mem_cons_of_mem _ hy))
    show (recL x ++ recsL l).length ≤ _
    rw [List.length_append, List.length_cons]; omega
theorem recs_snoc (l : List Rc) (x : Rc) : recsL (l ++ [x]) = recsL l ++ recL x := by unfold recsL; rw [List.flatMap_append]; simp
theorem take_snoc (l : List Rc) (j : Nat) (h : j < l.length) : l.take (j + 1) = l.take j ++ [l[j]] := by
  rw [List.take_add_one, List.getElem?_eq_getElem h]; rfl
theorem rd_rec (l : List Rc) (j : Nat) (h : j < l.length) : rd_T47 l (j : Int) = l[j] := by
  unfold rd_T47
  rw [Int.toNat_natCast, List.getD_eq_getElem?_getD, List.getElem?_eq_getElem h]; rfl
theorem bat_no (n : Int) (l : List Rc) (x : Rc) (hx : x ∈ l) (h : okR x = false) : bat n l = ⟨#[]⟩ ∧ l.all okR = false := by
  have ha : l.all okR = false := by
    rw [List.all_eq_false]
    exact ⟨x, hx, by rw [h]; decide⟩
  refine ⟨?_, ha⟩
  unfold bat batOK
  rw [ha]
  simp
/-- What the walk of batchText carries. -/
structure Sb (w : World) (b : Nat) (L : List UInt8) (BX : Array Value) (W : World) : Prop where
  is : Bld.Is b b L W
  box : W.heap[w.heap.size]? = some (.cells BX 29 (0, 0))
  out : W.heap[w.heap.size + 1]? = some (.cells #[.string ⟨#[]⟩] 9 (0, 0))
  ok : W.heap[w.heap.size + 2]? = some (.cells #[.bool false] 4 (0, 0))
  bel : Below w.heap.size w W
  ge : w.heap.size + 2 < b
theorem Sb.below {w : World} {b : Nat} {L : List UInt8} {BX : Array Value} {W W' : World} (h : Sb w b L BX W) (hb : Below W.heap.size W W') : Sb w b L BX W' :=
  ⟨h.is.below hb, (hb.block _ (blk_lt h.box)).trans h.box, (hb.block _ (blk_lt h.out)).trans h.out, (hb.block _ (blk_lt h.ok)).trans h.ok, below_then h.bel h.bel.size hb, h.ge⟩
theorem Sb.write {w : World} {b : Nat} {L L' : List UInt8} {BX : Array Value} {W W' : World} (h : Sb w b L BX W) (hi : Bld.Is b b L' W') (hb : Below b W W') : Sb w b L' BX W' := by
  have hg := h.ge
  exact ⟨hi, (hb.block _ (by omega)).trans h.box, (hb.block _ (by omega)).trans h.out, (hb.block _ (by omega)).trans h.ok, h.bel.trans (hb.mono (by omega)), h.ge⟩
theorem Sb.alloc {w : World} {b : Nat} {L : List UInt8} {BX : Array Value} {W : World} (h : Sb w b L BX W) (o : Obj) : Sb w b L BX (W.alloc o) := h.below ((Below.refl _ W).alloc (Nat.le_refl _) _)
theorem Sb.drew {w : World} {b : Nat} {L : List UInt8} {BX : Array Value} {W : World} (h : Sb w b L BX W) : Sb w b L BX W.drew := ⟨h.is.drew, h.box, h.out, h.ok, below_drew1 h.bel, h.ge⟩
end Bat
end Go.Proofs.YtogoblkehdmapaaDoor.M
