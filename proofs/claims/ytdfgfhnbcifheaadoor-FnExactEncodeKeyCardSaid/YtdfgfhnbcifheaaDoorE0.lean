/- Some of this seat's texts, joined by prune.py. -/
import Derived.Test.YtdfgfhnbcifheaaDoorM0
import Derived.Test.YtdfgfhnbcifheaaDoorOpens
import Derived.Laws.RangeAny
import Derived.Lib.MapLaws
/- Some of this seat's texts, joined by prune.py. -/
-- By pp.py, a program of this repo, with the kit's printer: Lean checks it.
namespace Go.Proofs.YtdfgfhnbcifheaaDoor.M
open Go.RowKit Go.Proofs.YtdfgfhnbcifheaaDoorW.PrintWords Go.Proofs.YtdfgfhnbcifheaaDoorW.PrintLast Go.Proofs.YtdfgfhnbcifheaaDoorW.PrintMore
attribute [local go_sem] max2_int min2_int max_two min_two max_three min_three max_four min_four
set_option linter.unusedVariables false
set_option linter.unusedSimpArgs false

theorem eqA38 (d : Nat) (w : World) (x0 y0 : ByteArray) (x1 y1 : ByteArray) :
    (Op.equalIn (d + 2) 38 (.agg #[.string x0, .string x1]) (.agg #[.string y0, .string y1])).run Tryd.prog w = .ok (x0.toList == y0.toList && (x1.toList == y1.toList)) w := by
  refine eqA_of Tryd.underlying38 (by kernel_rfl) ?_
  refine eqf_cons (by rfl) (by go_simp; rfl) (by go_simp; rfl) (by go_simp) ?_
  exact eqf_last (by rfl) (by go_simp; rfl) (by go_simp; rfl) (by go_simp)
end Go.Proofs.YtdfgfhnbcifheaaDoor.M
-- By pp.py, a program of this repo, with the kit's printer: Lean checks it.
namespace Go.Proofs.YtdfgfhnbcifheaaDoor.M
open Go.RowKit Go.Proofs.YtdfgfhnbcifheaaDoorW.PrintWords Go.Proofs.YtdfgfhnbcifheaaDoorW.PrintLast Go.Proofs.YtdfgfhnbcifheaaDoorW.PrintMore
attribute [local go_sem] max2_int min2_int max_two min_two max_three min_three max_four min_four
set_option linter.unusedVariables false
set_option linter.unusedSimpArgs false

open Go.Proofs.YtdfgfhnbcifheaaDoor.Opn
instance : Inhabited S43 := ⟨z43⟩
def b43 (x : S43) : Prop := x.f0.size ≤ maxLen ∧ x.f1.size ≤ maxLen
theorem opens43 : Opens Tryd.prog 43 k43 b43 := Opens.iso (Opens.struct Tryd.underlying43 (by kernel_rfl) (OpensFrom.cons rfl (by kernel_rfl) (Opens.string Tryd.underlying9) (OpensFrom.one rfl (by kernel_rfl) (Opens.string Tryd.underlying9)))) (fun x : S43 => (x.f0, x.f1)) (fun a => (⟨a.1, a.2⟩ : S43)) (fun _ => rfl)
end Go.Proofs.YtdfgfhnbcifheaaDoor.M
/- A text's runes, one by one, as the model decodes them; what a value's fault is. Plain. -/
namespace Go.Proofs.YtdfgfhnbcifheaaDoor.Utf
open Go
/-- No rune begins at pos. -/
def bad (s : ByteArray) (pos : Nat) : Prop := (Utf8.decode s pos).1 = 65533 ∧ (Utf8.decode s pos).2 = 1
instance (s : ByteArray) (pos : Nat) : Decidable (bad s pos) := by unfold bad; infer_instance
/-- The runes from pos on (b: no less than the bytes that are left); none if there is a fault. -/
def scan (s : ByteArray) : Nat → Nat → Option (List Nat)
  | 0, _ => some []
  | b + 1, pos => if pos < s.size then (if bad s pos then none else (scan s b (pos + (Utf8.decode s pos).2)).map ((Utf8.decode s pos).1 :: ·)) else some []
def ctl (r : Nat) : Bool := decide (r < 32) || (decide (127 ≤ r) && decide (r ≤ 159))
/-- What is answered behind n runes, c: one of them was a control. -/
def fin (n : Nat) (c : Bool) : Option (List Nat) → Int
  | none => 42
  | some rs => if 128 < n + rs.length then 43 else if (c || rs.any ctl) = true then 44 else 0
def vf (s : ByteArray) : Int := fin 0 false (scan s s.size 0)
theorem width_pos (s : ByteArray) (pos : Nat) (h : pos < s.size) : 1 ≤ (Utf8.decode s pos).2 := by
  by_cases ha : (s[pos]'h).toNat < 128
  · rw [decode_ascii s pos h ha]
    exact Nat.le_refl _
  · exact (decode_high s pos h (by omega)).2
theorem scan_end (s : ByteArray) (b pos : Nat) (h : s.size ≤ pos) : scan s b pos = some [] := by
  cases b with
  | zero => rfl
  | succ b => unfold scan; rw [if_neg (by omega)]
theorem scan_bad (s : ByteArray) (b pos : Nat) (h : pos < s.size) (hb : bad s pos) : scan s (b + 1) pos = none := by
  unfold scan; rw [if_pos h, if_pos hb]
theorem scan_step (s : ByteArray) (b pos : Nat) (h : pos < s.size) (hb : ¬ bad s pos) : scan s (b + 1) pos = (scan s b (pos + (Utf8.decode s pos).2)).map ((Utf8.decode s pos).1 :: ·) := by
  conv => lhs; unfold scan
  rw [if_pos h, if_neg hb]
theorem fin_none (n : Nat) (c : Bool) : fin n c none = 42 := rfl
theorem fin_map (n : Nat) (c : Bool) (r : Nat) (o : Option (List Nat)) : fin n c (o.map (r :: ·)) = fin (n + 1) (c || ctl r) o := by
  cases o with
  | none => rfl
  | some rs =>
    simp only [Option.map_some, fin, List.length_cons, List.any_cons, Bool.or_assoc]
    have e : (128 < n + (rs.length + 1)) = (128 < n + 1 + rs.length) := by rw [show n + (rs.length + 1) = n + 1 + rs.length by omega]
    by_cases h : 128 < n + 1 + rs.length
    · rw [if_pos h, if_pos (e ▸ h)]
    · rw [if_neg h, if_neg (e ▸ h)]; rfl
end Go.Proofs.YtdfgfhnbcifheaaDoor.Utf
