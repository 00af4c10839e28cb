/- slices.Clone over files: a row of the call's own with the same files. -/
import Derived.Shelf.SlicesE.Clone
import Derived.Test.YtagchfmclccfgaaM0
namespace Go.Proofs.Ytagchfmclccfgaa.M
open Go.RowKit Go.Shelf Go.Proofs.YtagchfmclccfgaaW.PrintWords Go.Proofs.YtagchfmclccfgaaW.PrintLast Go.Proofs.YtagchfmclccfgaaW.PrintMore
set_option linter.unusedVariables false
set_option linter.unusedSimpArgs false
namespace Flat
def g (x : S71) : List Value := [.string x.f0, .string x.f1, .int .i64 x.f2]
theorem len (xs : List S71) : (xs.flatMap g).length = xs.length * 3 := by
  induction xs with
  | nil => rfl
  | cons x xs ih => rw [List.flatMap_cons, List.length_append, ih, List.length_cons]; show 3 + _ = _; omega
theorem one (xs : List S71) : ∀ u ∈ xs.flatMap g, u.oneCell' = true := by
  intro u hu
  obtain ⟨x, _, hx⟩ := List.mem_flatMap.1 hu
  simp only [g, List.mem_cons, List.not_mem_nil, or_false] at hx
  rcases hx with rfl | rfl | rfl <;> rfl
theorem cells (w : World) (ad : Addr) (xs : List S71) : ∀ n0 : Nat, (∀ j p, xs[j]? = some p → ∀ i u, (g p)[i]? = some u → w.cell? (ad.add ((n0 + j) * 3 + i)) = some u) →
    ∀ j u, (xs.flatMap g)[j]? = some u → w.cell? (ad.add (n0 * 3 + j)) = some u := by
  induction xs with
  | nil => intro n0 _ j u hu; simp at hu
  | cons x xs ih =>
    intro n0 h j u hu
    rw [List.flatMap_cons] at hu
    by_cases hj : j < 3
    · rw [List.getElem?_append_left (show j < (g x).length from hj)] at hu
      have := h 0 x rfl j u hu
      simpa using this
    · rw [List.getElem?_append_right (show (g x).length ≤ j by show 3 ≤ j; omega)] at hu
      have := ih (n0 + 1) (fun j p hp i u hu => by
        have := h (j + 1) p (by simpa using hp) i u hu
        rw [show n0 + 1 + j = n0 + (j + 1) by omega]; exact this) (j - 3) u hu
      rw [show n0 * 3 + j = (n0 + 1) * 3 + (j - 3) by omega]; exact this
theorem reps {R : S71 → List Value → Prop} (hR : ∀ x, R x (g x)) (xs : List S71) : Reps R 3 xs (xs.flatMap g) := by
  refine ⟨len xs, ?_⟩
  induction xs with
  | nil => intro j p h; simp at h
  | cons x xs ih =>
    intro j p h
    rw [List.flatMap_cons]
    cases j with
    | zero =>
      obtain rfl : x = p := by simpa using h
      rw [Nat.zero_mul, List.drop_zero, List.take_append_of_le_length (show 3 ≤ (g x).length from Nat.le_refl _), List.take_of_length_le (show (g x).length ≤ 3 from Nat.le_refl _)]
      exact hR x
    | succ j =>
      have := ih j p (by simpa using h)
      rw [List.drop_append, show (g x).length = 3 from rfl, List.drop_eq_nil_of_le (show (g x).length ≤ (j + 1) * 3 by show 3 ≤ _; omega), List.nil_append, show (j + 1) * 3 - 3 = j * 3 by omega]
      exact this
theorem of_C {w : World} {ad : Addr} {n : Nat} {xs : List S71} (h : Kd.C k71 w (some ad) n xs) (hn : 0 < n) : ∀ j u, (xs.flatMap g)[j]? = some u → w.cell? (ad.add j) = some u := by
  intro j u hu
  obtain ⟨ad', e, hc⟩ := h.2.2 hn
  obtain rfl : ad = ad' := by injection e
  have := cells w ad xs 0 (fun j p hp i u hu => by
    obtain ⟨c, hl, hK, hcell⟩ := hc j p hp
    obtain rfl := k71_open hK
    rw [Nat.zero_add]
    exact hcell i u hu) j u hu
  simpa using this
end Flat
def clone_File.f (l0 : List S71) : Option (List S71) := if l0.length ≤ 1048576 then some l0 else none
set_option maxHeartbeats 2000000 in
set_option maxRecDepth 100000 in
theorem clone_File.calls (A0 : Option Addr) (c0 : Nat) (l0 : List S71) (w : World) (hr0 : Kd.C k71 w A0 l0.length l0) (hc0 : l0.length ≤ c0) (hl : l0.length ≤ 1048576) :
    Calls Try.prog 71 #[.slice A0 l0.length c0] w fun e w' => ∃ v0_ : Value, e = .returned v0_ ∧ Kd.R k71 71 w' w.heap.size (fun _ => True) v0_ l0 ∧ Below w.heap.size w w' := by
  have hinf : (Try.prog.info? 71).map (fun i => (i.zero, i.size, i.bytes)) = some (some (.agg #[.string ⟨#[]⟩, .string ⟨#[]⟩, .int .i64 0]), 3, 40) := by kernel_rfl
  obtain ⟨i0, hi, hz0, hz1, hz2⟩ := info_parts hinf
  have q39 : ∀ (w : World) (a : Option Addr) (n c n' c' : Nat), (binOp .eql 39 (.slice a n c) (.slice none n' c')).run Try.prog w = .ok (.bool a.isNone) w := fun w a n c n' c' => Lib.run_eql_slice_nil w _ _ a n c n' c' Try.underlying39
  cases A0 with
  | none =>
    have h0 : l0 = [] := by
      cases l0 with
      | nil => rfl
      | cons x l => obtain ⟨ad, e, _⟩ := hr0.2.2 (by simp); cases e
    subst h0
    go_enter Try.func71, Try.ntmps71
    go_wp2
    go_ret
    exact ⟨_, rfl, Kd.R_nil _ _ _ _ _, Below.refl _ _⟩
  | some ad =>
    have HC : Aside0 (0 < l0.length → ∀ j u, (l0.flatMap Flat.g)[j]? = some u → w.cell? (ad.add j) = some u) := Aside0.mk (fun hn => Flat.of_C hr0 hn)
    clear hr0
    go_enter Try.func71, Try.ntmps71
    go_wp2_with (at_builtin; refine wpList_append_own _ rfl _ _ 39 rfl w.heap.size 71 i0 _ 3 40 Try.underlying39 hi hz0 hz1 hz2 rfl (by decide) _ _ _ rfl (World.ownsRow_made w #[] 0 (Nat.le_refl _) (Nat.zero_le _) (by simp)) ad l0.length c0 (l0.flatMap Flat.g) rfl ?qc1 ?qc2 ?qc3 ?qc4 ?qc5 ?qc6 ?_)
    case qc1 => exact Flat.len l0
    case qc2 =>
      intro j u hj
      refine Lib.cell?_alloc_some _ (HC.out ?_ j u hj)
      by_cases h0 : 0 < l0.length
      · exact h0
      · have : l0 = [] := List.length_eq_zero_iff.1 (by omega)
        subst this
        simp at hj
    case qc3 => exact Flat.one l0
    case qc4 => rw [Nat.zero_add]; unfold maxLen; omega
    case qc5 => omega
    case qc6 => simp
    intro v' w1 hown hgrow hnil
    go_wp2
    go_ret
    have hown' : w1.ownsRow w.heap.size 71 3 v' l0.length (l0.flatMap Flat.g) := by simpa using hown
    refine ⟨v', rfl, ⟨fun _ _ => trivial, _, hown', Flat.reps (fun x => k71_mkM _ _ _ x) l0⟩, ?_⟩
    exact ((Below.refl _ w).alloc (Nat.le_refl _) _).grown hgrow (by simp) (by intro k hk; simp [Value.ownBlock] at hk; omega)
end Go.Proofs.Ytagchfmclccfgaa.M
