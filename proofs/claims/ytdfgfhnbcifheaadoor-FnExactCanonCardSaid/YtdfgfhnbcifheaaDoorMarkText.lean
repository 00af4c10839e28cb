/- markText has an answer for every number in reach; marking a list of strings and reading the marks again. Plain. -/
import Derived.Test.YtdfgfhnbcifheaaDoorLoops
import Derived.Test.YtdfgfhnbcifheaaDoorWWords
import Derived.Test.YtdfgfhnbcifheaaDoorF34
namespace Go.Proofs.YtdfgfhnbcifheaaDoor.Mark
open Go.Proofs.YtdfgfhnbcifheaaDoor.M Go.Proofs.YtdfgfhnbcifheaaDoor.Loops Go.Proofs.YtdfgfhnbcifheaaDoorW.PrintWords Go.Proofs.YtdfgfhnbcifheaaDoorW.PrintLast Go.RowKit

theorem text_loop : ∀ (n : Nat) (x : Nat) (t : ByteArray), x < 10 ^ n → n ≤ 18 → t.size + n ≤ 1000 → ∃ r, Ev (fun k => laws_markText.l0 k x t) r := by
  intro n
  induction n with
  | zero =>
    intro x t hx _ ht
    obtain rfl : x = 0 := by simpa using hx
    exact ⟨_, Ev.step (f := fun _ => some _) (fun k => by simp only [laws_markText.l0]; rw [if_neg (by omega), if_pos (by omega)]) (Ev.now _)⟩
  | succ n ih =>
    intro x t hx hn ht
    by_cases h0 : x = 0
    · subst h0
      exact ⟨_, Ev.step (f := fun _ => some _) (fun k => by simp only [laws_markText.l0]; rw [if_neg (by omega), if_pos (by omega)]) (Ev.now _)⟩
    · have hp : (10 : Nat) ^ (n + 1) ≤ 10 ^ 18 := Nat.pow_le_pow_right (by decide) (by omega)
      have hp' : (10 : Nat) ^ 18 = 1000000000000000000 := by decide
      have hdv : x / 10 < 10 ^ n := by
        rw [Nat.pow_succ] at hx
        omega
      obtain ⟨r, hr⟩ := ih (x / 10) (strOfNums [(wrap64 (48 + (Int.tmod (x : Int) 10))) % 256] ++ t) hdv (by omega) (by rw [ByteArray.size_append, strOfNums_size]; simp; omega)
      refine ⟨r, Ev.step (fun k => ?_) hr⟩
      simp only [laws_markText.l0]
      have e : wrap64 (Int.tdiv (x : Int) 10) = ((x / 10 : Nat) : Int) := by
        rw [Int.tdiv_eq_ediv_of_nonneg (by omega), w_id _ (by omega) (by omega)]
        omega
      rw [if_pos (by omega), Option.bind_some, if_pos (by rw [strOfNums_size]; simp; omega), e]
theorem text_ex (n : Nat) (h : n < 10 ^ 18) : ∃ r, Ev (fun k => laws_markText.f k n) r := by
  unfold laws_markText.f
  by_cases h0 : (n : Int) ≤ 0
  · exact ⟨_, Ev.ite_pos h0 (Ev.now _)⟩
  · obtain ⟨r, hr⟩ := text_loop 18 n ⟨#[]⟩ h (by omega) (by show 0 + 18 ≤ 1000; omega)
    exact ⟨r, Ev.ite_neg h0 hr⟩
open Classical in
/-- The mark of n. -/
noncomputable def T (n : Nat) : ByteArray := if h : ∃ r, Ev (fun k => laws_markText.f k n) r then Classical.choose h else ByteArray.empty
theorem text (n : Nat) (h : n < 10 ^ 18) : Ev (fun k => laws_markText.f k n) (T n) := by
  have hx := text_ex n h
  unfold T
  rw [dif_pos hx]
  exact Classical.choose_spec hx
end Go.Proofs.YtdfgfhnbcifheaaDoor.Mark
