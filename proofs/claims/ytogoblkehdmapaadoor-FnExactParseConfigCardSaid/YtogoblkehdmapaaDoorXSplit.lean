/- strings.Split, as the printed walks meet it: the shelf's contract in the printer's words. -/
import Derived.Test.YtogoblkehdmapaaDoorShelf
import Derived.Test.YtogoblkehdmapaaDoorM0
namespace Go.Proofs.YtogoblkehdmapaaDoor.M
open Go.RowKit Go.Proofs.YtogoblkehdmapaaDoorW.PrintWords Go.Proofs.YtogoblkehdmapaaDoorW.PrintLast Go.Proofs.YtogoblkehdmapaaDoorW.PrintMore
/-- bytealg's variable holds some number (strings.Split reads it). -/
def Tabs (w : World) : Prop := 1 < w.heap.size ∧ ∃ m, w.cell? ⟨1, 0, none⟩ = some (.int .i64 m)
theorem Tabs.below {w w' : World} (h : Tabs w) (hb : Below w.heap.size w w') : Tabs w' := by
  obtain ⟨hl, m, h⟩ := h
  exact ⟨Nat.lt_of_lt_of_le hl hb.size, m, by rw [hb.cell hl]; exact h⟩
def strings_Split.f (s sep : ByteArray) : Option (List ByteArray) := if 1 ≤ sep.size then if s.size < 4294967281 then some (Lib.splitB sep 0 (Lib.countB s sep) s) else none else none
theorem strings_Split.calls (a0 a1 : ByteArray) (r : List ByteArray) (w : World) (h : strings_Split.f a0 a1 = some r) (hT : Tabs w) :
    Calls Tryd.prog 37 #[.string a0, .string a1] w fun e w' => ∃ v0_ : Value, e = .returned (v0_) ∧ Kd.R Kd.string 9 w' w.heap.size (fun _ => True) v0_ r ∧ Below w.heap.size w w' := by
  obtain ⟨_, m, hm⟩ := hT
  unfold strings_Split.f at h
  by_cases h1 : 1 ≤ a1.size
  · rw [if_pos h1] at h
    by_cases h2 : a0.size < 4294967281
    · rw [if_pos h2] at h
      obtain rfl := Option.some.inj h
      refine (Tryd.strings_Split a0 a1 m w h2 hm h1).mono ?_
      rintro e w' ⟨rfl, rfl⟩
      have hlen := Lib.splitB_all a1 h1 0 _ a0 rfl
      have hle := Lib.countB_le a1 h1 a0.size a0 (Nat.le_refl _)
      refine ⟨_, rfl, Kd.R_of_own ⟨?_, .inr ⟨w.heap.size, Lib.countB a0 a1 + 1, _, by rw [hlen], Nat.le_refl _, blk_new w _, by rw [hlen]; exact Nat.le_refl _, by unfold maxLen; omega, ?_, ?_⟩⟩ (fun _ _ => trivial), below_alloc (Below.refl _ _) _⟩
      · simp [encs]
      · simp [hlen]
      · rw [hlen, List.take_of_length_le (by simp [hlen])]
        simp [encs]
    · rw [if_neg h2] at h; cases h
  · rw [if_neg h1] at h; cases h
end Go.Proofs.YtogoblkehdmapaaDoor.M
