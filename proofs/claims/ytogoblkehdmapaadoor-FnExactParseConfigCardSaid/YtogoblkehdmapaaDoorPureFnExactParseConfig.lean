/- The program's ParseConfig answers what the reference's answers, for every line of at most 2^20 bytes (the law lets longer ones by). No conditions. -/
import Derived.Test.YtogoblkehdmapaaDoorDFnExactParseConfig
import Derived.Test.YtogoblkehdmapaaDoorParsePl
namespace Go.Proofs.YtogoblkehdmapaaDoor.Pure
open Go.Proofs.YtogoblkehdmapaaDoor.M Go.Proofs.YtogoblkehdmapaaDoor.Loops Go.Proofs.YtogoblkehdmapaaDoor.Pc Go.Proofs.YtogoblkehdmapaaDoorW.PrintWords Go.Proofs.YtogoblkehdmapaaDoorW.PrintLast Go.RowKit Go.Lib
theorem spec_between (a b c : Int) : spec_l1Between.f a b c = some (decide (b ≤ a ∧ a ≤ c)) := by
  unfold spec_l1Between.f
  by_cases h : b ≤ a
  · rw [if_pos h]; simp [h]
  · rw [if_neg h]; simp [h]
theorem impl_between_eq (a b c : Int) : impl_between.f a b c = some (decide (b ≤ a ∧ a ≤ c)) := by
  unfold impl_between.f
  by_cases h : b ≤ a
  · rw [if_pos h]; simp [h]
  · rw [if_neg h]; simp [h]
theorem cfg_same (a b c d e f : Int) : ∃ r, spec_ConfigOK.f a b c d e f = some r ∧ impl_ConfigOK.f a b c d e f = some r := by
  unfold spec_ConfigOK.f impl_ConfigOK.f
  simp only [spec_between, impl_between_eq, Option.bind_some, decide_eq_true_eq]
  repeat' split
  all_goals exact ⟨_, rfl, rfl⟩
abbrev Eight : Type := Int × Int × Int × Int × Int × Int × Int × Bool
def none8 : Eight := (0, 0, 0, 0, 0, 0, 0, false)
/-- What is answered once the numbers are read. -/
def tail (x6 : List Int) : Option Eight := if x6.length = 7 then ((spec_ConfigOK.f (rd x6 0) (rd x6 1) (rd x6 2) (rd x6 3) (rd x6 4) (rd x6 5)).bind fun ok => (if ok = true then (if rd x6 6 > 1000000000 then some none8 else some (rd x6 0, rd x6 1, rd x6 2, rd x6 3, rd x6 4, rd x6 5, rd x6 6, true)) else some none8)) else none
theorem tail_some (x : List Int) (h : x.length = 7) : ∃ r, tail x = some r ∧ (((impl_ConfigOK.f (rd x 0) (rd x 1) (rd x 2) (rd x 3) (rd x 4) (rd x 5)).bind fun ok => if ok = true then (if rd x 6 > 1000000000 then some none8 else some (rd x 0, rd x 1, rd x 2, rd x 3, rd x 4, rd x 5, rd x 6, true)) else some none8) = some r) := by
  obtain ⟨ok, h1, h2⟩ := cfg_same (rd x 0) (rd x 1) (rd x 2) (rd x 3) (rd x 4) (rd x 5)
  unfold tail
  rw [if_pos h, h1, h2]
  simp only [Option.bind_some]
  repeat' split
  all_goals exact ⟨_, rfl, rfl⟩
def vals (D : List ByteArray) : List Int := D.map fun s => (val 0 s.data.toList : Int)
theorem at_ (D : List ByteArray) (i : Nat) (h : i < D.length) : rdOf ByteArray.empty D (i : Int) = D[i] := by
  unfold rdOf
  rw [Int.toNat_natCast, List.getD_eq_getElem?_getD, List.getElem?_eq_getElem h]
  rfl
theorem impl_loop (D : List ByteArray) (hD : D.length ≤ 7) : ∀ (d i : Nat) (acc : List Int), i + d = D.length → acc.length = i →
    Ev (fun k => impl_numbers.l0 k acc D (D.length : Int) i) (if (D.drop i).all good = true then (acc ++ vals (D.drop i), true) else ([], false)) := by
  intro d
  induction d with
  | zero =>
    intro i acc hi ha
    refine Ev.step (f := fun _ => some (acc, true)) (fun k => by simp only [impl_numbers.l0]; rw [if_neg (by omega)]) (Ev.eq (Ev.now _) ?_)
    rw [List.drop_eq_nil_of_le (by omega)]
    simp [vals]
  | succ d ih =>
    intro i acc hi ha
    have hil : i < D.length := by omega
    have hd : D.drop i = D[i] :: D.drop (i + 1) := List.drop_eq_getElem_cons hil
    obtain ⟨n, hn, hv⟩ := impl_number_eq D[i]
    refine Ev.step (f := fun k => if good D[i] = true then impl_numbers.l0 k (acc ++ [n]) D (D.length : Int) ((i + 1 : Nat) : Int) else some ([], false)) (fun k => by
      simp only [impl_numbers.l0]
      rw [if_pos (by omega), if_pos (by omega), if_pos (by omega), at_ D i hil, hn]
      simp only [Option.bind_some]
      rw [if_pos (show acc.length < 17592186044416 by omega), w_succ i (by omega)]) ?_
    rw [hd]
    by_cases hg : good D[i] = true
    · simp only [hg, if_true]
      have hn2 := hv hg
      refine Ev.eq (ih (i + 1) (acc ++ [n]) (by omega) (by simp [ha])) ?_
      have e : acc ++ [n] ++ vals (D.drop (i + 1)) = acc ++ vals (D[i] :: D.drop (i + 1)) := by rw [hn2, List.append_assoc]; rfl
      rw [List.all_cons, hg, Bool.true_and, e]
    · simp only [hg, Bool.false_eq_true, if_false]
      refine Ev.eq (Ev.now _) ?_
      rw [List.all_cons, Bool.eq_false_iff.2 hg, Bool.false_and]
      simp
theorem spec_loop (D : List ByteArray) (hD : D.length ≤ 7) (r : Eight) : ∀ (d i : Nat) (acc : List Int), i + d = D.length → acc.length = i →
    (if (D.drop i).all good = true then tail (acc ++ vals (D.drop i)) else some none8) = some r → Ev (fun k => spec_ParseConfig.l0 k acc D (D.length : Int) i) r := by
  intro d
  induction d with
  | zero =>
    intro i acc hi ha hr
    refine Ev.step (f := fun _ => some r) (fun k => ?_) (Ev.now _)
    rw [List.drop_eq_nil_of_le (by omega)] at hr
    simp only [List.all_nil, if_true, vals, List.map_nil, List.append_nil] at hr
    simp only [spec_ParseConfig.l0]
    rw [if_neg (by omega)]
    exact hr
  | succ d ih =>
    intro i acc hi ha hr
    have hil : i < D.length := by omega
    have hd : D.drop i = D[i] :: D.drop (i + 1) := List.drop_eq_getElem_cons hil
    obtain ⟨n, hn, hv⟩ := spec_number_eq D[i]
    refine Ev.step (f := fun k => (spec_l7Number.f k D[i]).bind fun b => if b.2 = true then spec_ParseConfig.l0 k (acc ++ [b.1]) D (D.length : Int) ((i + 1 : Nat) : Int) else some none8) (fun k => by
      simp only [spec_ParseConfig.l0]
      rw [if_pos (by omega), if_pos (by omega), if_pos (by omega), at_ D i hil, w_succ i (by omega)]
      congr 1; funext b
      rw [if_pos (show acc.length < 17592186044416 by omega)]
      rfl) ?_
    refine Ev.bind hn ?_
    rw [hd] at hr
    by_cases hg : good D[i] = true
    · simp only [hg, if_true]
      have hn2 := hv hg
      refine ih (i + 1) (acc ++ [n]) (by omega) (by simp [ha]) ?_
      have e : acc ++ [n] ++ vals (D.drop (i + 1)) = acc ++ vals (D[i] :: D.drop (i + 1)) := by rw [hn2, List.append_assoc]; rfl
      rw [List.all_cons, hg, Bool.true_and] at hr
      rw [e]
      exact hr
    · simp only [hg, Bool.false_eq_true, if_false]
      rw [List.all_cons, Bool.eq_false_iff.2 hg, Bool.false_and] at hr
      simp only [Bool.false_eq_true, if_false] at hr
      rw [← Option.some.inj hr]
      exact Ev.now _
theorem both (s : ByteArray) (hs : s.size ≤ 1048576) : ∃ r : Eight, Ev (fun k => spec_ParseConfig.f k s) r ∧ Ev (fun k => impl_ParseConfig.f k s) r := by
  have h1 := spec_split s (by omega)
  have h2 := impl_split s (by omega)
  generalize pieces s = p at h1 h2
  have hi : ∀ k, impl_ParseConfig.f k s = if (p.length : Int) = 8 then (if (rdOf ByteArray.empty p 0).toList = ([99, 111, 110, 102, 105, 103] : List UInt8) then (impl_numbers.f k (p.drop 1)).bind fun n => if n.2 = true then (if n.1.length = 7 then (impl_ConfigOK.f (rd n.1 0) (rd n.1 1) (rd n.1 2) (rd n.1 3) (rd n.1 4) (rd n.1 5)).bind fun ok => if ok = true then (if rd n.1 6 > 1000000000 then some none8 else some (rd n.1 0, rd n.1 1, rd n.1 2, rd n.1 3, rd n.1 4, rd n.1 5, rd n.1 6, true)) else some none8 else none) else some none8 else some none8) else some none8 := fun k => by
    unfold impl_ParseConfig.f
    rw [h2]
    rfl
  have hsp : ∀ r : Eight, Ev (fun k => if (p.length : Int) = 8 then (if 0 < (p.length : Int) then (spec_ParseConfig.j0 k p ((rdOf ByteArray.empty p 0).toList != ([99, 111, 110, 102, 105, 103] : List UInt8))) else (none)) else (spec_ParseConfig.j0 k p true)) r → Ev (fun k => spec_ParseConfig.f k s) r := fun r hr => by
    unfold spec_ParseConfig.f
    exact Ev.bind h1 hr
  by_cases h8 : (p.length : Int) = 8
  · by_cases hc : (rdOf ByteArray.empty p 0).toList = ([99, 111, 110, 102, 105, 103] : List UInt8)
    · have hlen : (p.drop 1).length = 7 := by rw [List.length_drop]; omega
      have hA := impl_loop (p.drop 1) (by omega) 7 0 [] (by omega) rfl
      rw [List.drop_zero, List.nil_append] at hA
      have hspec : ∀ r, (if (p.drop 1).all good = true then tail (vals (p.drop 1)) else some none8) = some r → Ev (fun k => spec_ParseConfig.f k s) r := fun r hr => by
        refine hsp r ?_
        simp only [if_pos h8, if_pos (show 0 < (p.length : Int) by omega)]
        refine Ev.step (f := fun k => spec_ParseConfig.l0 k [] (p.drop 1) ((p.drop 1).length : Int) ((0 : Nat) : Int)) (fun k => ?_) (spec_loop (p.drop 1) (by omega) r 7 0 [] (by omega) rfl (by rw [List.drop_zero, List.nil_append]; exact hr))
        simp only [spec_ParseConfig.j0]
        rw [if_neg (by rw [hc]; decide), if_pos (by omega)]
        rfl
      by_cases hg : (p.drop 1).all good = true
      · rw [if_pos hg] at hA
        obtain ⟨r, hr1, hr2⟩ := tail_some (vals (p.drop 1)) (by unfold vals; rw [List.length_map]; exact hlen)
        refine ⟨r, hspec r (by rw [if_pos hg]; exact hr1), ?_⟩
        simp only [hi, if_pos h8, if_pos hc]
        refine Ev.bind (a := (vals (p.drop 1), true)) hA ?_
        simp only [if_true]
        rw [if_pos (by unfold vals; rw [List.length_map]; exact hlen), hr2]
        exact Ev.now _
      · rw [if_neg hg] at hA
        refine ⟨none8, hspec none8 (by rw [if_neg hg]), ?_⟩
        simp only [hi, if_pos h8, if_pos hc]
        refine Ev.bind (a := ([], false)) hA ?_
        simp only [Bool.false_eq_true, if_false]
        exact Ev.now _
    · refine ⟨none8, hsp _ ?_, ?_⟩
      · simp only [if_pos h8, if_pos (show 0 < (p.length : Int) by omega)]
        refine Ev.step (f := fun _ => some none8) (fun k => ?_) (Ev.now _)
        simp only [spec_ParseConfig.j0]
        rw [if_pos (bne_iff_ne.2 hc)]
        rfl
      · simp only [hi, if_pos h8, if_neg hc]
        exact Ev.now _
  · refine ⟨none8, hsp _ ?_, ?_⟩
    · simp only [if_neg h8]
      exact Ev.step (f := fun _ => some none8) (fun k => by simp only [spec_ParseConfig.j0, if_true]; rfl) (Ev.now _)
    · simp only [hi, if_neg h8]
      exact Ev.now _
theorem FnExactParseConfig : FnExactParseConfigPure := by
  intro a0 h0
  unfold laws_FnExactParseConfig.f
  by_cases h : (a0.size : Int) > 1048576
  · exact ⟨0, by rw [if_pos h]⟩
  · obtain ⟨r, hr1, hr2⟩ := both a0 (by omega)
    refine Ev.rounds ?_
    simp only [if_neg h]
    refine Ev.bind hr1 (Ev.bind hr2 ?_)
    unfold laws_eqConfig.f
    simp
    exact Ev.now _
end Go.Proofs.YtogoblkehdmapaaDoor.Pure
