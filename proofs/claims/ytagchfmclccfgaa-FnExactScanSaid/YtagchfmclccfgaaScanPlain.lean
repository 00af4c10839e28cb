/- Scan: the reference's and the program's find the same payloads. Plain. -/
import Derived.Test.YtagchfmclccfgaaXScan
import Derived.Test.YtagchfmclccfgaaBe4
import Derived.Test.YtagchfmclccfgaaFramePlain
import Derived.Test.YtagchfmclccfgaaF29
namespace Go.Proofs.Ytagchfmclccfgaa.ScanPlain
open Go.Proofs.Ytagchfmclccfgaa.M Go.Proofs.Ytagchfmclccfgaa.Loops Go.Proofs.Ytagchfmclccfgaa.FramePlain Go.Proofs.Ytagchfmclccfgaa.Be4 Go.Proofs.YtagchfmclccfgaaW.PrintWords Go.Proofs.YtagchfmclccfgaaW.PrintLast Go.RowKit

theorem list_of (a b : ByteArray) : a.toList = b.toList ↔ a = b := by
  constructor
  · intro h
    rw [ByteArray.toList_eq, ByteArray.toList_eq] at h
    cases a; cases b
    simpa using h
  · rintro rfl; rfl
/-- What both find at the head of s. -/
theorem first_same (s : ByteArray) (h8 : 8 ≤ s.size) (hs : s.size ≤ 1048576) :
    ∃ R : Option ByteArray, Ev (fun k => spec_l2First.f k s) (R.getD ⟨#[]⟩) ∧ (∀ p, R = some p → 1 ≤ p.size ∧ 8 + p.size ≤ s.size ∧ (p.size : Int) = be4 s 0) ∧
      (if be4 s 0 < 1 ∨ 60000 < be4 s 0 ∨ ((s.size - 8 : Nat) : Int) < be4 s 0 then R = none else
        ∃ c, impl_Crc32c.f (s.extract 8 (8 + (be4 s 0).toNat)) = some c ∧ R = if c = be4 s 4 then some (s.extract 8 (8 + (be4 s 0).toNat)) else none) := by
  have hr := be4_range s 0
  have hg := get4 s (by omega)
  have base : ∀ r, Ev (fun k => if be4 s 0 > (wrap64 ((s.size : Int) - 8)) then (some (⟨#[]⟩ : ByteArray)) else (if 8 ≤ (wrap64 (8 + be4 s 0)) then (if (wrap64 (8 + be4 s 0)) ≤ (s.size : Int) then ((spec_Frame.f k (s.extract 8 ((wrap64 (8 + be4 s 0)) : Int).toNat)).bind fun t239 => (if t239.toList = ([] : List UInt8) then (some (⟨#[]⟩ : ByteArray)) else (if 0 ≤ (wrap64 (8 + be4 s 0)) then (if t239.toList = (s.extract 0 ((wrap64 (8 + be4 s 0)) : Int).toNat).toList then (some (s.extract 8 ((wrap64 (8 + be4 s 0)) : Int).toNat)) else (some (⟨#[]⟩ : ByteArray))) else (none)))) else (none)) else (none))) r → Ev (fun k => spec_l2First.f k s) r := by
    intro r h
    unfold spec_l2First.f
    exact Ev.ite_neg (by omega) (Ev.bind hg h)
  have w1 : wrap64 ((s.size : Int) - 8) = (s.size : Int) - 8 := w_id _ (by omega) (by omega)
  by_cases hbig : ((s.size - 8 : Nat) : Int) < be4 s 0
  · refine ⟨none, base _ (Ev.ite_pos (by rw [w1]; omega) (Ev.now _)), fun p hp => (by cases hp), ?_⟩
    rw [if_pos (.inr (.inr hbig))]
  · have w2 : wrap64 (8 + be4 s 0) = ((8 + (be4 s 0).toNat : Nat) : Int) := by rw [w_id _ (by omega) (by omega)]; omega
    obtain ⟨n, hn⟩ : ∃ n : Nat, be4 s 0 = (n : Int) := ⟨_, (Int.toNat_of_nonneg hr.1).symm⟩
    rw [hn, Int.toNat_natCast] at w2
    rw [hn] at hr hbig
    obtain ⟨c, hc1, hc2, hc3, hc4⟩ := CrcPlain.spec_crc (s.extract 8 (8 + n)) (by rw [ByteArray.size_extract]; omega)
    have hsz : (s.extract 8 (8 + n)).size = n := by rw [ByteArray.size_extract]; omega
    have hfr := spec_frame (s.extract 8 (8 + n)) c (Ev.of (spec_Crc32c.mono _) hc1.choose_spec)
    have base2 : ∀ r, Ev (fun k => if (frame (s.extract 8 (8 + n)) c).toList = ([] : List UInt8) then (some (⟨#[]⟩ : ByteArray)) else (if (0 : Int) ≤ ((8 + n : Nat) : Int) then (if (frame (s.extract 8 (8 + n)) c).toList = (s.extract 0 (8 + n)).toList then (some (s.extract 8 (8 + n))) else (some (⟨#[]⟩ : ByteArray))) else (none))) r → Ev (fun k => spec_l2First.f k s) r := by
      intro r h
      refine base _ (Ev.ite_neg (by rw [w1, hn]; omega) ?_)
      rw [hn, w2, Int.toNat_natCast]
      exact Ev.ite_pos (by omega) (Ev.ite_pos (by omega) (Ev.bind hfr h))
    by_cases hin : 1 ≤ n ∧ n ≤ 60000
    · have hf : frame (s.extract 8 (8 + n)) c = (Num.bytes 4 n ++ Num.bytes 4 c) ++ s.extract 8 (8 + n) := by unfold frame; rw [hsz, if_pos hin]
      have h4 : Num.bytes 4 (n : Int) = s.extract 0 4 := (bytes4_iff n (by omega) (by omega) _ (by rw [ByteArray.size_extract]; omega)).2 (by rw [be4_extract s 0 4 (by omega) (by omega)]; exact hn)
      have hcut : s.extract 0 (8 + n) = (s.extract 0 4 ++ s.extract 4 8) ++ s.extract 8 (8 + n) := by
        rw [ByteArray.extract_append_extract, show min 0 4 = 0 from rfl, show max 4 8 = 8 from rfl, ByteArray.extract_append_extract]
        congr 1 <;> omega
      have heq : frame (s.extract 8 (8 + n)) c = s.extract 0 (8 + n) ↔ c = be4 s 4 := by
        have h5 := bytes4_iff c hc3 hc4 (s.extract 4 8) (by rw [ByteArray.size_extract]; omega)
        rw [show be4 (s.extract 4 8) 0 = be4 s 4 from be4_extract s 4 8 (by omega) (by omega)] at h5
        rw [hf, hcut, h4]
        constructor
        · intro e
          refine (h5.1 ?_).symm
          have e1 := congrArg (fun b : ByteArray => b.data.toList) e
          simp only [ByteArray.data_append, Array.toList_append, List.append_assoc] at e1
          have e2 := List.append_cancel_left e1
          have e3 := List.append_cancel_right e2
          exact ByteArray.ext (Array.toList_inj.1 e3)
        · intro e
          rw [h5.2 e.symm]
      have hne : ¬ (frame (s.extract 8 (8 + n)) c).toList = [] := by
        rw [size_zero, hf]
        simp only [ByteArray.size_append, hsz]
        omega
      have hno : ¬ (be4 s 0 < 1 ∨ 60000 < be4 s 0 ∨ ((s.size - 8 : Nat) : Int) < be4 s 0) := by rw [hn]; omega
      by_cases hcc : c = be4 s 4
      · refine ⟨some (s.extract 8 (8 + n)), base2 _ (Ev.ite_neg hne (Ev.ite_pos (by omega) (Ev.ite_pos ((list_of _ _).2 (heq.2 hcc)) (Ev.now _)))), ?_, ?_⟩
        · rintro p hp
          obtain rfl := Option.some.inj hp
          rw [hsz, hn]; omega
        · rw [if_neg hno]
          refine ⟨c, by rw [hn, Int.toNat_natCast]; exact hc2, ?_⟩
          rw [if_pos hcc, hn, Int.toNat_natCast]
      · refine ⟨none, base2 _ (Ev.ite_neg hne (Ev.ite_pos (by omega) (Ev.ite_neg (fun h => hcc (heq.1 ((list_of _ _).1 h))) (Ev.now _)))), fun p hp => (by cases hp), ?_⟩
        rw [if_neg hno]
        exact ⟨c, by rw [hn, Int.toNat_natCast]; exact hc2, by rw [if_neg hcc]⟩
    · have hf : frame (s.extract 8 (8 + n)) c = ⟨#[]⟩ := by unfold frame; rw [hsz, if_neg hin]
      refine ⟨none, base2 _ (Ev.ite_pos (by rw [hf, size_zero]; rfl) (Ev.now _)), fun p hp => (by cases hp), ?_⟩
      rw [if_pos (by rw [hn]; omega)]
theorem step_same (d : ByteArray) (i : Nat) (hi : i ≤ d.size) (hd : d.size ≤ 1048576) :
    ∃ R : Option ByteArray, Scan.step d i = some (R.map fun p => (p, ((i + 8 + p.size : Nat) : Int))) ∧ Ev (fun k => spec_l2First.f k (d.extract i d.size)) (R.getD ⟨#[]⟩) ∧ (∀ p, R = some p → 1 ≤ p.size ∧ i + 8 + p.size ≤ d.size) := by
  have hsz : (d.extract i d.size).size = d.size - i := by rw [ByteArray.size_extract]; omega
  have w1 : wrap64 ((d.size : Int) - (i : Int)) = (d.size : Int) - i := w_id _ (by omega) (by omega)
  by_cases h8 : 8 ≤ d.size - i
  · obtain ⟨R, h1, h2, h3⟩ := first_same (d.extract i d.size) (by omega) (by omega)
    refine ⟨R, ?_, h1, fun p hp => ⟨(h2 p hp).1, by have := (h2 p hp).2; omega⟩⟩
    unfold Scan.step
    rw [w1, if_pos (by omega), source_num4 _ (by omega)]
    simp only [Option.bind_some]
    have hsz4 : ((d.extract i d.size).extract 4 (d.extract i d.size).size).size = d.size - i - 4 := by rw [ByteArray.size_extract]; omega
    rw [source_num4 _ (by omega)]
    simp only [Option.bind_some]
    generalize hS : d.extract i d.size = s at *
    have hb : be4 (s.extract 4 s.size) 0 = be4 s 4 := be4_extract s 4 s.size (by omega) (by omega)
    have he : (s.extract 4 s.size).extract 4 (s.extract 4 s.size).size = s.extract 8 s.size := by
      rw [ByteArray.extract_extract, hsz4, show 4 + (d.size - i - 4) = s.size by omega, Nat.min_self]
    rw [hb, he]
    have hsz8 : (s.extract 8 s.size).size = s.size - 8 := by rw [ByteArray.size_extract]; omega
    rw [hsz8]
    by_cases hno : be4 s 0 < 1 ∨ 60000 < be4 s 0 ∨ ((s.size - 8 : Nat) : Int) < be4 s 0
    · rw [if_pos hno] at h3 ⊢
      rw [h3]; rfl
    · rw [if_neg hno] at h3 ⊢
      obtain ⟨c, hc, hR⟩ := h3
      obtain ⟨n, hn⟩ : ∃ n : Nat, be4 s 0 = (n : Int) := ⟨_, (Int.toNat_of_nonneg (be4_range s 0).1).symm⟩
      rw [hn] at hno hc hR ⊢
      rw [Int.toNat_natCast] at hc hR
      have ht : impl_source_text.f (s.extract 8 s.size) (n : Int) = some (s.extract 8 (8 + n), s.extract (8 + n) s.size) := by
        unfold impl_source_text.f
        have hm : mn (n : Int) ((s.extract 8 s.size).size : Int) = n := by unfold mn; rw [hsz8, if_neg (by omega)]
        have x1 : (s.extract 8 s.size).extract 0 n = s.extract 8 (8 + n) := by rw [ByteArray.extract_extract, Nat.add_zero, Nat.min_eq_left (by omega)]
        have x2 : (s.extract 8 s.size).extract n (s.size - 8) = s.extract (8 + n) s.size := by rw [ByteArray.extract_extract, show 8 + (s.size - 8) = s.size by omega, Nat.min_self]
        rw [hm, hsz8, if_pos (by omega), if_pos (by omega), Int.toNat_natCast, x1, x2]
      rw [ht]
      simp only [Option.bind_some]
      rw [hc]
      simp only [Option.bind_some]
      by_cases hcc : c = be4 s 4
      · rw [if_pos hcc] at hR ⊢
        have hszn : (s.extract 8 (8 + n)).size = n := by rw [ByteArray.size_extract]; omega
        rw [hR, Option.map_some, hszn, w_id (8 + (n : Int)) (by omega) (by omega), w_id _ (by omega) (by omega)]
        rw [show (i : Int) + (8 + (n : Int)) = ((i + 8 + n : Nat) : Int) by omega]
      · rw [if_neg hcc] at hR ⊢
        rw [hR]; rfl
  · refine ⟨none, ?_, ?_, fun p hp => (by cases hp)⟩
    · unfold Scan.step
      rw [w1, if_neg (by omega)]; rfl
    · unfold spec_l2First.f
      exact Ev.ite_pos (by omega) (Ev.now _)
theorem scan_from (d : ByteArray) (hd : d.size ≤ 1048576) : ∀ (m i : Nat), i ≤ d.size → d.size - i ≤ m → ∀ acc : List ByteArray, acc.length ≤ i →
    ∃ L : List (ByteArray × Int), Scan.from_ d (m + 1) i = some L ∧ Ev (fun k => spec_Scan.l0 k d acc (i : Int)) (acc ++ L.map (·.1), if L = [] then (i : Int) else Scan.lastEnd L) ∧ L.length ≤ d.size - i := by
  intro m
  induction m with
  | zero =>
    intro i hi hm acc ha
    obtain rfl : i = d.size := by omega
    obtain ⟨R, h1, h2, h3⟩ := step_same d d.size (by omega) hd
    have hR : R = none := by
      cases hR : R with
      | none => rfl
      | some p => have := h3 p hR; omega
    subst hR
    refine ⟨[], ?_, ?_, by simp⟩
    · rw [Scan.from_, h1]; rfl
    · refine Ev.step (f := fun k => (spec_l2First.f k (d.extract d.size d.size)).bind fun t => if t.toList = ([] : List UInt8) then some (acc, (d.size : Int)) else (if acc.length < 8796093022208 then (spec_Scan.l0 k d (acc ++ [t]) (wrap64 ((d.size : Int) + (wrap64 (8 + (t.size : Int)))))) else (none))) (fun k => ?_) (Ev.bind h2 (Ev.eq (Ev.ite_pos (size_zero.2 rfl) (Ev.now _)) (by simp)))
      simp only [spec_Scan.l0]
      rw [if_pos (by omega), if_pos (by omega), Int.toNat_natCast]
  | succ m ih =>
    intro i hi hm acc ha
    obtain ⟨R, h1, h2, h3⟩ := step_same d i hi hd
    have base : ∀ r, Ev (fun k => if (R.getD ⟨#[]⟩).toList = ([] : List UInt8) then some (acc, (i : Int)) else (if acc.length < 8796093022208 then (spec_Scan.l0 k d (acc ++ [R.getD ⟨#[]⟩]) (wrap64 ((i : Int) + (wrap64 (8 + ((R.getD ⟨#[]⟩).size : Int)))))) else (none))) r → Ev (fun k => spec_Scan.l0 k d acc (i : Int)) r := by
      intro r hr
      refine Ev.step (f := fun k => (spec_l2First.f k (d.extract i d.size)).bind fun t => if t.toList = ([] : List UInt8) then some (acc, (i : Int)) else (if acc.length < 8796093022208 then (spec_Scan.l0 k d (acc ++ [t]) (wrap64 ((i : Int) + (wrap64 (8 + (t.size : Int)))))) else (none))) (fun k => ?_) (Ev.bind h2 hr)
      simp only [spec_Scan.l0]
      rw [if_pos (by omega), if_pos (by omega), Int.toNat_natCast]
    cases R with
    | none =>
      refine ⟨[], ?_, base _ (Ev.eq (Ev.ite_pos (size_zero.2 rfl) (Ev.now _)) (by simp)), by simp⟩
      rw [Scan.from_, h1]; rfl
    | some p =>
      obtain ⟨h4, h5⟩ := h3 p rfl
      obtain ⟨L, hL1, hL2, hL3⟩ := ih (i + 8 + p.size) (by omega) (by omega) (acc ++ [p]) (by simp; omega)
      refine ⟨(p, ((i + 8 + p.size : Nat) : Int)) :: L, ?_, base _ (Ev.ite_neg (fun h => by have := size_zero.1 h; simp only [Option.getD_some] at this; omega) (Ev.ite_pos (by omega) ?_)), by simp; omega⟩
      · rw [Scan.from_, h1]
        simp only [Option.map_some, Option.bind_some]
        rw [if_pos (by omega), Int.toNat_natCast, hL1]; rfl
      · simp only [Option.getD_some]
        have e : wrap64 ((i : Int) + wrap64 (8 + (p.size : Int))) = ((i + 8 + p.size : Nat) : Int) := by rw [w_id (8 + (p.size : Int)) (by omega) (by omega), w_id _ (by omega) (by omega)]; omega
        rw [e]
        refine Ev.eq hL2 ?_
        rw [if_neg (List.cons_ne_nil _ _)]
        simp only [List.map_cons, List.append_assoc, List.singleton_append]
        congr 1
        cases L with
        | nil => simp [Scan.lastEnd]
        | cons x L => rw [if_neg (by simp)]; simp [Scan.lastEnd]
theorem scan_same (d : ByteArray) (hd : d.size ≤ 1048576) : ∃ (P : List ByteArray) (e : Int), impl_Scan.f d = some (P, e) ∧ Ev (fun k => spec_Scan.f k d) (P, e) ∧ P.length ≤ 1048576 := by
  obtain ⟨L, h1, h2, h3⟩ := scan_from d hd d.size 0 (by omega) (by omega) [] (by simp)
  refine ⟨L.map (·.1), Scan.lastEnd L, ?_, ?_, by rw [List.length_map]; omega⟩
  · unfold impl_Scan.f
    rw [if_pos hd, h1, Option.bind_some, if_pos (by omega)]
  · unfold spec_Scan.f
    refine Ev.eq h2 ?_
    cases L with
    | nil => rfl
    | cons x L => simp
end Go.Proofs.Ytagchfmclccfgaa.ScanPlain
