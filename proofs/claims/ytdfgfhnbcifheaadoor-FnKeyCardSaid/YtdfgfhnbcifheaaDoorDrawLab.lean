/- Labels out of bytes: every draw has an answer. Plain. UNDER WAY: picks only. -/
import Derived.Test.YtdfgfhnbcifheaaDoorF42
import Derived.Test.YtdfgfhnbcifheaaDoorF45
import Derived.Test.YtdfgfhnbcifheaaDoorF58
import Derived.Test.YtdfgfhnbcifheaaDoorF44
import Derived.Test.YtdfgfhnbcifheaaDoorF61
import Derived.Test.YtdfgfhnbcifheaaDoorF46
import Derived.Test.YtdfgfhnbcifheaaDoorF19
namespace Go.Proofs.YtdfgfhnbcifheaaDoor.Draw
open Go.Proofs.YtdfgfhnbcifheaaDoor.M Go.Proofs.YtdfgfhnbcifheaaDoor.Loops Go.Proofs.YtdfgfhnbcifheaaDoorW.PrintWords Go.Proofs.YtdfgfhnbcifheaaDoorW.PrintLast Go.Proofs.YtdfgfhnbcifheaaDoorW.PrintMore Go.RowKit
set_option linter.unusedVariables false
/-- The code's bytes are bytes, and it is no longer than can be. -/
def Code (s : List Int) : Prop := (∀ x ∈ s, 0 ≤ x ∧ x ≤ 255) ∧ s.length ≤ 1099511627776
/-- A reader's state. -/
def St (a sd : Int) : Prop := 0 ≤ a ∧ a ≤ 1125899906842624 ∧ 0 ≤ sd ∧ sd < 2147483648
theorem rd_ok {s : List Int} (h : Code s) (i : Int) : 0 ≤ rd s i ∧ rd s i ≤ 255 := by
  unfold rd
  rw [List.getD_eq_getElem?_getD]
  by_cases hi : i.toNat < s.length
  · rw [List.getElem?_eq_getElem hi]; exact h.1 _ (List.getElem_mem hi)
  · rw [List.getElem?_eq_none (by omega)]; decide
theorem tmod_in (x : Int) (n : Int) (hx : 0 ≤ x) (hn : 0 < n) : 0 ≤ Int.tmod x n ∧ Int.tmod x n < n := by
  rw [Int.tmod_eq_emod_of_nonneg hx]
  exact ⟨Int.emod_nonneg _ (by omega), Int.emod_lt_of_pos _ hn⟩
theorem byte_ok {s : List Int} (h : Code s) {a sd : Int} (ha : St a sd) : ∃ v sd', spec_l1Cur_byte.f s a sd = some (v, a + 1, sd') ∧ 0 ≤ v ∧ v ≤ 255 ∧ 0 ≤ sd' ∧ sd' < 2147483648 := by
  obtain ⟨a0, a1, s0, s1⟩ := ha
  have hl := h.2
  have e1 : wrap64 (a + 1) = a + 1 := w_id _ (by omega) (by omega)
  have e2 : wrap64 (a + 1 - 1) = a := (w_id _ (by omega) (by omega)).trans (by omega)
  have e3 : wrap64 (40 * (s.length : Int)) = 40 * (s.length : Int) := w_id _ (by omega) (by omega)
  have e4 : wrap64 (200 + 40 * (s.length : Int)) = 200 + 40 * (s.length : Int) := w_id _ (by omega) (by omega)
  unfold spec_l1Cur_byte.f
  rw [e1, e2, e3, e4]
  by_cases c1 : 200 + 40 * (s.length : Int) < a + 1
  · rw [if_pos c1]
    exact ⟨0, sd, rfl, by omega, by omega, s0, s1⟩
  · rw [if_neg c1]
    by_cases c2 : (s.length : Int) < a + 1
    · rw [if_pos c2]
      have f1 : wrap64 (sd * 1103515245) = sd * 1103515245 := w_id _ (by omega) (by omega)
      have f2 : wrap64 (sd * 1103515245 + 12345) = sd * 1103515245 + 12345 := w_id _ (by omega) (by omega)
      have hA : Cur.seedA sd = Int.tmod (sd * 1103515245 + 12345) 2147483648 := by unfold Cur.seedA; rw [f1, f2]
      have hA2 := tmod_in (sd * 1103515245 + 12345) 2147483648 (by omega) (by decide)
      rw [← hA] at hA2
      have hd : 0 ≤ Int.tdiv (Cur.seedA sd) 65536 := Int.tdiv_nonneg hA2.1 (by decide)
      have hd2 : Int.tdiv (Cur.seedA sd) 65536 ≤ Cur.seedA sd := Int.tdiv_le_self _ hA2.1
      have hw : wrap64 (Int.tdiv (Cur.seedA sd) 65536) = Int.tdiv (Cur.seedA sd) 65536 := w_id _ (by omega) (by omega)
      have ht := tmod_in (Int.tdiv (Cur.seedA sd) 65536) 256 hd (by decide)
      exact ⟨_, _, rfl, by rw [hw]; exact ht.1, by rw [hw]; omega, hA2.1, hA2.2⟩
    · rw [if_neg c2, if_pos a0, if_pos (by omega)]
      have hx := rd_ok h a
      have g0 : wrap64 (rd s a) = rd s a := w_id _ (by omega) (by omega)
      have g1 : wrap64 (sd * 31) = sd * 31 := w_id _ (by omega) (by omega)
      have g2 : wrap64 (sd * 31 + rd s a) = sd * 31 + rd s a := w_id _ (by omega) (by omega)
      have g3 : wrap64 (sd * 31 + rd s a + 7) = sd * 31 + rd s a + 7 := w_id _ (by omega) (by omega)
      have hB : Cur.seedB sd (rd s a) = Int.tmod (sd * 31 + rd s a + 7) 2147483648 := by unfold Cur.seedB; rw [g0, g1, g2, g3]
      have hB2 := tmod_in (sd * 31 + rd s a + 7) 2147483648 (by omega) (by decide)
      rw [← hB] at hB2
      exact ⟨_, _, rfl, by rw [g0]; exact hx.1, by rw [g0]; exact hx.2, hB2.1, hB2.2⟩
/-- One of 0 .. n-1. -/
theorem pick_ok {s : List Int} (h : Code s) {a sd : Int} (ha : St a sd) (n : Int) (h0 : 0 ≤ n) (h1 : n ≤ 256) :
    ∃ v a' sd', spec_l1Cur_pick.f s a sd n = some (v, a', sd') ∧ 0 ≤ v ∧ (v < n ∨ n = 0) ∧ v ≤ 255 ∧ a ≤ a' ∧ a' ≤ a + 1 ∧ 0 ≤ sd' ∧ sd' < 2147483648 := by
  unfold spec_l1Cur_pick.f
  by_cases c : n ≤ 1
  · rw [if_pos c]
    exact ⟨0, a, sd, rfl, by omega, by omega, by omega, by omega, by omega, ha.2.2.1, ha.2.2.2⟩
  · rw [if_neg c, if_pos h1]
    obtain ⟨v, sd', e, v0, v1, d0, d1⟩ := byte_ok h ha
    rw [e]
    simp only [Option.bind_some]
    rw [if_neg (by omega)]
    have ht := tmod_in v n v0 (by omega)
    exact ⟨_, _, _, rfl, ht.1, .inl ht.2, by omega, by omega, by omega, d0, d1⟩
theorem rdOf_size {L : List ByteArray} {b : Nat} (hs : ∀ x ∈ L, x.size ≤ b) (i : Int) : (rdOf ByteArray.empty L i).size ≤ b := by
  unfold rdOf
  rw [List.getD_eq_getElem?_getD]
  by_cases hi : i.toNat < L.length
  · rw [List.getElem?_eq_getElem hi]; exact hs _ (List.getElem_mem hi)
  · rw [List.getElem?_eq_none (by omega)]; exact Nat.zero_le _
theorem val_loop {s : List Int} (h : Code s) (L : List ByteArray) (h0 : 0 < L.length) (h1 : L.length ≤ 256) (hs : ∀ x ∈ L, x.size ≤ 300) (n : Nat) (hn : n ≤ 256) :
    ∀ m j (t : ByteArray) (a sd : Int), j + m = n → t.size ≤ 300 * j → 0 ≤ a → a + m ≤ 1125899906842624 → 0 ≤ sd → sd < 2147483648 →
      ∃ r a' sd', Ev (fun k => spec_l3DrawValue.l0 k L t (n : Int) (j : Int) s a sd) (r, a', sd') ∧ r.size ≤ 300 * n ∧ a ≤ a' ∧ a' ≤ a + m ∧ 0 ≤ sd' ∧ sd' < 2147483648 := by
  intro m
  induction m with
  | zero =>
    intro j t a sd hj ht a0 a1 s0 s1
    obtain rfl : j = n := by omega
    exact ⟨t, a, sd, Ev.step (f := fun _ => some (t, a, sd)) (fun k => by simp only [spec_l3DrawValue.l0]; rw [if_neg (by omega)]) (Ev.now _), ht, by omega, by omega, s0, s1⟩
  | succ m ih =>
    intro j t a sd hj ht a0 a1 s0 s1
    obtain ⟨v, a', sd', e, v0, v1, _, b0, b1, d0, d1⟩ := pick_ok h (a := a) (sd := sd) ⟨a0, by omega, s0, s1⟩ (L.length : Int) (by omega) (by omega)
    have hz := rdOf_size hs v
    obtain ⟨r, a2, sd2, hr, rz, c0, c1, f0, f1⟩ := ih (j + 1) (t ++ rdOf ByteArray.empty L v) a' sd' (by omega) (by rw [ByteArray.size_append]; omega) (by omega) (by omega) d0 d1
    refine ⟨r, a2, sd2, Ev.step (fun k => ?_) hr, rz, by omega, by omega, f0, f1⟩
    simp only [spec_l3DrawValue.l0]
    rw [if_pos (by omega), e]
    simp only [Option.bind_some]
    rw [if_pos v0, if_pos (by omega), if_pos (by omega), w_succ j (by omega)]
theorem val_ok {s : List Int} (h : Code s) {a sd : Int} (a0 : 0 ≤ a) (a1 : a ≤ 1000000) (s0 : 0 ≤ sd) (s1 : sd < 2147483648) :
    ∃ r a' sd', Ev (fun k => spec_l3DrawValue.f k s a sd) (r, a', sd') ∧ r.size ≤ 1000 ∧ a ≤ a' ∧ a' ≤ a + 5 ∧ 0 ≤ sd' ∧ sd' < 2147483648 := by
  obtain ⟨v, a', sd', e, v0, v1, _, b0, b1, d0, d1⟩ := pick_ok h (a := a) (sd := sd) ⟨a0, by omega, s0, s1⟩ 4 (by omega) (by omega)
  obtain ⟨n, rfl⟩ := Int.eq_ofNat_of_zero_le v0
  obtain ⟨r, a2, sd2, hr, rz, c0, c1, f0, f1⟩ := val_loop h [(⟨#[97]⟩ : ByteArray), (⟨#[98]⟩ : ByteArray), (⟨#[119, 101, 98]⟩ : ByteArray), (⟨#[120, 32, 121]⟩ : ByteArray), (⟨#[195, 169]⟩ : ByteArray), (⟨#[226, 130, 172]⟩ : ByteArray), (⟨#[240, 159, 152, 128]⟩ : ByteArray), (⟨#[49]⟩ : ByteArray), (⟨#[45]⟩ : ByteArray), (⟨#[122]⟩ : ByteArray)] (by decide) (by decide) (by decide) n (by omega) n 0 (⟨#[]⟩ : ByteArray) a' sd' (by omega) (Nat.zero_le _) (by omega) (by omega) d0 d1
  refine ⟨r, a2, sd2, ?_, by omega, by omega, by omega, f0, f1⟩
  unfold spec_l3DrawValue.f
  rw [e]
  simp only [Option.bind_some]
  exact hr
abbrev Lab := S38
theorem fit_one {x y : ByteArray} (h0 : x.size ≤ 1073741824) (h1 : y.size ≤ 1073741824) : Can.Fit [(⟨x, y⟩ : Lab)] := by
  intro z hz
  rw [List.mem_singleton] at hz
  subst hz
  exact ⟨h0, h1⟩
theorem fit_app {a b : List Lab} (ha : Can.Fit a) (hb : Can.Fit b) : Can.Fit (a ++ b) := by
  intro z hz
  rcases List.mem_append.1 hz with hz | hz
  · exact ha z hz
  · exact hb z hz
theorem lab_loop {s : List Int} (h : Code s) (L : List ByteArray) (h1 : L.length ≤ 16) (hs : ∀ x ∈ L, x.size ≤ 300) :
    ∀ m j (acc : List Lab) (a sd : Int), j + m = L.length → 1 ≤ acc.length → acc.length ≤ 1 + j → Can.Fit acc → 0 ≤ a → a + 7 * m ≤ 1000000 → 0 ≤ sd → sd < 2147483648 →
      ∃ r a' sd', Ev (fun k => spec_l3DrawLabels.l0 k acc L (L.length : Int) (j : Int) s a sd) (r, a', sd') ∧ 1 ≤ r.length ∧ r.length ≤ 1 + L.length ∧ Can.Fit r ∧ a ≤ a' ∧ a' ≤ a + 7 * m ∧ 0 ≤ sd' ∧ sd' < 2147483648 := by
  intro m
  induction m with
  | zero =>
    intro j acc a sd hj ha1 ha hf a0 a1 s0 s1
    obtain rfl : j = L.length := by omega
    exact ⟨acc, a, sd, Ev.step (f := fun _ => some (acc, a, sd)) (fun k => by simp only [spec_l3DrawLabels.l0]; rw [if_neg (by omega)]) (Ev.now _), ha1, ha, hf, by omega, by omega, s0, s1⟩
  | succ m ih =>
    intro j acc a sd hj ha1 ha hf a0 a1 s0 s1
    obtain ⟨v, a', sd', e, v0, v1, _, b0, b1, d0, d1⟩ := pick_ok h (a := a) (sd := sd) ⟨a0, by omega, s0, s1⟩ 3 (by omega) (by omega)
    have hn := rdOf_size hs (j : Int)
    by_cases hv : v = 0
    · obtain ⟨t, a2, sd2, ht, tz, c0, c1, f0, f1⟩ := val_ok h (a := a') (sd := sd') (by omega) (by omega) d0 d1
      obtain ⟨u, a3, sd3, e3, u0, u1, _, g0, g1, i0, i1⟩ := pick_ok h (a := a2) (sd := sd2) ⟨by omega, by omega, f0, f1⟩ 2 (by omega) (by omega)
      have hfx : Can.Fit [(⟨rdOf ByteArray.empty L (j : Int), t⟩ : Lab)] := fit_one (by omega) (by omega)
      by_cases hu : u = 0
      · obtain ⟨r, a4, sd4, hr, r1, r2, rf, k0, k1, l0, l1⟩ := ih (j + 1) (acc ++ [(⟨rdOf ByteArray.empty L (j : Int), t⟩ : Lab)]) a3 sd3 (by omega) (by simp) (by simp; omega) (fit_app hf hfx) (by omega) (by omega) i0 i1
        refine ⟨r, a4, sd4, ?_, r1, r2, rf, by omega, by omega, l0, l1⟩
        refine Ev.step (f := fun k => (spec_l3DrawValue.f k s a' sd').bind fun bt349 => (spec_l1Cur_pick.f s bt349.2.1 bt349.2.2 2).bind fun bt353 => if bt353.1 = 0 then spec_l3DrawLabels.l0 k (acc ++ [(⟨rdOf ByteArray.empty L (j : Int), bt349.1⟩ : Lab)]) L (L.length : Int) ((j + 1 : Nat) : Int) s bt353.2.1 bt353.2.2 else spec_l3DrawLabels.l0 k ([(⟨rdOf ByteArray.empty L (j : Int), bt349.1⟩ : Lab)] ++ acc) L (L.length : Int) ((j + 1 : Nat) : Int) s bt353.2.1 bt353.2.2) (fun k => ?_) (Ev.bind ht ?_)
        · simp only [spec_l3DrawLabels.l0]
          rw [if_pos (by omega), if_pos (by omega), if_pos (by omega), e, w_succ j (by omega)]
          simp only [Option.bind_some, hv, if_true, if_pos (show acc.length < 4398046511104 by omega), List.length_cons, List.length_nil, if_pos (show 0 + 1 + acc.length < 4398046511104 by omega)]
        · rw [e3]
          simp only [Option.bind_some, hu, if_true]
          exact hr
      · obtain ⟨r, a4, sd4, hr, r1, r2, rf, k0, k1, l0, l1⟩ := ih (j + 1) ([(⟨rdOf ByteArray.empty L (j : Int), t⟩ : Lab)] ++ acc) a3 sd3 (by omega) (by simp) (by simp; omega) (fit_app hfx hf) (by omega) (by omega) i0 i1
        refine ⟨r, a4, sd4, ?_, r1, r2, rf, by omega, by omega, l0, l1⟩
        refine Ev.step (f := fun k => (spec_l3DrawValue.f k s a' sd').bind fun bt349 => (spec_l1Cur_pick.f s bt349.2.1 bt349.2.2 2).bind fun bt353 => if bt353.1 = 0 then spec_l3DrawLabels.l0 k (acc ++ [(⟨rdOf ByteArray.empty L (j : Int), bt349.1⟩ : Lab)]) L (L.length : Int) ((j + 1 : Nat) : Int) s bt353.2.1 bt353.2.2 else spec_l3DrawLabels.l0 k ([(⟨rdOf ByteArray.empty L (j : Int), bt349.1⟩ : Lab)] ++ acc) L (L.length : Int) ((j + 1 : Nat) : Int) s bt353.2.1 bt353.2.2) (fun k => ?_) (Ev.bind ht ?_)
        · simp only [spec_l3DrawLabels.l0]
          rw [if_pos (by omega), if_pos (by omega), if_pos (by omega), e, w_succ j (by omega)]
          simp only [Option.bind_some, hv, if_true, if_pos (show acc.length < 4398046511104 by omega), List.length_cons, List.length_nil, if_pos (show 0 + 1 + acc.length < 4398046511104 by omega)]
        · rw [e3]
          simp only [Option.bind_some, if_neg hu]
          exact hr
    · obtain ⟨r, a4, sd4, hr, r1, r2, rf, k0, k1, l0, l1⟩ := ih (j + 1) acc a' sd' (by omega) ha1 (by omega) hf (by omega) (by omega) d0 d1
      refine ⟨r, a4, sd4, Ev.step (fun k => ?_) hr, r1, r2, rf, by omega, by omega, l0, l1⟩
      simp only [spec_l3DrawLabels.l0]
      rw [if_pos (by omega), if_pos (by omega), if_pos (by omega), e, w_succ j (by omega)]
      simp only [Option.bind_some, if_neg hv]
theorem labels_ok {s : List Int} (h : Code s) : ∃ r a' sd', Ev (fun k => spec_l3DrawLabels.f k s 0 0) (r, a', sd') ∧ 1 ≤ r.length ∧ r.length ≤ 7 ∧ Can.Fit r ∧ 0 ≤ a' ∧ a' ≤ 100 ∧ 0 ≤ sd' ∧ sd' < 2147483648 := by
  obtain ⟨v, a', sd', e, v0, v1, _, b0, b1, d0, d1⟩ := pick_ok h (a := 0) (sd := 0) ⟨by omega, by omega, by omega, by omega⟩ 4 (by omega) (by omega)
  have hz : (rdOf ByteArray.empty [(⟨#[117, 112]⟩ : ByteArray), (⟨#[99, 112, 117]⟩ : ByteArray), (⟨#[109, 101, 109]⟩ : ByteArray), (⟨#[117, 112]⟩ : ByteArray)] v).size ≤ 300 := rdOf_size (by decide) v
  obtain ⟨r, a2, sd2, hr, r1, r2, rf, k0, k1, l0, l1⟩ := lab_loop h [(⟨#[106, 111, 98]⟩ : ByteArray), (⟨#[104, 111, 115, 116]⟩ : ByteArray), (⟨#[95, 120]⟩ : ByteArray), (⟨#[90, 111, 110, 101]⟩ : ByteArray), (⟨#[97, 49]⟩ : ByteArray), (⟨#[108, 101]⟩ : ByteArray)] (by decide) (by decide) 6 0 [(⟨(⟨#[95, 95, 110, 97, 109, 101, 95, 95]⟩ : ByteArray), rdOf ByteArray.empty [(⟨#[117, 112]⟩ : ByteArray), (⟨#[99, 112, 117]⟩ : ByteArray), (⟨#[109, 101, 109]⟩ : ByteArray), (⟨#[117, 112]⟩ : ByteArray)] v⟩ : Lab)] a' sd' rfl (by simp) (by simp) (fit_one (by decide) (by omega)) (by omega) (by omega) d0 d1
  refine ⟨r, a2, sd2, ?_, r1, by simpa using r2, rf, by omega, by omega, l0, l1⟩
  unfold spec_l3DrawLabels.f
  rw [e]
  simp only [Option.bind_some, if_pos v0, if_pos (show v < (([(⟨#[117, 112]⟩ : ByteArray), (⟨#[99, 112, 117]⟩ : ByteArray), (⟨#[109, 101, 109]⟩ : ByteArray), (⟨#[117, 112]⟩ : ByteArray)] : List ByteArray).length : Int) by simp only [List.length_cons, List.length_nil]; omega)]
  exact hr
theorem times_loop (x : ByteArray) (hx : x.size ≤ 2) (n : Nat) (hn : n ≤ 200) : ∀ m j (xs : List Int), j + m = n → xs.length ≤ j * 2 →
    ∃ r, Ev (fun k => spec_l1Times.l0 k x (n : Int) xs (j : Int)) r ∧ r.size ≤ 400 := by
  intro m
  induction m with
  | zero =>
    intro j xs hj hl
    obtain rfl : j = n := by omega
    exact ⟨strOfNums xs, Ev.step (f := fun _ => some (strOfNums xs)) (fun k => by simp only [spec_l1Times.l0]; rw [if_neg (by omega)]) (Ev.now _), by rw [strOfNums_size]; omega⟩
  | succ m ih =>
    intro j xs hj hl
    have hb : (bytesOf x).length = x.size := by simp [bytesOf]
    obtain ⟨r, hr, hz⟩ := ih (j + 1) (xs ++ bytesOf x) (by omega) (by rw [List.length_append, hb]; omega)
    refine ⟨r, Ev.step (fun k => ?_) hr, hz⟩
    simp only [spec_l1Times.l0]
    rw [if_pos (by omega), if_pos (by omega), w_succ j (by omega)]
theorem times_ok (x : ByteArray) (hx : x.size ≤ 2) (n : Nat) (hn : n ≤ 200) : ∃ r, Ev (fun k => spec_l1Times.f k x (n : Int)) r ∧ r.size ≤ 400 := by
  unfold spec_l1Times.f
  exact times_loop x hx n hn n 0 [] (by omega) (by simp)
def bads (t u v : ByteArray) : List ByteArray := [(⟨#[128]⟩ : ByteArray), (⟨#[192, 128]⟩ : ByteArray), (⟨#[237, 160, 128]⟩ : ByteArray), (⟨#[244, 144, 128, 128]⟩ : ByteArray), (⟨#[226, 130]⟩ : ByteArray), (⟨#[31]⟩ : ByteArray), (⟨#[127]⟩ : ByteArray), (⟨#[194, 133]⟩ : ByteArray), (⟨#[240, 128, 128, 128]⟩ : ByteArray), (⟨#[255]⟩ : ByteArray), (⟨#[97, 195]⟩ : ByteArray), t, u, v, (⟨#[194, 160]⟩ : ByteArray), (⟨#[239, 191, 189]⟩ : ByteArray), (⟨#[244, 143, 191, 191]⟩ : ByteArray), (⟨#[238, 128, 128]⟩ : ByteArray)]
theorem bads_size {t u v : ByteArray} (ht : t.size ≤ 400) (hu : u.size ≤ 400) (hv : v.size ≤ 400) : ∀ x ∈ bads t u v, x.size ≤ 400 := by
  intro x hx
  simp only [bads, List.mem_cons, List.not_mem_nil, or_false] at hx
  rcases hx with rfl | rfl | rfl | rfl | rfl | rfl | rfl | rfl | rfl | rfl | rfl | rfl | rfl | rfl | rfl | rfl | rfl | rfl
  all_goals first | assumption | decide
theorem bad_ok {s : List Int} (h : Code s) {a sd : Int} (a0 : 0 ≤ a) (a1 : a ≤ 1000000) (s0 : 0 ≤ sd) (s1 : sd < 2147483648) :
    ∃ r a' sd', Ev (fun k => spec_l3BadValue.f k s a sd) (r, a', sd') ∧ r.size ≤ 400 ∧ a ≤ a' ∧ a' ≤ a + 1 ∧ 0 ≤ sd' ∧ sd' < 2147483648 := by
  obtain ⟨t, ht, tz⟩ := times_ok (⟨#[195, 169]⟩ : ByteArray) (by decide) 128 (by omega)
  obtain ⟨u, hu, uz⟩ := times_ok (⟨#[195, 169]⟩ : ByteArray) (by decide) 129 (by omega)
  obtain ⟨v, hv, vz⟩ := times_ok (⟨#[122]⟩ : ByteArray) (by decide) 129 (by omega)
  obtain ⟨i, a', sd', e, v0, v1, _, b0, b1, d0, d1⟩ := pick_ok h (a := a) (sd := sd) ⟨a0, by omega, s0, s1⟩ ((bads t u v).length : Int) (by omega) (by simp [bads])
  have hz := rdOf_size (bads_size tz uz vz) i
  have hlen : ((bads t u v).length : Int) = 18 := rfl
  refine ⟨_, a', sd', ?_, hz, b0, b1, d0, d1⟩
  unfold spec_l3BadValue.f
  refine Ev.bind ht (Ev.bind hu (Ev.bind hv ?_))
  show Ev (fun _ => (some (bads t u v)).bind fun y374 => ((spec_l1Cur_pick.f s a sd (y374.length : Int)).bind fun bt377 => (if 0 ≤ bt377.1 then (if bt377.1 < (y374.length : Int) then (some (rdOf ByteArray.empty y374 bt377.1, bt377.2.1, bt377.2.2)) else (none)) else (none)))) _
  simp only [Option.bind_some, e]
  rw [if_pos v0, if_pos (by omega)]
  exact Ev.now _
theorem rd_fit {l : List Lab} (h : Can.Fit l) (i : Int) : (rd_T38 l i).f0.size ≤ 1073741824 ∧ (rd_T38 l i).f1.size ≤ 1073741824 := by
  unfold rd_T38
  rw [List.getD_eq_getElem?_getD]
  by_cases hi : i.toNat < l.length
  · rw [List.getElem?_eq_getElem hi]; exact h _ (List.getElem_mem hi)
  · rw [List.getElem?_eq_none (by omega)]; exact ⟨by decide, by decide⟩
theorem fit_set {l : List Lab} (h : Can.Fit l) (i : Nat) {x y : ByteArray} (h0 : x.size ≤ 1073741824) (h1 : y.size ≤ 1073741824) : Can.Fit (l.set i (⟨x, y⟩ : Lab)) := by
  intro z hz
  rcases List.mem_or_eq_of_mem_set hz with hz | hz
  · exact h z hz
  · subst hz; exact ⟨h0, h1⟩
theorem fill_ok (n : Nat) (hn : n ≤ 100) (s : List Int) (a sd : Int) : ∀ m (l : List Lab), l.length + m = max l.length n → Can.Fit l → l.length ≤ 100 →
    ∃ r, Ev (fun k => spec_l3SpoilLabels.l0 k l (n : Int) s a sd) (r, a, sd) ∧ Can.Fit r ∧ r.length ≤ max l.length n ∧ l.length ≤ r.length := by
  intro m
  induction m with
  | zero =>
    intro l hl hf hb
    exact ⟨l, Ev.step (f := fun _ => some (l, a, sd)) (fun k => by simp only [spec_l3SpoilLabels.l0]; rw [if_neg (by omega)]) (Ev.now _), hf, by omega, Nat.le_refl _⟩
  | succ m ih =>
    intro l hl hf hb
    have hz : (strOfNums [(wrap64 (97 + (l.length : Int))) % 256]).size = 1 := by rw [strOfNums_size]; rfl
    obtain ⟨r, hr, hfr, hlr, hle⟩ := ih (l ++ [(⟨(⟨#[110]⟩ : ByteArray) ++ (strOfNums [(wrap64 (97 + (l.length : Int))) % 256]), (⟨#[118]⟩ : ByteArray)⟩ : Lab)]) (by simp; omega) (fit_app hf (fit_one (by rw [ByteArray.size_append, hz]; decide) (by decide))) (by simp; omega)
    refine ⟨r, Ev.step (fun k => ?_) hr, hfr, by simp at hlr; omega, by simp at hle; omega⟩
    simp only [spec_l3SpoilLabels.l0]
    rw [if_pos (by omega)]
    simp only [Option.bind_some]
    rw [if_pos (by rw [hz]; omega), if_pos (by omega)]
theorem spoil_fill {s : List Int} (h : Code s) (l : List Lab) (hl : l.length ≤ 7) (hf : Can.Fit l) {a sd : Int} (a0 : 0 ≤ a) (a1 : a ≤ 1000) (s0 : 0 ≤ sd) (s1 : sd < 2147483648) :
    ∃ r a' sd', Ev (fun k => (spec_l1Cur_pick.f s a sd 2).bind fun bt423 => (spec_l3SpoilLabels.l0 k l (wrap64 (16 + bt423.1)) s bt423.2.1 bt423.2.2)) (r, a', sd') ∧ Can.Fit r ∧ r.length ≤ 17 := by
  obtain ⟨v, a', sd', e, v0, v1, _, b0, b1, d0, d1⟩ := pick_ok h (a := a) (sd := sd) ⟨a0, by omega, s0, s1⟩ 2 (by omega) (by omega)
  obtain ⟨n, rfl⟩ := Int.eq_ofNat_of_zero_le v0
  clear h a0 a1 s0 s1 b0 b1 d0 d1
  have hn : n ≤ 1 := by omega
  have e2 : wrap64 (16 + (n : Int)) = ((16 + n : Nat) : Int) := (w_id _ (by omega) (by omega)).trans (by omega)
  have hm : max l.length (16 + n) = 16 + n := Nat.max_eq_right (by omega)
  obtain ⟨r, hrr, hfr, hlr, _⟩ := fill_ok (16 + n) (by omega) s a' sd' (16 + n - l.length) l (by rw [hm]; omega) hf (by omega)
  rw [hm] at hlr
  refine ⟨r, a', sd', ?_, hfr, by omega⟩
  rw [e]
  simp only [Option.bind_some]
  rw [e2]
  exact hrr
theorem spoil_ways (l : List Lab) (hl : l.length ≤ 7) (i : Nat) (hi : i < l.length) (x : Int) (s : List Int) (a sd : Int) (k : Nat) :
    spec_l3SpoilLabels.j0 (k + 1) l (i : Int) x false s a sd = if x = 3 then some (l ++ [(⟨(rd_T38 l (i : Int)).f0, (⟨#[119]⟩ : ByteArray)⟩ : Lab)], a, sd) else if x = 4 then some (l.set i (⟨(rd_T38 l (i : Int)).f0, (⟨#[]⟩ : ByteArray)⟩ : Lab), a, sd) else if x = 5 then some (l.eraseIdx i, a, sd) else if x = 6 then ((spec_l1Cur_pick.f s a sd 2).bind fun bt423 => (spec_l3SpoilLabels.l0 k l (wrap64 (16 + bt423.1)) s bt423.2.1 bt423.2.2)) else some (l, a, sd) := by
  have e1 : wrap64 ((i : Int) + 1) = ((i + 1 : Nat) : Int) := w_succ i (by omega)
  simp only [spec_l3SpoilLabels.j0, Bool.false_eq_true, if_false]
  rw [e1]
  simp only [if_pos (show (0 : Int) ≤ (i : Int) by omega), if_pos (show (i : Int) < (l.length : Int) by omega), if_pos (show (i : Int) ≤ (l.length : Int) by omega), if_pos (show (0 : Int) ≤ ((i + 1 : Nat) : Int) by omega), if_pos (show ((i + 1 : Nat) : Int) ≤ (l.length : Int) by omega), if_pos (show l.length < 4398046511104 by omega), Int.toNat_natCast]
theorem spoil_at {s : List Int} (h : Code s) (l : List Lab) (hl : l.length ≤ 7) (hf : Can.Fit l) (i : Nat) (hi : i < l.length) (x : Int) (c : Bool) {a sd : Int} (a0 : 0 ≤ a) (a1 : a ≤ 1000) (s0 : 0 ≤ sd) (s1 : sd < 2147483648) :
    ∃ r a' sd', Ev (fun k => spec_l3SpoilLabels.j0 k l (i : Int) x c s a sd) (r, a', sd') ∧ Can.Fit r ∧ r.length ≤ 17 := by
  have hr := rd_fit hf (i : Int)
  cases c with
  | true =>
    obtain ⟨t, a', sd', ht, tz, _⟩ := bad_ok h (a := a) (sd := sd) a0 (by omega) s0 s1
    refine ⟨l.set i (⟨(rd_T38 l (i : Int)).f0, t⟩ : Lab), a', sd', ?_, fit_set hf i hr.1 (by omega), by rw [List.length_set]; omega⟩
    refine Ev.step (f := fun k => (spec_l3BadValue.f k s a sd).bind fun bt403 => some (l.set i (⟨(rd_T38 l (i : Int)).f0, bt403.1⟩ : Lab), bt403.2.1, bt403.2.2)) (fun k => ?_) (Ev.bind ht (Ev.now _))
    simp only [spec_l3SpoilLabels.j0, if_true, if_pos (show (0 : Int) ≤ (i : Int) by omega), if_pos (show (i : Int) < (l.length : Int) by omega), Int.toNat_natCast]
  | false =>
    have ex := spoil_ways l hl i hi x s a sd
    by_cases h3 : x = 3
    · exact ⟨_, _, _, Ev.step ex (Ev.ite_pos h3 (Ev.now _)), fit_app hf (fit_one hr.1 (by decide)), by rw [List.length_append]; simp only [List.length_cons, List.length_nil]; omega⟩
    by_cases h4 : x = 4
    · exact ⟨_, _, _, Ev.step ex (Ev.ite_neg h3 (Ev.ite_pos h4 (Ev.now _))), fit_set hf i hr.1 (by decide), by rw [List.length_set]; omega⟩
    by_cases h5 : x = 5
    · exact ⟨_, _, _, Ev.step ex (Ev.ite_neg h3 (Ev.ite_neg h4 (Ev.ite_pos h5 (Ev.now _)))), fun z hz => hf z (List.mem_of_mem_eraseIdx hz), Nat.le_trans (List.length_eraseIdx_le l i) (by omega)⟩
    by_cases h6 : x = 6
    · obtain ⟨r, a', sd', hh, hf', hl'⟩ := spoil_fill h l hl hf (a := a) (sd := sd) a0 a1 s0 s1
      exact ⟨r, a', sd', Ev.step ex (Ev.ite_neg h3 (Ev.ite_neg h4 (Ev.ite_neg h5 (Ev.ite_pos h6 hh)))), hf', hl'⟩
    · exact ⟨_, _, _, Ev.step ex (Ev.ite_neg h3 (Ev.ite_neg h4 (Ev.ite_neg h5 (Ev.ite_neg h6 (Ev.now _))))), hf, by omega⟩
end Go.Proofs.YtdfgfhnbcifheaaDoor.Draw
