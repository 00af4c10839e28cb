/- ParseConfig in plain words: both ways to split a line at blanks, and both ways to read a number, are one. -/
import Derived.Test.YtogoblkehdmapaaDoorXSplit
import Derived.Test.YtogoblkehdmapaaDoorXNumber
import Derived.Test.YtogoblkehdmapaaDoorXDec7
import Derived.Test.YtogoblkehdmapaaDoorF34
import Derived.Test.YtogoblkehdmapaaDoorF35
import Derived.Test.YtogoblkehdmapaaDoorF38
import Derived.Test.YtogoblkehdmapaaDoorLoops
namespace Go.Proofs.YtogoblkehdmapaaDoor.Pc
open Go.Proofs.YtogoblkehdmapaaDoor.M Go.Proofs.YtogoblkehdmapaaDoor.Loops Go.Proofs.YtogoblkehdmapaaDoorW.PrintWords Go.Proofs.YtogoblkehdmapaaDoorW.PrintLast Go.RowKit Go.Lib
/-! ### a list is cut at a byte -/
def sp (c : UInt8) : List UInt8 → List (List UInt8)
  | [] => [[]]
  | b :: l => if b = c then [] :: sp c l else match sp c l with
    | [] => [[b]]
    | h :: t => (b :: h) :: t
def ch (p : List UInt8) : List (List UInt8) → List (List UInt8)
  | [] => [p]
  | h :: t => (p ++ h) :: t
theorem sp_ne (c : UInt8) (l : List UInt8) : sp c l ≠ [] := by
  cases l with
  | nil => simp [sp]
  | cons b l => unfold sp; split; · simp
                · split <;> simp
theorem ch_nil (q : List (List UInt8)) (h : q ≠ []) : ch [] q = q := by
  cases q with
  | nil => exact absurd rfl h
  | cons a t => rfl
theorem sp_other (c b : UInt8) (l : List UInt8) (h : b ≠ c) : sp c (b :: l) = ch [b] (sp c l) := by
  conv => lhs; unfold sp
  rw [if_neg h]
  cases hs : sp c l with
  | nil => exact absurd hs (sp_ne c l)
  | cons a t => rfl
theorem sp_same (c : UInt8) (l : List UInt8) : sp c (c :: l) = [] :: sp c l := by
  conv => lhs; unfold sp
  rw [if_pos rfl]
theorem ch_ch (p q : List UInt8) (r : List (List UInt8)) : ch p (ch q r) = ch (p ++ q) r := by
  cases r <;> simp [ch]
theorem sp_pre (c : UInt8) : ∀ (p l : List UInt8), c ∉ p → sp c (p ++ l) = ch p (sp c l)
  | [], l, _ => (ch_nil _ (sp_ne c l)).symm
  | b :: p, l, h => by
    rw [List.cons_append, sp_other c b _ (fun e => h (by simp [e])), sp_pre c p l (fun hh => h (by simp [hh])), ch_ch]
    rfl
theorem sp_hit (c : UInt8) (p l : List UInt8) (h : c ∉ p) : sp c (p ++ c :: l) = p :: sp c l := by
  rw [sp_pre c p _ h, sp_same]
  simp [ch]
theorem sp_none (c : UInt8) (p : List UInt8) (h : c ∉ p) : sp c p = [p] := by
  have := sp_pre c p [] h
  rw [List.append_nil] at this
  rw [this]
  simp [sp, ch]
theorem occ_one (c : UInt8) (s : List UInt8) (i : Nat) : occAt s [c] i = true ↔ s[i]? = some c := by
  constructor
  · exact fun h => occAt_head rfl h
  · intro h
    have hl : i < s.length := by
      rcases Nat.lt_or_ge i s.length with hh | hh
      · exact hh
      · rw [List.getElem?_eq_none hh] at h; cases h
    rw [List.getElem?_eq_getElem hl] at h
    unfold occAt
    rw [List.drop_eq_getElem_cons hl, Option.some.inj h]
    simp [List.isPrefixOf]
theorem cut_at (c : UInt8) (s : List UInt8) (i : Nat) (h : s[i]? = some c) : s = s.take i ++ c :: s.drop (i + 1) := by
  have hl : i < s.length := by
    rcases Nat.lt_or_ge i s.length with hh | hh
    · exact hh
    · rw [List.getElem?_eq_none hh] at h; cases h
  rw [List.getElem?_eq_getElem hl] at h
  conv => lhs; rw [← List.take_append_drop i s]
  rw [List.drop_eq_getElem_cons hl, Option.some.inj h]
theorem split_sp (c : UInt8) : ∀ (n : Nat) (s : List UInt8), s.length ≤ n → splitK [c] 0 (count s [c]) s = sp c s := by
  intro n
  induction n with
  | zero =>
    intro s h
    obtain rfl : s = [] := List.length_eq_zero_iff.1 (by omega)
    rfl
  | succ n ih =>
    intro s h
    rcases index_spec s [c] with ⟨he, hn⟩ | ⟨i, he, hi, ho, hno⟩
    · rw [count_miss he, sp_none]
      · rfl
      · intro hm
        obtain ⟨j, hj, hje⟩ := List.getElem_of_mem hm
        have := hn j (by omega)
        rw [(occ_one c s j).2 (by rw [List.getElem?_eq_getElem hj, hje])] at this
        cases this
    · have hs := cut_at c s i ((occ_one c s i).1 ho)
      have hni : c ∉ s.take i := by
        intro hm
        obtain ⟨j, hj, hje⟩ := List.getElem_of_mem hm
        rw [List.length_take] at hj
        have := hno j (by omega)
        rw [(occ_one c s j).2 (by rw [List.getElem?_eq_getElem (by omega)]; rw [List.getElem_take] at hje; rw [hje])] at this
        cases this
      rw [count_hit (by simp) he, Nat.add_comm 1]
      unfold splitK
      rw [if_neg (by rw [he]; simp), he]
      have e : ((i : Nat) : Int).toNat = i := rfl
      rw [e, Nat.add_zero]
      have hlt : i < s.length := by
        have := (occ_one c s i).1 ho
        rcases Nat.lt_or_ge i s.length with hh | hh
        · exact hh
        · rw [List.getElem?_eq_none hh] at this; cases this
      have := ih (s.drop (i + [c].length)) (by rw [List.length_drop]; simp only [List.length_singleton]; omega)
      rw [this]
      conv => rhs; rw [hs]
      rw [sp_hit c _ _ hni]
      rfl
theorem data_inj {a b : ByteArray} (h : a.data.toList = b.data.toList) : a = b := by
  cases a with | mk x => cases b with | mk y => cases x; cases y; simp_all
theorem map_data_inj : ∀ {a b : List ByteArray}, a.map (·.data.toList) = b.map (·.data.toList) → a = b
  | [], [], _ => rfl
  | [], _ :: _, h => by cases h
  | _ :: _, [], h => by cases h
  | x :: a, y :: b, h => by
    rw [List.map_cons, List.map_cons] at h
    injection h with h1 h2
    rw [data_inj h1, map_data_inj h2]
/-- The pieces of a line. -/
def pieces (s : ByteArray) : List ByteArray := splitB ⟨#[32]⟩ 0 (countB s ⟨#[32]⟩) s
theorem pieces_data (s : ByteArray) : (pieces s).map (·.data.toList) = sp 32 s.data.toList := by
  unfold pieces
  rw [splitB_data]
  exact split_sp 32 _ _ (Nat.le_refl _)
theorem impl_split (s : ByteArray) (h : s.size < 4294967281) : strings_Split.f s ⟨#[32]⟩ = some (pieces s) := by
  unfold strings_Split.f
  rw [if_pos (by decide), if_pos h]
  rfl
theorem bt_get (s : ByteArray) (i : Nat) (h : i < s.size) : bt s (i : Int) = ((s.data.toList[i]'(by rw [← size_eq]; exact h)).toNat : Int) := by
  unfold bt
  rw [dif_pos (by simpa using h)]
  rfl
theorem seg_data (s : ByteArray) (a b : Nat) : (s.extract a b).data.toList = (s.data.toList.drop a).take (b - a) := extract_data s a b
theorem loop_split (s : ByteArray) (hs : s.size < 4294967281) : ∀ (d i from_ : Nat) (parts : List ByteArray), i + d = s.size → from_ ≤ i → parts.length ≤ from_ →
    (32 ∉ (s.extract from_ i).data.toList) → ∀ q : List ByteArray, q.map (·.data.toList) = ch (s.extract from_ i).data.toList (sp 32 (s.data.toList.drop i)) →
    Ev (fun k => spec_l7Split.l0 k s 32 parts from_ i) (parts ++ q) := by
  intro d
  induction d with
  | zero =>
    intro i from_ parts hi hf hp hn q hq
    refine Ev.step (f := fun _ => some (parts ++ q)) (fun k => ?_) (Ev.now _)
    simp only [spec_l7Split.l0]
    rw [if_neg (by omega), if_pos (by omega), if_pos (by omega), if_pos (by omega)]
    have e : s.data.toList.drop i = [] := List.drop_eq_nil_of_le (by rw [← size_eq]; omega)
    rw [e] at hq
    have : q = [s.extract from_ s.size] := by
      refine map_data_inj ?_
      rw [hq]
      obtain rfl : i = s.size := by omega
      simp [sp, ch]
    rw [this]
    rfl
  | succ d ih =>
    intro i from_ parts hi hf hp hn q hq
    have hil : i < s.size := by omega
    have hil' : i < s.data.toList.length := by rw [← size_eq]; exact hil
    have hd : s.data.toList.drop i = s.data.toList[i] :: s.data.toList.drop (i + 1) := List.drop_eq_getElem_cons hil'
    have hb := bt_get s i hil
    have hseg : (s.extract from_ (i + 1)).data.toList = (s.extract from_ i).data.toList ++ [s.data.toList[i]] := by
      rw [seg_data, seg_data, show i + 1 - from_ = (i - from_) + 1 by omega, List.take_add_one]
      congr 1
      rw [List.getElem?_drop, show from_ + (i - from_) = i by omega, List.getElem?_eq_getElem hil']
      rfl
    by_cases hc : s.data.toList[i] = 32
    · have hb2 : bt s (i : Int) = 32 := by rw [hb, hc]; rfl
      rw [hd, hc, sp_same] at hq
      simp only [ch, List.append_nil] at hq
      cases q with
      | nil => cases hq
      | cons q0 q1 =>
        rw [List.map_cons] at hq
        injection hq with h1 h2
        have h0 : q0 = s.extract from_ i := data_inj h1
        refine Ev.step (f := fun k => spec_l7Split.l0 k s 32 (parts ++ [s.extract from_ i]) ((i + 1 : Nat) : Int) ((i + 1 : Nat) : Int)) (fun k => by
          simp only [spec_l7Split.l0]
          rw [if_pos (by omega), if_pos (by omega), if_pos hb2, if_pos (by omega), if_pos (by omega), if_pos (by omega), if_pos (by omega), w_succ i (by omega)]
          rfl) ?_
        refine Ev.eq (ih (i + 1) (i + 1) (parts ++ [s.extract from_ i]) (by omega) (Nat.le_refl _) (by simp; omega) ?_ q1 ?_) ?_
        · rw [seg_data]; simp
        · rw [seg_data, Nat.sub_self, List.take_zero, ch_nil _ (sp_ne _ _)]; exact h2
        · rw [h0]; simp
    · have hb2 : ¬ bt s (i : Int) = 32 := by
        rw [hb]
        intro h
        exact hc (UInt8.toNat_inj.1 (by exact_mod_cast h))
      refine Ev.step (f := fun k => spec_l7Split.l0 k s 32 parts from_ ((i + 1 : Nat) : Int)) (fun k => by
        simp only [spec_l7Split.l0]
        rw [if_pos (by omega), if_pos (by omega), if_neg hb2, w_succ i (by omega)]) ?_
      refine ih (i + 1) from_ parts (by omega) (by omega) hp ?_ q ?_
      · rw [hseg]
        intro hm
        rcases List.mem_append.1 hm with hm | hm
        · exact hn hm
        · exact hc (List.mem_singleton.1 hm).symm
      · rw [hq, hd, sp_other _ _ _ hc, ch_ch, hseg]
theorem spec_split (s : ByteArray) (hs : s.size < 4294967281) : Ev (fun k => spec_l7Split.f k s 32) (pieces s) := by
  have h := loop_split s hs s.size 0 0 [] (by omega) (Nat.le_refl _) (Nat.le_refl _) (by rw [seg_data]; simp) (pieces s) (by
    rw [pieces_data, seg_data, Nat.sub_self, List.take_zero, List.drop_zero, ch_nil _ (sp_ne _ _)])
  exact h
/-! ### a number -/
def dig (b : UInt8) : Prop := 48 ≤ b.toNat ∧ b.toNat ≤ 57
theorem digs_iff (b : UInt8) : Num.digs.contains b = true ↔ dig b := by
  unfold Num.digs dig
  simp only [List.contains_cons, List.contains_nil, Bool.or_false, Bool.or_eq_true, beq_iff_eq]
  constructor
  · rintro (h | h | h | h | h | h | h | h | h | h) <;> (subst h; decide)
  · rintro ⟨h1, h2⟩
    have : ∀ c : UInt8, b.toNat = c.toNat → b = c := fun c h => UInt8.toNat_inj.1 h
    rcases (by omega : b.toNat = 48 ∨ b.toNat = 49 ∨ b.toNat = 50 ∨ b.toNat = 51 ∨ b.toNat = 52 ∨ b.toNat = 53 ∨ b.toNat = 54 ∨ b.toNat = 55 ∨ b.toNat = 56 ∨ b.toNat = 57) with h | h | h | h | h | h | h | h | h | h
    · exact .inl (this 48 h)
    · exact .inr (.inl (this 49 h))
    · exact .inr (.inr (.inl (this 50 h)))
    · exact .inr (.inr (.inr (.inl (this 51 h))))
    · exact .inr (.inr (.inr (.inr (.inl (this 52 h)))))
    · exact .inr (.inr (.inr (.inr (.inr (.inl (this 53 h))))))
    · exact .inr (.inr (.inr (.inr (.inr (.inr (.inl (this 54 h)))))))
    · exact .inr (.inr (.inr (.inr (.inr (.inr (.inr (.inl (this 55 h))))))))
    · exact .inr (.inr (.inr (.inr (.inr (.inr (.inr (.inr (.inl (this 56 h)))))))))
    · exact .inr (.inr (.inr (.inr (.inr (.inr (.inr (.inr (.inr (this 57 h)))))))))
theorem drop_nil (p : UInt8 → Bool) : ∀ l : List UInt8, l.dropWhile p = [] ↔ ∀ b ∈ l, p b = true
  | [] => by simp
  | a :: l => by
    cases h : p a with
    | true => rw [List.dropWhile_cons_of_pos h, drop_nil p l]; simp [h]
    | false => rw [List.dropWhile_cons_of_neg (by simp [h])]; simp [h]
theorem drop_head (p : UInt8 → Bool) : ∀ (l : List UInt8) (a : UInt8) (t : List UInt8), l.dropWhile p = a :: t → p a = false
  | [], _, _, h => by cases h
  | b :: l, a, t, h => by
    cases hb : p b with
    | true => rw [List.dropWhile_cons_of_pos hb] at h; exact drop_head p l a t h
    | false => rw [List.dropWhile_cons_of_neg (by simp [hb])] at h; injection h with h1 h2; rw [← h1]; exact hb
theorem left_nil (s : ByteArray) : Num.left s = [] ↔ ∀ b ∈ s.data.toList, dig b := by
  have key : Num.left s = [] ↔ ∀ b ∈ s.data.toList, Num.digs.contains b = true := by
    unfold Num.left trimS trimLeftS trimRightS
    rw [drop_nil]
    constructor
    · intro h
      have : s.data.toList.reverse.dropWhile (Num.digs.contains ·) = [] := by
        cases hd : s.data.toList.reverse.dropWhile (Num.digs.contains ·) with
        | nil => rfl
        | cons a t =>
          have h1 := drop_head _ _ _ _ hd
          have h2 := h a (by rw [hd]; simp)
          rw [h1] at h2; cases h2
      intro b hb
      exact (drop_nil _ _).1 this b (by simpa using hb)
    · intro h
      rw [(drop_nil _ _).2 (fun b hb => h b (by simpa using hb))]
      simp
  rw [key]
  exact ⟨fun h b hb => (digs_iff b).1 (h b hb), fun h b hb => (digs_iff b).2 (h b hb)⟩
/-- A row of digits' value. -/
def val (acc : Nat) : List UInt8 → Nat
  | [] => acc
  | b :: l => val (acc * 10 + (b.toNat - 48)) l
theorem val_snoc (b : UInt8) : ∀ (l : List UInt8) (acc : Nat), val acc (l ++ [b]) = val acc l * 10 + (b.toNat - 48)
  | [], _ => rfl
  | c :: l, acc => by rw [List.cons_append]; exact val_snoc b l _
theorem dec_from : ∀ (l : List UInt8) (acc : Nat), (∀ b ∈ l, dig b) → decFrom acc l = some (val acc l)
  | [], _, _ => rfl
  | b :: l, acc, h => by
    have hb := h b (by simp)
    unfold decFrom digitVal
    rw [if_pos (show 48 ≤ b.toNat ∧ b.toNat ≤ 57 from hb)]
    exact dec_from l _ (fun c hc => h c (by simp [hc]))
theorem val_bound : ∀ (l : List UInt8) (acc : Nat), (∀ b ∈ l, dig b) → val acc l < (acc + 1) * 10 ^ l.length
  | [], acc, _ => by
    show acc < (acc + 1) * 1
    omega
  | b :: l, acc, h => by
    have hb := h b (by simp)
    have := val_bound l (acc * 10 + (b.toNat - 48)) (fun c hc => h c (by simp [hc]))
    have h2 : acc * 10 + (b.toNat - 48) + 1 ≤ (acc + 1) * 10 := by unfold dig at hb; omega
    calc val acc (b :: l) < (acc * 10 + (b.toNat - 48) + 1) * 10 ^ l.length := this
      _ ≤ (acc + 1) * 10 * 10 ^ l.length := Nat.mul_le_mul_right _ h2
      _ = (acc + 1) * 10 ^ (b :: l).length := by rw [List.length_cons, Nat.pow_succ, Nat.mul_assoc, Nat.mul_comm 10]
theorem val_ge : ∀ (l : List UInt8) (acc : Nat), acc ≤ val acc l
  | [], _ => Nat.le_refl _
  | b :: l, acc => Nat.le_trans (by omega) (val_ge l (acc * 10 + (b.toNat - 48)))
theorem atoi_dig (l : List UInt8) (hne : l ≠ []) (h : ∀ b ∈ l, dig b) : atoi l = some (val 0 l : Int) := by
  cases l with
  | nil => exact absurd rfl hne
  | cons b r =>
    have hb := h b (by simp)
    have e1 : (b == 45) = false := beq_eq_false_iff_ne.2 (fun e => by subst e; exact absurd hb (by unfold dig; decide))
    have e2 : (b == 43) = false := beq_eq_false_iff_ne.2 (fun e => by subst e; exact absurd hb (by unfold dig; decide))
    show (if (b == 45) = true then _ else if (b == 43) = true then _ else _) = _
    rw [e1, e2]
    simp only [Bool.false_eq_true, if_false]
    unfold decNat
    rw [if_neg (by simp), dec_from _ _ h]
    rfl
/-- One digit's letter. -/
theorem D_data (d : Nat) (h : d < 10) : (Dec7.D.extract d (d + 1)).data.toList = [UInt8.ofNat (48 + d)] := by
  rw [seg_data]
  rcases (by omega : d = 0 ∨ d = 1 ∨ d = 2 ∨ d = 3 ∨ d = 4 ∨ d = 5 ∨ d = 6 ∨ d = 7 ∨ d = 8 ∨ d = 9) with h | h | h | h | h | h | h | h | h | h <;> (subst h; rfl)
theorem letter (b : UInt8) (h : dig b) : UInt8.ofNat (48 + (b.toNat - 48)) = b := by
  unfold dig at h
  rw [show 48 + (b.toNat - 48) = b.toNat by omega]
  exact UInt8.ofNat_toNat
theorem dec_data (n : Nat) : (Dec7.dec n).data.toList = if n < 10 then [UInt8.ofNat (48 + n)] else (Dec7.dec (n / 10)).data.toList ++ [UInt8.ofNat (48 + n % 10)] := by
  by_cases h : n < 10
  · rw [if_pos h, Dec7.dec_small h, D_data n h]
  · rw [if_neg h, Dec7.dec_big h]
    have : ∀ a b : ByteArray, (a ++ b).data.toList = a.data.toList ++ b.data.toList := fun a b => by rw [ByteArray.data_append]; simp
    rw [this, D_data _ (by omega)]
/-- A row of digits without a leading nought is its value's text. -/
theorem dec_val : ∀ (m : Nat) (l : List UInt8), l.length = m + 1 → (∀ b ∈ l, dig b) → (l.head? ≠ some 48 ∨ m = 0) → (Dec7.dec (val 0 l)).data.toList = l
  | 0, l, hl, hd, _ => by
    match l, hl with
    | [b], _ =>
      have hb := hd b (by simp)
      have e : val 0 [b] = b.toNat - 48 := by
        show 0 * 10 + (b.toNat - 48) = _
        omega
      rw [e, dec_data, if_pos (by unfold dig at hb; omega), letter b hb]
  | m + 1, l, hl, hd, hz => by
    have hne : l ≠ [] := by intro e; rw [e] at hl; simp at hl
    have hlast := List.dropLast_concat_getLast hne
    generalize l.getLast hne = b at hlast
    generalize hp : l.dropLast = p at hlast
    subst hlast
    have hpl : p.length = m + 1 := by simpa using hl
    have hb := hd b (by simp)
    have hpd : ∀ c ∈ p, dig c := fun c hc => hd c (by simp [hc])
    have hz' : p.head? ≠ some 48 := by
      cases p with
      | nil => simp
      | cons a r => simpa using hz
    have ih := dec_val m p hpl hpd (.inl hz')
    have hpos : 1 ≤ val 0 p := by
      cases p with
      | nil => simp at hpl
      | cons a r =>
        have ha := hpd a (by simp)
        have : a.toNat ≠ 48 := fun e => hz' (by rw [List.head?_cons]; congr 1; exact UInt8.toNat_inj.1 e)
        refine Nat.le_trans ?_ (val_ge r (0 * 10 + (a.toNat - 48)))
        unfold dig at ha; omega
    unfold dig at hb
    rw [val_snoc, dec_data, if_neg (by omega)]
    rw [show (val 0 p * 10 + (b.toNat - 48)) / 10 = val 0 p by omega, show (val 0 p * 10 + (b.toNat - 48)) % 10 = b.toNat - 48 by omega, ih, letter b hb]
/-- A text of more letters does not begin with a nought. -/
theorem dec_head : ∀ (m n : Nat), n ≤ m → 10 ≤ n → (Dec7.dec n).data.toList.head? ≠ some 48 ∧ (Dec7.dec n).data.toList ≠ [] := by
  intro m
  induction m with
  | zero => intro n h1 h2; omega
  | succ m ih =>
    intro n h1 h2
    rw [dec_data, if_neg (by omega)]
    refine ⟨?_, by simp⟩
    by_cases h : n / 10 < 10
    · rw [dec_data, if_pos h]
      simp only [List.cons_append, List.head?_cons]
      intro e
      have := congrArg UInt8.toNat (Option.some.inj e)
      rw [UInt8.toNat_ofNat'] at this
      have h48 : (48 : UInt8).toNat = 48 := rfl
      rw [h48, Nat.mod_eq_of_lt (by omega)] at this
      omega
    · obtain ⟨h3, h4⟩ := ih (n / 10) (by omega) (by omega)
      cases hd : (Dec7.dec (n / 10)).data.toList with
      | nil => exact absurd hd h4
      | cons a t => rw [hd] at h3; simpa using h3
theorem dec_iff (l : List UInt8) (hne : l ≠ []) (hd : ∀ b ∈ l, dig b) : (Dec7.dec (val 0 l)).data.toList = l ↔ (l.head? ≠ some 48 ∨ l.length = 1) := by
  have hlen : 0 < l.length := List.length_pos_iff.2 hne
  constructor
  · intro h
    by_cases h1 : l.length = 1
    · exact .inr h1
    · refine .inl fun h48 => ?_
      by_cases h10 : val 0 l < 10
      · rw [dec_data, if_pos h10] at h
        rw [← h] at h1
        exact h1 rfl
      · exact (dec_head (val 0 l) (val 0 l) (Nat.le_refl _) (by omega)).1 (by rw [h]; exact h48)
  · intro h
    refine dec_val (l.length - 1) l (by omega) hd (h.imp id (fun h => by omega))
/-- What both ways to read a number answer. -/
def good (s : ByteArray) : Bool := decide (1 ≤ s.size ∧ s.size ≤ 13 ∧ (∀ b ∈ s.data.toList, 48 ≤ b.toNat ∧ b.toNat ≤ 57) ∧ (s.data.toList.head? ≠ some 48 ∨ s.size = 1))
theorem impl_number_eq (s : ByteArray) : ∃ n, impl_number.f s = some (n, good s) ∧ (good s = true → n = (val 0 s.data.toList : Int)) := by
  have hz := size_eq s
  unfold impl_number.f
  by_cases h0 : s.toList = ([] : List UInt8)
  · rw [if_pos h0]
    rw [ByteArray.toList_eq] at h0
    have hg : good s = false := decide_eq_false (fun h => by rw [hz, h0] at h; simp at h)
    rw [hg]
    exact ⟨0, rfl, fun h => by cases h⟩
  · rw [if_neg h0]
    have h0' : s.data.toList ≠ [] := by rwa [ByteArray.toList_eq] at h0
    have hp : 1 ≤ s.size := by rw [hz]; exact List.length_pos_iff.2 h0'
    by_cases h1 : (s.size : Int) > 13
    · rw [if_pos h1]
      have hg : good s = false := decide_eq_false (fun h => by omega)
      rw [hg]
      exact ⟨0, rfl, fun h => by cases h⟩
    · rw [if_neg h1]
      by_cases h2 : Num.left s = []
      · rw [if_pos h2]
        have hd := (left_nil s).1 h2
        have ha := atoi_dig _ h0' hd
        by_cases h3 : s.data.toList.head? = some 48
        · rw [if_pos h3]
          by_cases h4 : (s.size : Int) > 1
          · rw [if_pos h4]
            have hg : good s = false := decide_eq_false (fun h => by rcases h.2.2.2 with hh | hh; exact hh h3; omega)
            rw [hg]
            exact ⟨0, rfl, fun h => by cases h⟩
          · rw [if_neg h4, ha]
            have hg : good s = true := decide_eq_true ⟨hp, by omega, hd, .inr (by omega)⟩
            rw [hg]
            exact ⟨_, rfl, fun _ => rfl⟩
        · rw [if_neg h3, ha]
          have hg : good s = true := decide_eq_true ⟨hp, by omega, hd, .inl h3⟩
          rw [hg]
          exact ⟨_, rfl, fun _ => rfl⟩
      · rw [if_neg h2]
        have hg : good s = false := decide_eq_false (fun h => h2 ((left_nil s).2 h.2.2.1))
        rw [hg]
        exact ⟨0, rfl, fun h => by cases h⟩
theorem num_loop (s : ByteArray) (hs : s.size ≤ 13) (hp : 1 ≤ s.size) : ∀ (d i : Nat), i + d = s.size → (∀ b ∈ s.data.toList.take i, dig b) →
    ∃ n, Ev (fun k => spec_l7Number.l0 k s (val 0 (s.data.toList.take i) : Int) i) (n, good s) ∧ (good s = true → n = (val 0 s.data.toList : Int)) := by
  have hz := size_eq s
  have hv : ∀ i, (∀ b ∈ s.data.toList.take i, dig b) → val 0 (s.data.toList.take i) < 10000000000000 := fun i h => by
    refine Nat.lt_of_lt_of_le (val_bound _ 0 h) ?_
    have : (s.data.toList.take i).length ≤ 13 := by rw [List.length_take]; omega
    calc (0 + 1) * 10 ^ (s.data.toList.take i).length ≤ 1 * 10 ^ 13 := Nat.mul_le_mul (Nat.le_refl _) (Nat.pow_le_pow_right (by omega) this)
      _ = 10000000000000 := by decide
  intro d
  induction d with
  | zero =>
    intro i hi hd
    obtain rfl : i = s.size := by omega
    have hfull : s.data.toList.take s.size = s.data.toList := List.take_of_length_le (by omega)
    have hb := hv s.size hd
    rw [hfull] at hd hb
    have hne : s.data.toList ≠ [] := List.length_pos_iff.1 (by omega)
    refine ⟨_, Ev.step (f := fun _ => some ((val 0 s.data.toList : Int), (Dec7.dec (val 0 s.data.toList)).toList == s.toList)) (fun k => ?_) (Ev.eq (Ev.now _) ?_), fun _ => rfl⟩
    · simp only [spec_l7Number.l0]
      rw [hfull, if_neg (by omega)]
      unfold spec_l7Dec.f
      rw [if_pos (by omega), if_pos (by omega)]
      rfl
    · congr 1
      have h1 := dec_iff _ hne hd
      rw [ByteArray.toList_eq, ByteArray.toList_eq]
      by_cases hh : (s.data.toList.head? ≠ some 48 ∨ s.data.toList.length = 1)
      · rw [beq_iff_eq.2 (h1.2 hh)]
        exact (decide_eq_true ⟨hp, hs, hd, by rw [hz]; exact hh⟩).symm
      · rw [beq_eq_false_iff_ne.2 (fun e => hh (h1.1 e))]
        exact (decide_eq_false (fun h => hh (by rw [← hz]; exact h.2.2.2))).symm
  | succ d ih =>
    intro i hi hd
    have hil : i < s.size := by omega
    have hil' : i < s.data.toList.length := by omega
    have hb := bt_get s i hil
    have hmem : s.data.toList[i] ∈ s.data.toList := List.getElem_mem _
    by_cases h1 : bt s i < 48
    · have hg : good s = false := decide_eq_false (fun h => by have := h.2.2.1 _ hmem; omega)
      rw [hg]
      exact ⟨0, Ev.step (f := fun _ => some (0, false)) (fun k => by simp only [spec_l7Number.l0]; rw [if_pos (by omega), if_pos (by omega), if_pos h1]) (Ev.now _), fun h => by cases h⟩
    · by_cases h2 : bt s i > 57
      · have hg : good s = false := decide_eq_false (fun h => by have := h.2.2.1 _ hmem; omega)
        rw [hg]
        exact ⟨0, Ev.step (f := fun _ => some (0, false)) (fun k => by simp only [spec_l7Number.l0]; rw [if_pos (by omega), if_pos (by omega), if_neg h1, if_pos h2]) (Ev.now _), fun h => by cases h⟩
      · have ht : s.data.toList.take (i + 1) = s.data.toList.take i ++ [s.data.toList[i]] := by
          rw [List.take_add_one, List.getElem?_eq_getElem hil']; rfl
        have hdg : dig s.data.toList[i] := by unfold dig; omega
        obtain ⟨n, h3, h4⟩ := ih (i + 1) (by omega) (by
          rw [ht]
          intro b hm
          rcases List.mem_append.1 hm with hm | hm
          · exact hd b hm
          · rw [List.mem_singleton.1 hm]; exact hdg)
        refine ⟨n, Ev.step (f := fun k => spec_l7Number.l0 k s (val 0 (s.data.toList.take (i + 1)) : Int) ((i + 1 : Nat) : Int)) (fun k => ?_) h3, h4⟩
        simp only [spec_l7Number.l0]
        rw [if_pos (by omega), if_pos (by omega), if_neg h1, if_neg h2, w_succ i (by omega)]
        have hbnd := hv i hd
        have e : wrap64 (wrap64 ((val 0 (s.data.toList.take i) : Int) * 10) + (bt s i - 48) % 256) = (val 0 (s.data.toList.take (i + 1)) : Int) := by
          rw [ht, val_snoc]
          have hm : (bt s (i : Int) - 48) % 256 = bt s (i : Int) - 48 := by omega
          rw [hm, w_id ((val 0 (s.data.toList.take i) : Int) * 10) (by omega) (by omega), w_id _ (by omega) (by omega)]
          omega
        rw [e]
theorem spec_number_eq (s : ByteArray) : ∃ n, Ev (fun k => spec_l7Number.f k s) (n, good s) ∧ (good s = true → n = (val 0 s.data.toList : Int)) := by
  have hz := size_eq s
  by_cases h : 1 ≤ s.size ∧ s.size ≤ 13
  · obtain ⟨n, h1, h2⟩ := num_loop s h.2 h.1 s.size 0 (by omega) (by simp)
    refine ⟨n, Ev.congr (fun k => ?_) h1, h2⟩
    unfold spec_l7Number.f spec_l1Between.f
    rw [if_pos (by omega)]
    simp only [Option.bind_some]
    rw [if_pos (decide_eq_true (by omega))]
    rfl
  · have hg : good s = false := decide_eq_false (fun hh => h ⟨hh.1, hh.2.1⟩)
    rw [hg]
    refine ⟨0, Ev.congr (fun k => ?_) (Ev.now (0, false)), fun h => by cases h⟩
    unfold spec_l7Number.f spec_l1Between.f
    by_cases h1 : (1 : Int) ≤ (s.size : Int)
    · rw [if_pos h1]
      simp only [Option.bind_some]
      rw [if_neg (by rw [decide_eq_true_eq]; omega)]
    · rw [if_neg h1]
      simp
end Go.Proofs.YtogoblkehdmapaaDoor.Pc
