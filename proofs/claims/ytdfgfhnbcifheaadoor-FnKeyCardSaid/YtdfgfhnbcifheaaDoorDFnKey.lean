/- Some of this seat's texts, joined by prune.py. -/
import Derived.Test.YtdfgfhnbcifheaaDoorF6
import Derived.Test.YtdfgfhnbcifheaaDoorF42
import Derived.Test.YtdfgfhnbcifheaaDoorTie
import Derived.LaidLaws
import Derived.Lib.LaidU8
import Derived.Test.YtdfgfhnbcifheaaDoorM0
import Derived.Test.YtdfgfhnbcifheaaDoorF10
import Derived.Test.YtdfgfhnbcifheaaDoorUtf
import Derived.Test.YtdfgfhnbcifheaaDoorF39
import Derived.Test.YtdfgfhnbcifheaaDoorF48
/- Some of this seat's texts, joined by prune.py. -/
/- Some of this seat's texts, joined by prune.py. -/
-- By pp.py, a program of this repo, with the kit's printer: Lean checks it.
namespace Go.Proofs.YtdfgfhnbcifheaaDoor.M
open Go.RowKit Go.Proofs.YtdfgfhnbcifheaaDoorW.PrintWords Go.Proofs.YtdfgfhnbcifheaaDoorW.PrintLast Go.Proofs.YtdfgfhnbcifheaaDoorW.PrintMore
attribute [local go_sem] max2_int min2_int max_two min_two max_three min_three max_four min_four
set_option linter.unusedVariables false
set_option linter.unusedSimpArgs false

end Go.Proofs.YtdfgfhnbcifheaaDoor.M
namespace Go.Proofs.YtdfgfhnbcifheaaDoor.Pure
open Go.Proofs.YtdfgfhnbcifheaaDoor.M Go.RowKit
/-- What is left to prove of laws_FnKey. -/
def FnKeyPure : Prop := ∀ (l0 : List Int) (l1 : List Int), (l0.length ≤ maxLen ∧ ∀ y_ ∈ l0, (fun n => (Lit.int .u8 n).wf = true) y_) → (l1.length ≤ maxLen ∧ ∀ y_ ∈ l1, (fun n => (Lit.int .u8 n).wf = true) y_) → ∃ k, laws_FnKey.f k l0 l1 = some true
end Go.Proofs.YtdfgfhnbcifheaaDoor.Pure
namespace Go.Proofs.YtdfgfhnbcifheaaDoor.M
end Go.Proofs.YtdfgfhnbcifheaaDoor.M
/- The two tables of unicode/utf8, as the rows list them: what a walk reads; a world that holds them. -/
namespace Go.Proofs.YtdfgfhnbcifheaaDoor.Laid
open Go Go.Lib Go.Proofs Go.Proofs.YtdfgfhnbcifheaaDoor.M
theorem extra : U8Extra Tryd.prog Tryd.lays260_ren where
  n3 := by kernel_rfl
  n4 := by kernel_rfl
  y3 := by kernel_rfl
  y4 := by kernel_rfl
  c5 := by kernel_rfl
  c119 := by kernel_rfl
  c138 := by kernel_rfl
theorem first_eq : Rows.laid_unicode_utf8_first = firstData := by kernel_rfl
theorem accept_eq : (Rows.laid_unicode_utf8_acceptRanges : DataW Unit) = acceptData := by kernel_rfl
theorem tabs {W : World} (h : laidMet Tryd.prog [("unicode/utf8.acceptRanges", Rows.laid_unicode_utf8_acceptRanges), ("unicode/utf8.first", Rows.laid_unicode_utf8_first)] W) : Tabs W := by
  rw [first_eq, accept_eq] at h
  exact utf8Tabs_of_reads Tryd.lays260 extra (laidMet.reads h (by simp)) (laidMet.reads h (by simp))
/-- The cells of the two tables. -/
def firstCells : Array Value := (firstTab.map fun z => Value.int .u8 z).toArray
def acceptCells : Array Value := ((List.range 16).flatMap fun i => [Value.int .u8 (accLo i), Value.int .u8 (accHi i)]).toArray
def putRow_ (cs : Array Value) : Obj → Obj
  | .cells _ t frozen => .cells cs t frozen
  | o => o
/-- A world for the witness: the settled one, the tables' blocks hold what their initialisers lay. -/
noncomputable def laidWorld (os : Os) : World :=
  { World.holding Tryd.prog os ⟨#[], #[], []⟩ with heap := ((World.holding Tryd.prog os ⟨#[], #[], []⟩).heap.modify (Tryd.lays260_ren.g 3) (putRow_ firstCells)).modify (Tryd.lays260_ren.g 4) (putRow_ acceptCells) }
end Go.Proofs.YtdfgfhnbcifheaaDoor.Laid
-- By pp.py, a program of this repo, with the kit's printer: Lean checks it.
namespace Go.Proofs.YtdfgfhnbcifheaaDoor.M
open Go.RowKit Go.Proofs.YtdfgfhnbcifheaaDoorW.PrintWords Go.Proofs.YtdfgfhnbcifheaaDoorW.PrintLast Go.Proofs.YtdfgfhnbcifheaaDoorW.PrintMore
attribute [local go_sem] max2_int min2_int max_two min_two max_three min_three max_four min_four
set_option linter.unusedVariables false
set_option linter.unusedSimpArgs false

/-! ### spec_l2S8: function 37 -/
def spec_l2S8.f (k : Nat) (a0 : ByteArray) : Option (ByteArray) := (spec_l2Num.f k 1 (a0.size : Int)).bind fun t209 => (if t209.size + a0.size ≤ 9223372036854775807 then (some (t209 ++ a0)) else (none))
theorem spec_l2S8.mono : ∀ a0 k, LeO (spec_l2S8.f k a0) (spec_l2S8.f (k + 1) a0) := by
  intro a0 k
  unfold spec_l2S8.f
  repeat' first
      | (with_reducible exact spec_l2Num.mono _ _ _)
      | (with_reducible exact LeO.refl _)
      | (with_reducible exact LeO.none _)
      | (with_reducible refine LeO.ite ?_ ?_)
      | (with_reducible refine LeO.bind ?_ (fun _ => ?_))
      | exact spec_l2Num.mono _ _ _
      | exact LeO.none _
      | refine LeO.ite ?_ ?_
      | refine LeO.bind ?_ (fun _ => ?_)
set_option maxHeartbeats 8000000 in
set_option maxRecDepth 100000 in
theorem spec_l2S8.calls (k : Nat) (a0 : ByteArray) (r : ByteArray) (w : World) (h : spec_l2S8.f k a0 = some r) :
    Calls Tryd.prog 37 #[.string a0] w fun e w' => e = .returned (.string r) ∧ Below w.heap.size w w' := by
  have HB := Aside0.mk (Below.refl w.heap.size w)
  have H : ((spec_l2Num.f k 1 (a0.size : Int)).bind fun t209 => (if t209.size + a0.size ≤ 9223372036854775807 then (some (t209 ++ a0)) else (none))) = some r := h
  clear h
  replace H := Option.bind_eq_some_iff.mp H
  obtain ⟨t209, A20, H⟩ := H
  replace H : (if t209.size + a0.size ≤ 9223372036854775807 then (some (t209 ++ a0)) else (none)) = some r := H
  have A2 := Aside0.mk A20
  clear A20
  by_cases c3 : t209.size + a0.size ≤ 9223372036854775807
  · rw [if_pos c3] at H
    have c3b0 := eq_true c3
    have c3b1 : decide (t209.size + a0.size ≤ 9223372036854775807) = true := decide_eq_true c3
    try have c3b2 : (9223372036854775807 < t209.size + a0.size) = False := eq_false (Nat.not_lt.2 c3)
    obtain rfl := Option.some.inj H
    go_enter Tryd.func37, Tryd.ntmps37
    go_wp2_with (first | ((with_reducible refine gate_callee (f := 36) rfl ?_); refine goesL_ (some 5) rfl rfl Tryd.func36 (by kernel_rfl) rfl #[.int .i64 1, .int .i64 (a0.size : Int)] rfl (by (try simp only [List.map_toArray, List.map_cons, List.map_nil]); first | done | rfl | (simp only [List.length_drop, List.length_take]; rfl)) ?_; (with_reducible refine (spec_l2Num.calls k 1 (a0.size : Int) t209 _ A2.out).mono ?_); rintro e w4 ⟨rfl, hb⟩; refine ⟨_, rfl, ?_⟩; have n0_ := Aside0.mk (below_step (by repeat (first | (with_reducible first | exact HB.out | apply below_alloc | apply pw_below_drewN | apply below_drew1) | exact HB.out)) hb); clear HB; have HB := n0_; clear n0_; (try clear hb); (try clear hb2); (try clear hk); (try clear hi)))
    go_ret
    exact ⟨by first | rfl | (simp [errW_none, errW_some] <;> rfl) | (simp [*, errW_none, errW_some] <;> rfl), by repeat (first | (with_reducible first | exact HB.out | apply below_alloc | apply pw_below_drewN | apply below_drew1) | exact HB.out)⟩
  · rw [if_neg c3] at H
    exact absurd H (by simp)

end Go.Proofs.YtdfgfhnbcifheaaDoor.M
/- Numbers and texts as the two decoders read them: plain. -/
namespace Go.Proofs.YtdfgfhnbcifheaaDoor.DecLib
open Go.Proofs.YtdfgfhnbcifheaaDoor.M Go.Proofs.YtdfgfhnbcifheaaDoor.Loops Go.Proofs.YtdfgfhnbcifheaaDoor.M.Enc Go.Proofs.YtdfgfhnbcifheaaDoorW.PrintWords Go.Proofs.YtdfgfhnbcifheaaDoorW.PrintLast Go.Proofs.YtdfgfhnbcifheaaDoorW.PrintMore Go.RowKit

theorem or64 (v : Int) (b : Int) (h0 : 0 ≤ b) (h1 : b ≤ 255) : Go.bits .or .i64 (wrap64 (v * 256)) b = wrap64 (v * 256 + b) := by
  obtain ⟨n, rfl⟩ := Int.eq_ofNat_of_zero_le h0
  obtain ⟨x, hx⟩ : ∃ x, x = wrap64 (v * 256) % 18446744073709551616 := ⟨_, rfl⟩
  have hx2 : x % 256 = 0 := by rw [hx]; unfold wrap64; omega
  have hx3 : 0 ≤ x := by rw [hx]; exact Int.emod_nonneg _ (by decide)
  have hx4 : x < 18446744073709551616 := by rw [hx]; exact Int.emod_lt_of_pos _ (by decide)
  obtain ⟨A, hA'⟩ : ∃ A : Nat, x = (A : Int) := Int.eq_ofNat_of_zero_le hx3
  have hA : A = (wrap64 (v * 256) % 18446744073709551616).toNat := by rw [← hx, hA']; rfl
  have hm : A % 256 = 0 := by omega
  have hlt : A < 18446744073709551616 := by omega
  have h2 : n % 2 ^ 64 = n := Nat.mod_eq_of_lt (Nat.lt_of_le_of_lt (show n ≤ 255 by omega) (by decide))
  have h3 : A ||| n = A + n := by
    have := Nat.shiftLeft_add_eq_or_of_lt (i := 8) (b := n) (by omega) (A / 256)
    rw [Nat.shiftLeft_eq, show A / 256 * 2 ^ 8 = A from Nat.div_mul_cancel (Nat.dvd_of_mod_eq_zero hm)] at this
    exact this.symm
  have h4 : ((wrap64 (v * 256)) % ((2 ^ 64 : Nat) : Int)).toNat = A := by rw [hA]; rfl
  simp only [Go.bits, BitVec.ofInt_natCast, BitVec.toNat_or, BitVec.toNat_ofNat, BitVec.toNat_ofInt, show IntKind.i64.bits = 64 from rfl, h2, h4, h3]
  have h5 : (A : Int) = wrap64 (v * 256) % 18446744073709551616 := by rw [hA]; omega
  clear h4 hA h3
  unfold IntKind.wrap
  simp [IntKind.bits, IntKind.signed]
  unfold wrap64 at *
  omega
/-- The number of the k bytes from the place i on, high byte first. -/
def nv (s : ByteArray) (i : Nat) : Nat → Int
  | 0 => 0
  | k + 1 => nv s i k * 256 + bt s ((i + k : Nat) : Int)
theorem nv_eq (s t : ByteArray) (i j : Nat) : ∀ k, (∀ q, q < k → bt s ((i + q : Nat) : Int) = bt t ((j + q : Nat) : Int)) → nv s i k = nv t j k
  | 0, _ => rfl
  | k + 1, h => by
    have h1 := nv_eq s t i j k (fun q hq => h q (by omega))
    simp only [nv]
    rw [h1, h k (by omega)]
theorem wrap0 : wrap64 0 = 0 := w_id 0 (by decide) (by decide)
theorem upto_nv (t : ByteArray) : ∀ k, SrcNum.upto t k = wrap64 (nv t 0 k)
  | 0 => wrap0.symm
  | k + 1 => by
    have hb := bt_range t (k : Int)
    rw [SrcNum.upto, upto_nv t k, show wrap64 (bt t (k : Int)) = bt t (k : Int) from w_id _ (by omega) (by omega), or64 _ _ hb.1 hb.2]
    simp only [nv, Nat.zero_add]
    generalize nv t 0 k = x
    generalize bt t (k : Int) = b at hb ⊢
    unfold wrap64; omega
theorem bt_extract (s : ByteArray) (i j k : Nat) (h : i + k < j) (hj : j ≤ s.size) : bt (s.extract i j) k = bt s ((i + k : Nat) : Int) := by
  unfold bt
  rw [dif_pos (by rw [ByteArray.size_extract, Int.toNat_natCast]; omega), dif_pos (by rw [Int.toNat_natCast]; omega)]
  simp only [Int.toNat_natCast, ByteArray.getElem_extract]
/-! ### the program's reader -/
theorem text_f (r : ByteArray) (n : Int) (h : 0 ≤ n) : impl_source_text.f r n = some (r.extract 0 (min n.toNat r.size), r.extract (min n.toNat r.size) r.size) := by
  have hm : mn n (r.size : Int) = ((min n.toNat r.size : Nat) : Int) := by unfold mn; split <;> omega
  unfold impl_source_text.f
  rw [hm, if_pos (by omega), if_pos (by omega), Int.toNat_natCast]
theorem num_f (r : ByteArray) (n : Nat) (hr : r.size ≤ 9223372036854775807) : impl_source_num.f r n = some (wrap64 (nv r 0 (min n r.size)), r.extract (min n r.size) r.size) := by
  unfold impl_source_num.f
  rw [text_f r n (by omega), Int.toNat_natCast, Option.bind_some]
  have hsz : (r.extract 0 (min n r.size)).size = min n r.size := by rw [ByteArray.size_extract]; omega
  rw [hsz, if_pos (by omega), upto_nv, nv_eq (r.extract 0 (min n r.size)) r 0 0 _ (fun q hq => by
    rw [Nat.zero_add]
    exact (bt_extract r 0 (min n r.size) q (by omega) (by omega)).trans (by rw [Nat.zero_add]))]
/-! ### the reference's reader -/
/-! ### what was written is read -/
def B (L : List UInt8) : ByteArray := ⟨L.toArray⟩
theorem B_size (L : List UInt8) : (B L).size = L.length := rfl
theorem B_list (s : ByteArray) : B s.data.toList = s := by cases s; rfl
theorem B_extract (L : List UInt8) (i j : Nat) : (B L).extract i j = B ((L.drop i).take (j - i)) := by
  apply ByteArray.ext
  apply Array.ext'
  simp [B]
theorem B_bt (L : List UInt8) (i : Nat) (h : i < L.length) : bt (B L) (i : Int) = (L[i].toNat : Int) := by
  unfold bt
  rw [dif_pos (by rw [Int.toNat_natCast, B_size]; exact h)]
  rfl
def lv (X : List UInt8) : Int := X.foldl (fun a c => a * 256 + (c.toNat : Int)) 0
theorem lv_snoc (X : List UInt8) (c : UInt8) : lv (X ++ [c]) = lv X * 256 + (c.toNat : Int) := by unfold lv; rw [List.foldl_append]; rfl
theorem nv_lv (P X L : List UInt8) : nv (B (P ++ X ++ L)) P.length X.length = lv X := by
  have h : ∀ k, k ≤ X.length → nv (B (P ++ X ++ L)) P.length k = lv (X.take k) := by
    intro k
    induction k with
    | zero => intro _; rfl
    | succ k ih =>
      intro hk
      have e : (P ++ X ++ L)[P.length + k]'(by simp; omega) = X[k] := by
        rw [List.getElem_append_left (by simp; omega), List.getElem_append_right (by omega)]
        simp
      simp only [nv]
      rw [ih (by omega), B_bt _ _ (by simp; omega), e, List.take_add_one, List.getElem?_eq_getElem (by omega), Option.toList_some, lv_snoc]
  rw [h _ (Nat.le_refl _), List.take_length]
theorem lv1 (v : Int) (h0 : 0 ≤ v) (h1 : v ≤ 255) : lv (nL 1 v) = v := by
  have key : nL 1 v = [UInt8.ofNat (v / 1 % 256).toNat] := rfl
  rw [key]
  simp only [lv, List.foldl_cons, List.foldl_nil, UInt8.toNat_ofNat']
  omega
theorem lv2 (v : Int) (h0 : 0 ≤ v) (h1 : v ≤ 65535) : lv (nL 2 v) = v := by
  have key : nL 2 v = [UInt8.ofNat (v / 256 % 256).toNat, UInt8.ofNat (v / 1 % 256).toNat] := rfl
  rw [key]
  simp only [lv, List.foldl_cons, List.foldl_nil, UInt8.toNat_ofNat']
  omega
/-- The program reads a number that stands at the head. -/
theorem num_rt (X L : List UInt8) (hX : (X ++ L).length ≤ 9223372036854775000) : impl_source_num.f (B (X ++ L)) X.length = some (wrap64 (lv X), B L) := by
  have hm : min X.length (B (X ++ L)).size = X.length := by rw [B_size, List.length_append]; omega
  rw [num_f _ _ (by rw [B_size]; omega), hm]
  have h1 : nv (B (X ++ L)) 0 X.length = lv X := nv_lv [] X L
  have h2 : (B (X ++ L)).extract X.length (B (X ++ L)).size = B L := by rw [B_extract, B_size, List.drop_left, List.take_of_length_le (by simp)]
  rw [h1, h2]
theorem num1_rt (v : Int) (L : List UInt8) (h0 : 0 ≤ v) (h1 : v ≤ 255) (hL : L.length ≤ 9223372036854700000) : impl_source_num.f (B (nL 1 v ++ L)) 1 = some (v, B L) := by
  have h := num_rt (nL 1 v) L (by rw [List.length_append, nL_length]; omega)
  rw [nL_length, lv1 v h0 h1, w_id v (by omega) (by omega)] at h
  exact h
theorem num2_rt (v : Int) (L : List UInt8) (h0 : 0 ≤ v) (h1 : v ≤ 65535) (hL : L.length ≤ 9223372036854700000) : impl_source_num.f (B (nL 2 v ++ L)) 2 = some (v, B L) := by
  have h := num_rt (nL 2 v) L (by rw [List.length_append, nL_length]; omega)
  rw [nL_length, lv2 v h0 h1, w_id v (by omega) (by omega)] at h
  exact h
theorem text_rt (X L : List UInt8) : impl_source_text.f (B (X ++ L)) (X.length : Int) = some (B X, B L) := by
  have hm : min X.length (B (X ++ L)).size = X.length := by rw [B_size, List.length_append]; omega
  rw [text_f _ _ (by omega), Int.toNat_natCast, hm]
  have h2 : (B (X ++ L)).extract X.length (B (X ++ L)).size = B L := by rw [B_extract, B_size, List.drop_left, List.take_of_length_le (by simp)]
  have h3 : (B (X ++ L)).extract 0 X.length = B X := by rw [B_extract, List.drop_zero, Nat.sub_zero, List.take_left]
  rw [h2, h3]
theorem s8_rt (t : ByteArray) (L : List UInt8) (ht : t.size ≤ 255) (hL : L.length ≤ 9223372036854600000) : impl_source_s8.f (B (s8L t ++ L)) = some (t, B L) := by
  unfold impl_source_s8.f s8L
  rw [List.append_assoc, num1_rt _ _ (by omega) (by omega) (by rw [List.length_append, len_]; omega), Option.bind_some]
  have h := text_rt t.data.toList L
  rw [len_, B_list] at h
  simp only [h, Option.bind_some]
theorem s16_rt (t : ByteArray) (L : List UInt8) (ht : t.size ≤ 65535) (hL : L.length ≤ 9223372036854600000) : impl_source_s16.f (B (s16L t ++ L)) = some (t, B L) := by
  unfold impl_source_s16.f s16L
  rw [List.append_assoc, num2_rt _ _ (by omega) (by omega) (by rw [List.length_append, len_]; omega), Option.bind_some]
  have h := text_rt t.data.toList L
  rw [len_, B_list] at h
  simp only [h, Option.bind_some]
end Go.Proofs.YtdfgfhnbcifheaaDoor.DecLib
