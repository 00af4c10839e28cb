/- Four bytes, high byte first: read by the program's source, read by the reference's l2Get, written by num. Plain. -/
import Derived.Test.YtagchfmclccfgaaLoops
import Derived.Test.YtagchfmclccfgaaCrcPlain
import Derived.Test.YtagchfmclccfgaaSpecNum
import Derived.Test.YtagchfmclccfgaaXSrcNum
import Derived.Test.YtagchfmclccfgaaF67
namespace Go.Proofs.Ytagchfmclccfgaa.Be4
open Go.Proofs.Ytagchfmclccfgaa.M Go.Proofs.Ytagchfmclccfgaa.Loops Go.Proofs.YtagchfmclccfgaaW.PrintWords Go.Proofs.YtagchfmclccfgaaW.PrintLast Go.RowKit

theorem or64 (a b : Nat) (ha : a < 2 ^ 40) (hb : b < 256) : Go.bits .or .i64 ((a : Int) * 256) b = (a : Int) * 256 + b := by
  have e1 : ((a : Int) * 256) = ((a * 256 : Nat) : Int) := by omega
  have h1 : a * 256 % 2 ^ 64 = a * 256 := Nat.mod_eq_of_lt (by omega)
  have h2 : b % 2 ^ 64 = b := Nat.mod_eq_of_lt (by omega)
  have h3 : a * 256 ||| b = a * 256 + b := by
    have := Nat.shiftLeft_add_eq_or_of_lt (i := 8) (b := b) (by omega) a
    rw [Nat.shiftLeft_eq] at this
    exact this.symm
  rw [e1]
  simp only [Go.bits, BitVec.ofInt_natCast, BitVec.toNat_or, BitVec.toNat_ofNat, show IntKind.i64.bits = 64 from rfl, h1, h2, h3]
  show IntKind.i64.wrap _ = _
  unfold IntKind.wrap
  simp [IntKind.bits, IntKind.signed]
  omega
/-- The number of the four bytes at the place i. -/
def be4 (t : ByteArray) (i : Int) : Int := ((bt t i * 256 + bt t (i + 1)) * 256 + bt t (i + 2)) * 256 + bt t (i + 3)
theorem be4_range (t : ByteArray) (i : Int) : 0 ≤ be4 t i ∧ be4 t i ≤ 4294967295 := by
  have h0 := bt_range t i
  have h1 := bt_range t (i + 1)
  have h2 := bt_range t (i + 2)
  have h3 := bt_range t (i + 3)
  unfold be4; omega
theorem upto_step (t : ByteArray) (k : Nat) (v : Int) (h : SrcNum.upto t k = v) (h0 : 0 ≤ v) (h1 : v < 2 ^ 40) : SrcNum.upto t (k + 1) = v * 256 + bt t k := by
  rw [SrcNum.upto, h]
  have hb := bt_range t k
  generalize bt t k = b at hb ⊢
  obtain ⟨n, rfl⟩ := Int.eq_ofNat_of_zero_le h0
  obtain ⟨m, rfl⟩ := Int.eq_ofNat_of_zero_le hb.1
  rw [w_id _ (by omega) (by omega), w_id _ (by omega) (by omega)]
  exact or64 n m (by omega) (by omega)
theorem upto4 (t : ByteArray) : SrcNum.upto t 4 = be4 t 0 := by
  have h0 := bt_range t (0 : Nat)
  have h1 := bt_range t (1 : Nat)
  have h2 := bt_range t (2 : Nat)
  have e1 := upto_step t 0 0 rfl (by omega) (by omega)
  have e2 := upto_step t 1 _ e1 (by omega) (by omega)
  have e3 := upto_step t 2 _ e2 (by omega) (by omega)
  have e4 := upto_step t 3 _ e3 (by omega) (by omega)
  rw [e4]; unfold be4; simp
theorem get_step (s : ByteArray) (j : Nat) (v : Int) (r : Int) (hj : j < 4) (hs : j < s.size) (h0 : 0 ≤ v) (h1 : v < 2 ^ 40)
    (h : Ev (fun k => spec_l2Get.l0 k s 0 4 (v * 256 + bt s j) ((j + 1 : Nat) : Int)) r) : Ev (fun k => spec_l2Get.l0 k s 0 4 v j) r := by
  have hb := bt_range s j
  refine Ev.step (fun k => ?_) h
  simp only [spec_l2Get.l0]
  have e : wrap64 (0 + (j : Int)) = (j : Int) := by rw [w_id _ (by omega) (by omega)]; omega
  rw [e, if_pos (by omega), if_pos (by omega), if_pos (by omega), w_succ j (by omega)]
  congr 1
  rw [w_id (bt s j) (by omega) (by omega), w_id (v * 256) (by omega) (by omega), w_id _ (by omega) (by omega)]
theorem get4 (s : ByteArray) (hs : 4 ≤ s.size) : Ev (fun k => spec_l2Get.f k s 0 4) (be4 s 0) := by
  have h0 := bt_range s (0 : Nat)
  have h1 := bt_range s (1 : Nat)
  have h2 := bt_range s (2 : Nat)
  unfold spec_l2Get.f
  refine get_step s 0 0 _ (by omega) (by omega) (by omega) (by omega) (get_step s 1 _ _ (by omega) (by omega) (by omega) (by omega) (get_step s 2 _ _ (by omega) (by omega) (by omega) (by omega) (get_step s 3 _ _ (by omega) (by omega) (by omega) (by omega) ?_)))
  refine Ev.step (f := fun _ => some _) (fun k => by simp only [spec_l2Get.l0]; rw [if_neg (by omega)]) (Ev.eq (Ev.now _) ?_)
  unfold be4; simp
/-- Four bytes are those of a number just if the number is theirs. -/
theorem bytes4_iff (c : Int) (h0 : 0 ≤ c) (h1 : c ≤ 4294967295) (t : ByteArray) (ht : t.size = 4) : Num.bytes 4 c = t ↔ be4 t 0 = c := by
  obtain ⟨⟨l⟩⟩ := t
  have hl : l.length = 4 := ht
  match l, hl with
  | [a, b, d, e], _ =>
    have e0 : bt ⟨⟨[a, b, d, e]⟩⟩ 0 = (a.toNat : Int) := rfl
    have e1 : bt ⟨⟨[a, b, d, e]⟩⟩ (0 + 1) = (b.toNat : Int) := rfl
    have e2 : bt ⟨⟨[a, b, d, e]⟩⟩ (0 + 2) = (d.toNat : Int) := rfl
    have e3 : bt ⟨⟨[a, b, d, e]⟩⟩ (0 + 3) = (e.toNat : Int) := rfl
    have ha := a.toNat_lt
    have hb := b.toNat_lt
    have hd := d.toNat_lt
    have he := e.toNat_lt
    have key : Num.bytes 4 c = ⟨⟨[UInt8.ofNat (c / 16777216 % 256).toNat, UInt8.ofNat (c / 65536 % 256).toNat, UInt8.ofNat (c / 256 % 256).toNat, UInt8.ofNat (c / 1 % 256).toNat]⟩⟩ := rfl
    rw [key]
    unfold be4
    rw [e0, e1, e2, e3]
    simp only [ByteArray.mk.injEq, Array.mk.injEq, List.cons.injEq, and_true, ← UInt8.toNat_inj, UInt8.toNat_ofNat']
    omega
theorem bt_extract (s : ByteArray) (i j k : Nat) (h : i + k < j) (hj : j ≤ s.size) : bt (s.extract i j) k = bt s ((i + k : Nat) : Int) := by
  unfold bt
  rw [dif_pos (by rw [ByteArray.size_extract, Int.toNat_natCast]; omega), dif_pos (by rw [Int.toNat_natCast]; omega)]
  simp only [Int.toNat_natCast, ByteArray.getElem_extract]
theorem be4_extract (s : ByteArray) (i j : Nat) (h : i + 4 ≤ j) (hj : j ≤ s.size) : be4 (s.extract i j) 0 = be4 s i := by
  have e0 := bt_extract s i j 0 (by omega) hj
  have e1 := bt_extract s i j 1 (by omega) hj
  have e2 := bt_extract s i j 2 (by omega) hj
  have e3 := bt_extract s i j 3 (by omega) hj
  unfold be4
  simp only [Int.zero_add]
  rw [show ((0 : Nat) : Int) = 0 from rfl] at e0
  rw [show ((1 : Nat) : Int) = 1 from rfl] at e1
  rw [show ((2 : Nat) : Int) = 2 from rfl] at e2
  rw [show ((3 : Nat) : Int) = 3 from rfl] at e3
  rw [e0, e1, e2, e3]
  simp
/-- The program's num on a source. -/
theorem source_num4 (s : ByteArray) (hs : 4 ≤ s.size) : impl_source_num.f s 4 = some (be4 s 0, s.extract 4 s.size) := by
  have hm : mn 4 (s.size : Int) = 4 := by unfold mn; rw [if_neg (by omega)]
  have hsz : (s.extract 0 4).size = 4 := by rw [ByteArray.size_extract]; omega
  unfold impl_source_num.f impl_source_text.f
  rw [hm, if_pos (by omega), if_pos (by omega)]
  simp only [Option.bind_some]
  rw [show (4 : Int).toNat = 4 from rfl, hsz, if_pos (by omega), upto4, be4_extract s 0 4 (by omega) (by omega)]
  rfl
end Go.Proofs.Ytagchfmclccfgaa.Be4
