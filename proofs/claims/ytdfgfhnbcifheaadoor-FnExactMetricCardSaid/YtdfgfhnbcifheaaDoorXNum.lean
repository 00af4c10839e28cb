/- Some of this seat's texts, joined by prune.py. -/
import Derived.Test.YtdfgfhnbcifheaaDoorM0
import Derived.Shelf.SlGeneric
import Derived.Shelf.SlSortCmp.WholeK
import Derived.Ground.SlsfProg
import Derived.Test.YtdfgfhnbcifheaaDoorProg
import Derived.Shelf.SlSortCmp.NoneTotal
import Derived.WalkKit
import Derived.Test.YtdfgfhnbcifheaaDoorXJoin
import Derived.Test.YtdfgfhnbcifheaaDoorShelf
/- Some of this seat's texts, joined by prune.py. -/
/- num: the lowest 1, 2, 4 or 8 bytes of a whole number, high byte first. -/
namespace Go.Proofs.YtdfgfhnbcifheaaDoor.M
open Go.RowKit Go.Proofs.YtdfgfhnbcifheaaDoorW.PrintWords Go.Proofs.YtdfgfhnbcifheaaDoorW.PrintLast Go.Proofs.YtdfgfhnbcifheaaDoorW.PrintMore
set_option linter.unusedVariables false
set_option linter.unusedSimpArgs false
namespace Num
def byte8 (N : Int) (p : Nat) : Int := (N / 256 ^ (7 - p)) % 256
def arr8 (N : Int) (j : Nat) : Array Value := ((List.range 8).map fun p => Value.int .u8 (if 8 - j ≤ p then byte8 N p else 0)).toArray
theorem arr8_old (N : Int) (j : Nat) (h : j < 8) : (arr8 N j)[7 - j]? = some (.int .u8 0) := by
  rw [arr8, List.getElem?_toArray, List.getElem?_map, List.getElem?_range (by omega)]
  simp; omega
theorem arr8_set (N : Int) (j : Nat) (h : j < 8) : (arr8 N j).setIfInBounds (7 - j) (.int .u8 (N / 256 ^ j % 256)) = arr8 N (j + 1) := by
  have : j = 0 ∨ j = 1 ∨ j = 2 ∨ j = 3 ∨ j = 4 ∨ j = 5 ∨ j = 6 ∨ j = 7 := by omega
  rcases this with rfl | rfl | rfl | rfl | rfl | rfl | rfl | rfl <;> rfl
theorem arr8_div (N : Int) (j : Nat) : N / 256 ^ j / 256 = N / 256 ^ (j + 1) := by
  rw [Int.pow_succ, Int.ediv_ediv_of_nonneg]
  exact Int.pow_nonneg (by decide)
def nums8 (m : Nat) (N : Int) : List Int := (List.range m).map fun p => byte8 N (8 - m + p)
/-- The lowest m bytes of N. -/
def bytes (m : Nat) (N : Int) : ByteArray := strOfNums (nums8 m N)
theorem conv (w : World) (N : Int) (m : Nat) (hm : m ≤ 8) : (convert 34 9 (.slice (some ⟨w.heap.size, 8 - m, none⟩) m m)).run Tryd.prog (w.alloc (.cells (arr8 N 8) 74)) = .ok (.string (bytes m N)) (w.alloc (.cells (arr8 N 8) 74)) := by
  refine run_convert_bytes_arg _ 34 5 Tryd.underlying34 Tryd.underlying5 w.heap.size (8 - m) m m (nums8 m N) (by simp [nums8]) (fun i hi => ?_) 9 Tryd.underlying9
  rw [World.cell?_alloc_mark]
  simp only [arr8, nums8]
  rw [List.getElem?_toArray, List.getElem?_map, List.getElem?_range (by omega)]
  simp [List.getD, List.getElem?_map, List.getElem?_range hi]
end Num
def impl_num.f (a0 : Int) (a1 : Int) : Option (ByteArray) := if a0 = 1 then some (Num.bytes 1 a1) else if a0 = 2 then some (Num.bytes 2 a1) else if a0 = 4 then some (Num.bytes 4 a1) else if a0 = 8 then some (Num.bytes 8 a1) else none
open Num in
set_option maxHeartbeats 1000000 in
set_option maxRecDepth 100000 in
theorem impl_num.calls (a0 : Int) (a1 : Int) (r : ByteArray) (w : World) (h : impl_num.f a0 a1 = some r) :
    Calls Tryd.prog 40 #[.int .i64 a0, .int .i64 a1] w fun e w' => e = .returned (.string r) ∧ Below w.heap.size w w' := by
  have hc : ∃ m : Nat, (m = 1 ∨ m = 2 ∨ m = 4 ∨ m = 8) ∧ a0 = (m : Int) ∧ r = Num.bytes m a1 := by
    unfold impl_num.f at h
    split at h
    · rename_i e; exact ⟨1, by omega, e, (Option.some.inj h).symm⟩
    split at h
    · rename_i e; exact ⟨2, by omega, e, (Option.some.inj h).symm⟩
    split at h
    · rename_i e; exact ⟨4, by omega, e, (Option.some.inj h).symm⟩
    split at h
    · rename_i e; exact ⟨8, by omega, e, (Option.some.inj h).symm⟩
    · cases h
  clear h
  obtain ⟨m, hm, rfl, rfl⟩ := hc
  have hconv := conv w a1 m (by omega)
  have hb : Below w.heap.size w (w.alloc (.cells (arr8 a1 8) 74)) := (Below.refl _ _).alloc (Nat.le_refl _) _
  have HB := Aside0.mk hb
  clear hb
  rcases hm with rfl | rfl | rfl | rfl
  all_goals
    simp only [Nat.reduceSub] at hconv
    go_enter Tryd.func40, Tryd.ntmps40
    go_wp2
    go_loopw [1, 6] (fun n i wr => ∃ j : Nat, j ≤ 8 ∧ i = .int .i64 (7 - j) ∧ n = .int .i64 (a1 / 256 ^ j) ∧ wr = w.alloc (.cells (arr8 a1 j) 74)) (fun _ i _ => (intOf i + 1).toNat)
    case atStart => exact ⟨0, by omega, by simp, by simp, by simp [arr8, List.range, List.range.loop]⟩
    case round =>
      obtain ⟨j, hj, rfl, rfl, rfl⟩ := hrel
      obtain rfl | hj8 : j = 8 ∨ j < 8 := by omega
      · go_wp2
        go_ret
        exact ⟨rfl, HB.out⟩
      · have hg : (0 : Int) ≤ 7 - (j : Int) := by omega
        have ho := arr8_old a1 j hj8
        go_wp2
        refine ⟨⟨j + 1, by omega, ?_, ?_, ?_⟩, ?_⟩
        · congr 1; omega
        · rw [arr8_div]
        · rw [arr8_set a1 j hj8]
        · simp [intOf]; omega
end Go.Proofs.YtdfgfhnbcifheaaDoor.M
/-
  DERIVED: THE SHELF's CONTRACTS AT THIS DUMP, IN PLAIN WORDS (tools/lay-plain.mjs out of 'TrydSShelf.lean', which tools/lay-shelf.mjs wrote): THE SAME DECLARATIONS UNDER THE SAME NAMES: 'import', 'namespace', 'open', 'def', 'theorem' AND NOTHING ELSE: no command of the shelf's: FOR A HAND-IN. Each laying: the table of numbers ('.._ren') and one theorem, a field a fact of the dump's own or the kernel's comparison; each contract: ONE APPLICATION.
-/
namespace Go.Proofs
open Go.Shelf
def Tryd.sortL_ren : Go.Shelf.Ren := ⟨fun | 6 => 30 | 15 => 55 | 14 => 54 | 28 => 73 | 29 => 74 | 20 => 65 | 21 => 66 | 22 => 67 | 23 => 68 | 24 => 69 | 25 => 70 | 26 => 71 | 27 => 72 | 46 => 79 | 47 => 80 | 48 => 81 | 49 => 82 | 50 => 83 | 57 => 86 | n => n, fun | 22 => 24 | 24 => 38 | 25 => 48 | 3 => 3 | 39 => 73 | 0 => 0 | 53 => 90 | 55 => 92 | 4 => 4 | 46 => 83 | 45 => 82 | 50 => 87 | 5 => 5 | 9 => 9 | 66 => 105 | 70 => 109 | 76 => 112 | 77 => 67 | n => n, fun | n => n⟩
theorem Tryd.sortL : Go.Proofs.SlLaysF0.n6 Tryd.prog Tryd.sortL_ren := {
  mixed := by kernel_rfl
  f6 := ⟨Tryd.f30.name, by decide, Tryd.func30.trans (congrArg some (by kernel_rfl))⟩
  f14 := ⟨Tryd.f54.name, by decide, Tryd.func54.trans (congrArg some (by kernel_rfl))⟩
  f15 := Tryd.func55.trans (congrArg some (by kernel_rfl))
  f20 := ⟨Tryd.f65.name, by decide, Tryd.func65.trans (congrArg some (by kernel_rfl))⟩
  f21 := ⟨Tryd.f66.name, by decide, Tryd.func66.trans (congrArg some (by kernel_rfl))⟩
  f22 := ⟨Tryd.f67.name, by decide, Tryd.func67.trans (congrArg some (by kernel_rfl))⟩
  f23 := ⟨Tryd.f68.name, by decide, Tryd.func68.trans (congrArg some (by kernel_rfl))⟩
  f24 := ⟨Tryd.f69.name, by decide, Tryd.func69.trans (congrArg some (by kernel_rfl))⟩
  f25 := ⟨Tryd.f70.name, by decide, Tryd.func70.trans (congrArg some (by kernel_rfl))⟩
  f26 := ⟨Tryd.f71.name, by decide, Tryd.func71.trans (congrArg some (by kernel_rfl))⟩
  f27 := ⟨Tryd.f72.name, by decide, Tryd.func72.trans (congrArg some (by kernel_rfl))⟩
  f28 := Tryd.func73.trans (congrArg some (by kernel_rfl))
  f29 := Tryd.func74.trans (congrArg some (by kernel_rfl))
  f46 := ⟨Tryd.f79.name, by decide, Tryd.func79.trans (congrArg some (by kernel_rfl))⟩
  f47 := Tryd.func80.trans (congrArg some (by kernel_rfl))
  f48 := Tryd.func81.trans (congrArg some (by kernel_rfl))
  f49 := ⟨Tryd.f82.name, by decide, Tryd.func82.trans (congrArg some (by kernel_rfl))⟩
  f50 := ⟨Tryd.f83.name, by decide, Tryd.func83.trans (congrArg some (by kernel_rfl))⟩
  f57 := ⟨Tryd.f86.name, by decide, Tryd.func86.trans (congrArg some (by kernel_rfl))⟩
  t0 := Tryd.underlying0
  a0 := Tryd.isAgg0
  z0 := Tryd.sizeOf0
  v0 := Tryd.zeroValue0
  t3 := Tryd.underlying3
  a3 := Tryd.isAgg3
  z3 := Tryd.sizeOf3
  v3 := Tryd.zeroValue3
  t4 := Tryd.underlying4
  a4 := Tryd.isAgg4
  z4 := Tryd.sizeOf4
  v4 := Tryd.zeroValue4
  t5 := Tryd.underlying5
  a5 := Tryd.isAgg5
  z5 := Tryd.sizeOf5
  v5 := Tryd.zeroValue5
  t9 := Tryd.underlying9
  a9 := Tryd.isAgg9
  z9 := Tryd.sizeOf9
  v9 := Tryd.zeroValue9
  t22 := Tryd.underlying24
  a22 := Tryd.isAgg24
  z22 := Tryd.sizeOf24
  v22 := Tryd.zeroValue24
  t25 := Tryd.underlying48
  a25 := Tryd.isAgg48
  z25 := Tryd.sizeOf48
  v25 := Tryd.zeroValue48
  t39 := Tryd.underlying73
  a39 := Tryd.isAgg73
  z39 := Tryd.sizeOf73
  v39 := Tryd.zeroValue73
  t45 := Tryd.underlying82
  a45 := Tryd.isAgg82
  z45 := Tryd.sizeOf82
  v45 := Tryd.zeroValue82
  t46 := Tryd.underlying83
  a46 := Tryd.isAgg83
  z46 := Tryd.sizeOf83
  v46 := Tryd.zeroValue83
  t50 := Tryd.underlying87
  a50 := Tryd.isAgg87
  z50 := Tryd.sizeOf87
  v50 := Tryd.zeroValue87
  t53 := Tryd.underlying90
  a53 := Tryd.isAgg90
  z53 := Tryd.sizeOf90
  v53 := Tryd.zeroValue90
  t55 := Tryd.underlying92
  a55 := Tryd.isAgg92
  z55 := Tryd.sizeOf92
  v55 := Tryd.zeroValue92
  t66 := Tryd.underlying105
  a66 := Tryd.isAgg105
  z66 := Tryd.sizeOf105
  v66 := Tryd.zeroValue105
  t70 := Tryd.underlying109
  a70 := Tryd.isAgg109
  z70 := Tryd.sizeOf109
  v70 := Tryd.zeroValue109
  t76 := Tryd.underlying112
  a76 := Tryd.isAgg112
  z76 := Tryd.sizeOf112
  v76 := Tryd.zeroValue112
  t77 := Tryd.underlying67
  a77 := Tryd.isAgg67
  z77 := Tryd.sizeOf67
  v77 := Tryd.zeroValue67 }
end Go.Proofs
/- slices.SortFunc at labels by their names: the row holds them in order. -/
namespace Go.Proofs.YtdfgfhnbcifheaaDoor.M
open Go.RowKit Go.Shelf Go.Sort Go.Proofs.YtdfgfhnbcifheaaDoor.CanSort Go.Proofs.YtdfgfhnbcifheaaDoorW.PrintWords Go.Proofs.YtdfgfhnbcifheaaDoorW.PrintLast Go.Proofs.YtdfgfhnbcifheaaDoorW.PrintMore
set_option linter.unusedVariables false
set_option linter.unusedSimpArgs false
namespace Srt
/-- A label's two cells. -/
def enc (x : Lb) : List Value := [.string x.f0, .string x.f1]
set_option maxHeartbeats 1000000 in
theorem closure (x y : Lb) (W : World) : Calls Tryd.prog 31 #[.agg #[.string x.f0, .string x.f1], .agg #[.string y.f0, .string y.f1]] W fun e w' => e = .returned (.int .i64 (cf x y)) ∧ ∃ q os', w' = grow (W.drewN q) os' := by
  obtain ⟨r, hr⟩ : ∃ r, r = cf x y := ⟨_, rfl⟩
  have hc := fun W' => Tryd.strings_Compare x.f0 y.f0 W'
  have e : Lib.compareBytes x.f0.data.toList y.f0.data.toList = r := hr.symm
  rw [e] at hc
  rw [← hr]
  clear e hr
  go_enter Tryd.func31, Tryd.ntmps31
  go_wp2_with fail
  refine (hc _).mono ?_
  rintro e w' ⟨rfl, rfl⟩
  go_wp2_with fail
  go_ret
  exact ⟨rfl, 0, _, by rw [alloc_eq_grow, alloc_eq_grow, grow_grow]; rfl⟩
theorem lays (blk off size : Nat) (w : World) : CmpLays Tryd.prog 31 #[] enc 2 cf blk off size w := fun _ _ _ _ x y => closure x y _
theorem flat_seg (d : Array Lb) (j : Nat) (hj : j < d.size) : ((flatK enc 2 d).toList.drop (j * 2)).take 2 = enc d[j]! := by
  have hs : (flatK enc 2 d).size = d.size * 2 := size_flatK enc 2 d
  have g : ∀ i, i < 2 → (flatK enc 2 d).toList[j * 2 + i]? = (enc d[j]!)[i]? := by
    intro i hi
    have hlt : j * 2 + i < (flatK enc 2 d).size := by omega
    rw [Array.getElem?_toList, Array.getElem?_eq_getElem hlt, ← getElem!_pos (flatK enc 2 d) _ hlt, get_flatK enc 2 d _ (by omega), show (j * 2 + i) / 2 = j by omega, show (j * 2 + i) % 2 = i by omega]
    have : i = 0 ∨ i = 1 := by omega
    rcases this with rfl | rfl <;> rfl
  apply List.ext_getElem?
  intro i
  by_cases hi : i < 2
  · rw [List.getElem?_take_of_lt hi, List.getElem?_drop, g i hi]
  · rw [List.getElem?_eq_none (by simp; omega), List.getElem?_eq_none (by simp [enc]; omega)]
theorem put_take (F cur : Array Value) (h : F.size ≤ cur.size) : (putCells id 0 F cur).toList.take F.size = F.toList := by
  apply List.ext_getElem?
  intro i
  by_cases hi : i < F.size
  · rw [List.getElem?_take_of_lt hi, Array.getElem?_toList, Array.getElem?_toList]
    unfold putCells
    rw [Array.getElem?_mapIdx, Array.getElem?_eq_getElem (by omega), Array.getElem?_eq_getElem hi]
    simp only [Option.map_some, Nat.zero_add, Nat.sub_zero, id]
    rw [if_pos ⟨Nat.zero_le _, hi⟩, getElem!_pos F i hi]
  · rw [List.getElem?_eq_none (by simp; omega), List.getElem?_eq_none (by simp; omega)]
theorem put_size (F cur : Array Value) : (putCells id 0 F cur).size = cur.size := by unfold putCells; simp
theorem reps_flat {w : World} {base : Nat} {ok : Nat → Prop} (d : Array Lb) : Reps (k38.M w base ok) k38.sz d.toList (flatK enc 2 d).toList := by
  refine ⟨by rw [Array.length_toList, Array.length_toList, size_flatK]; rfl, fun j p hp => ?_⟩
  have hj : j < d.size := by
    have := (List.getElem?_eq_some_iff.1 hp).1
    simpa using this
  have e : d[j]! = p := by
    rw [getElem!_pos d j hj]
    rw [Array.getElem?_toList, Array.getElem?_eq_getElem hj] at hp
    exact Option.some.inj hp
  rw [show k38.sz = 2 from rfl, flat_seg d j hj, e]
  exact k38_mkM w base ok p
theorem reps_eq {w : World} {base : Nat} {ok : Nat → Prop} (d : Array Lb) (inner : List Value) (h : Reps (k38.M w base ok) k38.sz d.toList inner) (t : Nat) (ht : t < d.size * 2) : inner[t]? = some (flatK enc 2 d)[t]! := by
  have hj : t / 2 < d.size := by omega
  have hp : d.toList[t / 2]? = some d[t / 2]! := by rw [Array.getElem?_toList, Array.getElem?_eq_getElem hj, getElem!_pos d _ hj]
  have h2 := k38_openM (h.2 (t / 2) _ hp)
  have h3 : ((inner.drop (t / 2 * 2)).take 2)[t % 2]? = (enc d[t / 2]!)[t % 2]? := congrArg (fun l : List Value => l[t % 2]?) h2
  rw [List.getElem?_take_of_lt (by omega), List.getElem?_drop, show t / 2 * 2 + t % 2 = t by omega] at h3
  rw [h3, get_flatK enc 2 d t ht]
  have : t % 2 = 0 ∨ t % 2 = 1 := by omega
  rcases this with h | h <;> rw [h] <;> rfl
end Srt
/-- What the sort leaves (told where no name stands twice). -/
noncomputable def impl_Label_30.f (l : List S38) : Option (List S38) := @ite _ (CanSort.Once l ∧ l.length < 4611686018427387904) (Classical.propDecidable _) (some (CanSort.order l)) none
set_option maxHeartbeats 1000000 in
theorem impl_Label_30.calls (P0 : Nat → Prop) (u : Value) (l r : List S38) (w0 w : World) (hB : Below w0.heap.size w0 w) (ho : Kd.R k38 38 w w0.heap.size P0 u l)
    (h : impl_Label_30.f l = some r) :
    Calls Tryd.prog 30 #[u, .func (.func 31) #[] #[]] w fun e w' => e = .returned (.tuple #[]) ∧ Kd.R k38 38 w' w0.heap.size (fun k => P0 k ∨ w.heap.size ≤ k) u r ∧ Below w0.heap.size w0 w' ∧ Kept w w' (fun k => P0 k) := by
  unfold impl_Label_30.f at h
  by_cases hz : CanSort.Once l ∧ l.length < 4611686018427387904
  · rw [if_pos hz] at h
    obtain rfl := Option.some.inj h
    obtain ⟨hok, inner, hown, hreps⟩ := ho
    rcases hown.2 with ⟨rfl, hn⟩ | ⟨g, cap, cur, rfl, hbg, hx, hcap, hmax, hcs, htk⟩
    · obtain rfl : l = [] := List.length_eq_zero_iff.1 hn
      refine (AnyF.slices_SortFunc_none Tryd.sortL none 0 (.func (.func 31) #[] #[]) w).mono ?_
      rintro e w' ⟨rfl, rfl⟩
      exact ⟨rfl, Kd.R_nil _ _ _ _ _, hB, Kept.refl _ _⟩
    · obtain ⟨d, hd⟩ : ∃ d : Array S38, d.toList = l := ⟨l.toArray, by simp⟩
      subst hd
      have hlen : d.toList.length = d.size := Array.length_toList
      have hglt : g < w.heap.size := blk_lt hx
      have hil : inner.length = d.size * 2 := by rw [hown.1, hlen]; rfl
      have hH : HoldsK Srt.enc 2 w g 0 d := by
        intro t ht
        rw [size_flatK] at ht
        have h1 := Srt.reps_eq d inner hreps t ht
        have h2 : cur.toList[t]? = some (flatK Srt.enc 2 d)[t]! := by
          rw [← htk, List.getElem?_take_of_lt (by rw [hlen]; exact ht)] at h1
          exact h1
        refine ⟨?_, blk_frozen hx _⟩
        rw [Nat.zero_add]
        refine (blk_cell hx t).trans ?_
        rw [← Array.getElem?_toList, h2]; rfl
      have eg : ∀ args w, (callFunc 31 args).run Tryd.prog w = .ok (.enter 31 args) w := enters_of Tryd.func31 (by kernel_rfl) rfl
      have hcon := AnyQ.slices_SortFunc Tryd.sortL 2 Tryd.isAgg38 Tryd.sizeOf38 Srt.enc (fun _ => rfl) (fun x v hv => by simp [Srt.enc] at hv; rcases hv with rfl | rfl <;> rfl) cf swo 31 #[] g 0 cap d w eg (Srt.lays g 0 d.size w) hH hglt (by rw [← hlen]; exact hz.2)
      rw [hlen]
      refine Calls.mono hcon ?_
      rintro e w' ⟨rfl, d', n, os, hp, hs, rfl⟩
      have hord := sorted_order d d' hp hs hz.1
      have hd' : d'.size = d.size := hp.1
      have hw : ∀ k, k < w.heap.size → (sortWorldK Srt.enc 2 w g 0 n d' os).heap[k]? = if k = g then some (.cells (putCells id 0 (flatK Srt.enc 2 d') cur) 38 (0, 0)) else w.heap[k]? := by
        intro k hk
        show ((w.heap.modify g (onCells (putCells id 0 (flatK Srt.enc 2 d')))) ++ os)[k]? = _
        rw [Array.getElem?_append_left (by simpa using hk), Array.getElem?_modify]
        by_cases hkg : g = k
        · subst hkg
          rw [if_pos rfl, if_pos rfl, hx]; rfl
        · rw [if_neg hkg, if_neg (fun e => hkg e.symm)]
      have hsz : w.heap.size ≤ (sortWorldK Srt.enc 2 w g 0 n d' os).heap.size := by
        show _ ≤ ((w.heap.modify g (onCells (putCells id 0 (flatK Srt.enc 2 d')))) ++ os).size
        simp
      have hf : (flatK Srt.enc 2 d').size = d.size * 2 := by rw [size_flatK, hd']
      have hge : w0.heap.size ≤ g := hbg
      refine ⟨rfl, ⟨fun k hk => .inl (hok k hk), (flatK Srt.enc 2 d').toList, ⟨?_, .inr ⟨g, cap, putCells id 0 (flatK Srt.enc 2 d') cur, ?_, hbg, ?_, ?_, hmax, ?_, ?_⟩⟩, ?_⟩, ⟨hB.os, hB.tape, hB.output, Nat.le_trans hB.size hsz, fun k hk => ?_⟩, ⟨hsz, fun k hk hn => ?_⟩⟩
      · rw [← hord, Array.length_toList, Array.length_toList, hf, hd']; rfl
      · rw [← hord, Array.length_toList, hd']
      · rw [hw g hglt, if_pos rfl]
      · rw [← hord, Array.length_toList, hd']; rw [hlen] at hcap; exact hcap
      · rw [Srt.put_size]; exact hcs
      · rw [← hord, Array.length_toList, show d'.size * k38.sz = (flatK Srt.enc 2 d').size by rw [size_flatK]; rfl]
        exact Srt.put_take _ _ (by rw [hf, hcs, show k38.sz = 2 from rfl]; rw [hlen] at hcap; omega)
      · rw [← hord]; exact Srt.reps_flat d'
      · have hkw : k < w.heap.size := Nat.lt_of_lt_of_le hk hB.size
        rw [hw k hkw, if_neg (by omega)]
        exact hB.block k hk
      · rw [hw k hk, if_neg (fun e => hn (by subst e; exact hok _ (by simp [Value.ownBlock])))]
  · rw [if_neg hz] at h; cases h
end Go.Proofs.YtdfgfhnbcifheaaDoor.M
