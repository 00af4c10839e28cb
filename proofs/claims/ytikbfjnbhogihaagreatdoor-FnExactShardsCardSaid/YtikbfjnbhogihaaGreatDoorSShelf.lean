import Derived.Shelf.SlGeneric
import Derived.Shelf.SlSortCmp.WholeK
import Derived.Ground.SlsfProg
import Derived.Test.YtikbfjnbhogihaaGreatDoorProg
import Derived.Test.YtikbfjnbhogihaaGreatDoorM0
import Derived.Shelf.SlSortCmp.NoneTotal
import Derived.WalkKit
import Derived.Test.YtikbfjnbhogihaaGreatDoorCanSort
import Derived.Test.YtikbfjnbhogihaaGreatDoorXSrcNum
import Derived.BigCall
import Derived.BigGuard
import Derived.Test.YtikbfjnbhogihaaGreatDoorMp
import Derived.Test.YtikbfjnbhogihaaGreatDoorF102
import Derived.Test.YtikbfjnbhogihaaGreatDoorKp
import Derived.BigQuiet
import Derived.BigRegion
import Derived.Deep.QuietTactic
import Derived.StillTailTactics
import Derived.Deep.RegionHeld3
import Derived.Lib.SliceRun
/-
 DERIVED: THE SHELF's CONTRACTS AT THIS DUMP, IN PLAIN WORDS (tools/lay-plain.mjs out of 'TryzSShelf.lean', which tools/lay-shelf.mjs wrote): THE SAME DECLARATIONS UNDER THE SAME NAMES: 'import', 'namespace', 'open', 'def', 'theorem' AND NOTHING ELSE: no command of the shelf's: FOR A HAND-IN. Each laying: the table of numbers ('.._ren') and one theorem, a field a fact of the dump's own or the kernel's comparison; each contract: ONE APPLICATION.
-/
namespace Go.Proofs
open Go.Shelf
def Tryz.sortL_ren : Go.Shelf.Ren := ⟨fun | 6 => 177 | 15 => 175 | 14 => 192 | 28 => 190 | 29 => 191 | 20 => 203 | 21 => 204 | 22 => 205 | 23 => 206 | 24 => 207 | 25 => 208 | 26 => 209 | 27 => 210 | 46 => 215 | 47 => 198 | 48 => 199 | 49 => 216 | 50 => 217 | 57 => 220 | n => n, fun | 22 => 65 | 24 => 141 | 25 => 235 | 3 => 3 | 39 => 171 | 0 => 0 | 53 => 170 | 55 => 172 | 4 => 4 | 46 => 244 | 45 => 243 | 50 => 167 | 5 => 5 | 9 => 9 | 66 => 260 | 70 => 264 | 76 => 272 | 77 => 37 | n => n, fun | n => n⟩
theorem Tryz.sortL : Go.Proofs.SlLaysF0.n6 Tryz.prog Tryz.sortL_ren := {
 mixed := by kernel_rfl
 f6 := ⟨Tryz.f177.name, by decide, Tryz.func177.trans (congrArg some (by kernel_rfl))⟩
 f14 := ⟨Tryz.f192.name, by decide, Tryz.func192.trans (congrArg some (by kernel_rfl))⟩
 f15 := Tryz.func175.trans (congrArg some (by kernel_rfl))
 f20 := ⟨Tryz.f203.name, by decide, Tryz.func203.trans (congrArg some (by kernel_rfl))⟩
 f21 := ⟨Tryz.f204.name, by decide, Tryz.func204.trans (congrArg some (by kernel_rfl))⟩
 f22 := ⟨Tryz.f205.name, by decide, Tryz.func205.trans (congrArg some (by kernel_rfl))⟩
 f23 := ⟨Tryz.f206.name, by decide, Tryz.func206.trans (congrArg some (by kernel_rfl))⟩
 f24 := ⟨Tryz.f207.name, by decide, Tryz.func207.trans (congrArg some (by kernel_rfl))⟩
 f25 := ⟨Tryz.f208.name, by decide, Tryz.func208.trans (congrArg some (by kernel_rfl))⟩
 f26 := ⟨Tryz.f209.name, by decide, Tryz.func209.trans (congrArg some (by kernel_rfl))⟩
 f27 := ⟨Tryz.f210.name, by decide, Tryz.func210.trans (congrArg some (by kernel_rfl))⟩
 f28 := Tryz.func190.trans (congrArg some (by kernel_rfl))
 f29 := Tryz.func191.trans (congrArg some (by kernel_rfl))
 f46 := ⟨Tryz.f215.name, by decide, Tryz.func215.trans (congrArg some (by kernel_rfl))⟩
 f47 := Tryz.func198.trans (congrArg some (by kernel_rfl))
 f48 := Tryz.func199.trans (congrArg some (by kernel_rfl))
 f49 := ⟨Tryz.f216.name, by decide, Tryz.func216.trans (congrArg some (by kernel_rfl))⟩
 f50 := ⟨Tryz.f217.name, by decide, Tryz.func217.trans (congrArg some (by kernel_rfl))⟩
 f57 := ⟨Tryz.f220.name, by decide, Tryz.func220.trans (congrArg some (by kernel_rfl))⟩
 t0 := Tryz.underlying0
 a0 := Tryz.isAgg0
 z0 := Tryz.sizeOf0
 v0 := Tryz.zeroValue0
 t3 := Tryz.underlying3
 a3 := Tryz.isAgg3
 z3 := Tryz.sizeOf3
 v3 := Tryz.zeroValue3
 t4 := Tryz.underlying4
 a4 := Tryz.isAgg4
 z4 := Tryz.sizeOf4
 v4 := Tryz.zeroValue4
 t5 := Tryz.underlying5
 a5 := Tryz.isAgg5
 z5 := Tryz.sizeOf5
 v5 := Tryz.zeroValue5
 t9 := Tryz.underlying9
 a9 := Tryz.isAgg9
 z9 := Tryz.sizeOf9
 v9 := Tryz.zeroValue9
 t22 := Tryz.underlying65
 a22 := Tryz.isAgg65
 z22 := Tryz.sizeOf65
 v22 := Tryz.zeroValue65
 t25 := Tryz.underlying235
 a25 := Tryz.isAgg235
 z25 := Tryz.sizeOf235
 v25 := Tryz.zeroValue235
 t39 := Tryz.underlying171
 a39 := Tryz.isAgg171
 z39 := Tryz.sizeOf171
 v39 := Tryz.zeroValue171
 t45 := Tryz.underlying243
 a45 := Tryz.isAgg243
 z45 := Tryz.sizeOf243
 v45 := Tryz.zeroValue243
 t46 := Tryz.underlying244
 a46 := Tryz.isAgg244
 z46 := Tryz.sizeOf244
 v46 := Tryz.zeroValue244
 t50 := Tryz.underlying167
 a50 := Tryz.isAgg167
 z50 := Tryz.sizeOf167
 v50 := Tryz.zeroValue167
 t53 := Tryz.underlying170
 a53 := Tryz.isAgg170
 z53 := Tryz.sizeOf170
 v53 := Tryz.zeroValue170
 t55 := Tryz.underlying172
 a55 := Tryz.isAgg172
 z55 := Tryz.sizeOf172
 v55 := Tryz.zeroValue172
 t66 := Tryz.underlying260
 a66 := Tryz.isAgg260
 z66 := Tryz.sizeOf260
 v66 := Tryz.zeroValue260
 t70 := Tryz.underlying264
 a70 := Tryz.isAgg264
 z70 := Tryz.sizeOf264
 v70 := Tryz.zeroValue264
 t76 := Tryz.underlying272
 a76 := Tryz.isAgg272
 z76 := Tryz.sizeOf272
 v76 := Tryz.zeroValue272
 t77 := Tryz.underlying37
 a77 := Tryz.isAgg37
 z77 := Tryz.sizeOf37
 v77 := Tryz.zeroValue37 }
end Go.Proofs
/- The steps of a region that draws its order, in short words: what is always shown alike is shown by default. -/
namespace Go.Proofs.YtikbfjnbhogihaaGreatDoor.Bk
open Go.RowKit Go.Proofs.YtikbfjnbhogihaaGreatDoor.M Go.Proofs.YtikbfjnbhogihaaGreatDoorW.PrintWords Go.Proofs.YtikbfjnbhogihaaGreatDoorW.PrintLast Go.Proofs.YtikbfjnbhogihaaGreatDoorW.PrintMore
set_option linter.unusedVariables false
section
variable {P : Program} {ops : Array Oper} {Q : Exit → Act → World → Prop} {md : Region.Mode} {S : World → Prop} {ds : List Nat} {oi : Oper} {v : Value} {fuel : Nat} {l l' : Array Bool} {a a' : Act} {w w1 : World}
theorem pu_ (i : Nat) (N : Option Tmp) (hi : ops[i]? = some oi := by exact rfl) (hN : oi.dst = N := by exact rfl)
  (hl : l.setIfInBounds i true = l' := by (simp only [List.setIfInBounds_toArray, List.set_cons_zero, List.set_cons_succ]; rfl)) (hc : anyB md ops l l' i = true := by kernel_rfl)
  (hQ : ∀ c a w, Q (.panic c) (a.put oi.dst v) w → Q (.panic c) a w := by exact fun _ _ _ h => h) (hw : Region.wanted oi (yielded ops a.tmps) = true := by exact rfl)
  (hy : ∀ w, (execOp a.eval oi).run P w = .ok (.value v) w := by (intro w'; go_simp; with_reducible rfl))
  (ha : a.put N v = a' := by (simp only [Act.put, List.setIfInBounds_toArray, List.set_cons_zero, List.set_cons_succ, i64_w, i32_w]; rfl))
  (h : wpAnyLast P md ops Q S ds fuel l' a' w) : wpAnyLast P md ops Q S ds (fuel + 1) l a w := pure_ l' hi hN hc hQ (.inl ⟨hw, hy⟩) ha h
theorem tk_ (i : Nat) (N : Option Tmp) (hi : ops[i]? = some oi := by exact rfl) (hN : oi.dst = N := by exact rfl)
  (hl : l.setIfInBounds i true = l' := by (simp only [List.setIfInBounds_toArray, List.set_cons_zero, List.set_cons_succ]; rfl)) (hc : takeB md ops ds l l' i = true := by kernel_rfl)
  (hQ : ∀ c a w, Q (.panic c) (a.put oi.dst v) w → Q (.panic c) a w := by exact fun _ _ _ h => h) (hw : Region.wanted oi (yielded ops a.tmps) = true := by exact rfl)
  (hy : ∀ w, S w → (execOp a.eval oi).run P w = .ok (.value v) w) (hS : S w)
  (ha : a.put N v = a' := by (simp only [Act.put, List.setIfInBounds_toArray, List.set_cons_zero, List.set_cons_succ, i64_w, i32_w]; rfl))
  (h : wpAnyLast P md ops Q S ds fuel l' a' w) : wpAnyLast P md ops Q S ds (fuel + 1) l a w := take_ l' hi hN hc hQ (.inl ⟨hw, hy⟩) hS ha h
theorem on_ (i : Nat) (N : Option Tmp) (hi : ops[i]? = some oi := by exact rfl) (hN : oi.dst = N := by exact rfl)
  (hl : l.setIfInBounds i true = l' := by (simp only [List.setIfInBounds_toArray, List.set_cons_zero, List.set_cons_succ]; rfl)) (hc : readyB md ops l l' i = true := by kernel_rfl) (hd : i ∉ ds := by decide)
  (h : ∀ K : Act → World → Prop, Shut (∀ a' w', S w' → (S w' → wpAnyLast P md ops Q S ds fuel l' a' w') → K a' w') → if Region.wanted oi (yielded ops a.tmps) = true then Oper.wp P oi a w K Q else K (a.put N undef) w) :
  wpAnyLast P md ops Q S ds (fuel + 1) l a w := one_ l' hi hN hc hd h
theorem la_ (i : Nat) (N : Option Tmp) (hi : ops[i]? = some oi := by exact rfl) (hN : oi.dst = N := by exact rfl)
  (hl : l.setIfInBounds i true = l' := by (simp only [List.setIfInBounds_toArray, List.set_cons_zero, List.set_cons_succ]; rfl)) (hc : readyB md ops l l' i = true := by kernel_rfl) (hd : i ∈ ds := by decide)
  (h : ∀ K : Act → World → Prop, Shut (∀ a' w', wpAnyLast P md ops Q S ds fuel l' a' w' → K a' w') → if Region.wanted oi (yielded ops a.tmps) = true then Oper.wp P oi a w K Q else K (a.put N undef) w) :
  wpAnyLast P md ops Q S ds (fuel + 1) l a w := last_ l' hi hN hc hd h
theorem nm_ (N : Option Tmp) (v : Value) (ha : a.put N v = a' := by (simp only [Act.put, List.setIfInBounds_toArray, List.set_cons_zero, List.set_cons_succ, i64_w, i32_w]; rfl)) (h : wpAnyLast P md ops Q S ds fuel l a' w) : wpAnyLast P md ops Q S ds fuel l (a.put N v) w := norm_ ha h
theorem va_ {N : Option Tmp} {K : Act → World → Prop} (hrun : (execOp a.eval oi).run P w = .ok (.value v) w1 := by (go_simp; constructor; rfl; rfl)) (hw : Region.wanted oi (yielded ops a.tmps) = true := by exact rfl) (hN : oi.dst = N := by exact rfl) 
  (h : K (a.put N v) w1) : if Region.wanted oi (yielded ops a.tmps) = true then Oper.wp P oi a w K Q else K (a.put N undef) w := value_ hw hN hrun h
theorem sk_ {K : Act → World → Prop} (hrun : (execOp a.eval oi).run P w = .ok .skip w1 := by (go_simp; rfl)) (hw : Region.wanted oi (yielded ops a.tmps) = true := by exact rfl) (hN : oi.dst = none := by exact rfl)
  (h : K a w1) : if Region.wanted oi (yielded ops a.tmps) = true then Oper.wp P oi a w K Q else K (a.put none undef) w := skip_ hw hN hrun h
end
end Go.Proofs.YtikbfjnbhogihaaGreatDoor.Bk
/- slices.SortFunc at labels by their names: the row holds them in order. -/
namespace Go.Proofs.YtikbfjnbhogihaaGreatDoor.M
open Go.RowKit Go.Shelf Go.Sort Go.Proofs.YtikbfjnbhogihaaGreatDoor.CanSort Go.Proofs.YtikbfjnbhogihaaGreatDoorW.PrintWords Go.Proofs.YtikbfjnbhogihaaGreatDoorW.PrintLast Go.Proofs.YtikbfjnbhogihaaGreatDoorW.PrintMore
set_option linter.unusedVariables false
set_option linter.unusedSimpArgs false
namespace Srt
def enc (x : Lb) : List Value := [.string x.f0, .string x.f1]
set_option maxHeartbeats 1000000 in
theorem closure (x y : Lb) (W : World) : Calls Tryz.prog 178 #[.agg #[.string x.f0, .string x.f1], .agg #[.string y.f0, .string y.f1]] W fun e w' => e = .returned (.int .i64 (cf x y)) ∧ ∃ q os', w' = grow (W.drewN q) os' := by
 obtain ⟨r, hr⟩ : ∃ r, r = cf x y := ⟨_, rfl⟩
 have hc := fun W' => Tryz.strings_Compare x.f0 y.f0 W'
 have e : Lib.compareBytes x.f0.data.toList y.f0.data.toList = r := hr.symm
 rw [e] at hc
 rw [← hr]
 clear e hr
 go_enter Tryz.func178, Tryz.ntmps178
 go_wp2_with fail
 refine (hc _).mono ?_
 rintro e w' ⟨rfl, rfl⟩
 go_wp2_with fail
 go_ret
 exact ⟨rfl, 0, _, by rw [alloc_eq_grow, alloc_eq_grow, grow_grow]; rfl⟩
theorem lays (blk off size : Nat) (w : World) : CmpLays Tryz.prog 178 #[] enc 2 cf blk off size w := fun _ _ _ _ x y => closure x y _
theorem flat_at (d : Array Lb) (t : Nat) (h : t < d.size * 2) : (flatK enc 2 d)[t]! = if t % 2 = 0 then .string (d[t / 2]!).f0 else .string (d[t / 2]!).f1 := by
 rw [get_flatK enc 2 d t h]
 have : t % 2 = 0 ∨ t % 2 = 1 := by omega
 rcases this with h | h <;> rw [h] <;> rfl
theorem flat_seg (d : Array Lb) (j : Nat) (hj : j < d.size) : ((flatK enc 2 d).toList.drop (j * 2)).take 2 = enc d[j]! := by
 have hs : (flatK enc 2 d).size = d.size * 2 := size_flatK enc 2 d
 have g : ∀ i, i < 2 → (flatK enc 2 d).toList[j * 2 + i]? = (enc d[j]!)[i]? := by
  intro i hi
  have hlt : j * 2 + i < (flatK enc 2 d).size := by omega
  rw [Array.getElem?_toList, Array.getElem?_eq_getElem hlt, ← getElem!_pos (flatK enc 2 d) _ hlt, get_flatK enc 2 d _ (by omega), show (j * 2 + i) / 2 = j by omega, show (j * 2 + i) % 2 = i by omega]
  have : i = 0 ∨ i = 1 := by omega
  rcases this with rfl | rfl <;> rfl
 apply List.ext_getElem?
 intro i
 by_cases hi : i < 2
 ·rw [List.getElem?_take_of_lt hi, List.getElem?_drop, g i hi]
 ·rw [List.getElem?_eq_none (by simp; omega), List.getElem?_eq_none (by simp [enc]; omega)]
theorem put_take (F cur : Array Value) (h : F.size ≤ cur.size) : (putCells id 0 F cur).toList.take F.size = F.toList := by
 apply List.ext_getElem?
 intro i
 by_cases hi : i < F.size
 ·rw [List.getElem?_take_of_lt hi, Array.getElem?_toList, Array.getElem?_toList]
  unfold putCells
  rw [Array.getElem?_mapIdx, Array.getElem?_eq_getElem (by omega), Array.getElem?_eq_getElem hi]
  simp only [Option.map_some, Nat.zero_add, Nat.sub_zero, id]
  rw [if_pos ⟨Nat.zero_le _, hi⟩, getElem!_pos F i hi]
 ·rw [List.getElem?_eq_none (by simp; omega), List.getElem?_eq_none (by simp; omega)]
theorem put_size (F cur : Array Value) : (putCells id 0 F cur).size = cur.size := by unfold putCells; simp
theorem reps_flat {w : World} {base : Nat} {ok : Nat → Prop} (d : Array Lb) : Reps (k141.M w base ok) k141.sz d.toList (flatK enc 2 d).toList := by
 refine ⟨by rw [Array.length_toList, Array.length_toList, size_flatK]; rfl, fun j p hp => ?_⟩
 have hj : j < d.size := by
  have := (List.getElem?_eq_some_iff.1 hp).1
  simpa using this
 have e : d[j]! = p := by
  rw [getElem!_pos d j hj]
  rw [Array.getElem?_toList, Array.getElem?_eq_getElem hj] at hp
  exact Option.some.inj hp
 rw [show k141.sz = 2 from rfl, flat_seg d j hj, e]
 exact k141_mkM w base ok p
theorem reps_eq {w : World} {base : Nat} {ok : Nat → Prop} (d : Array Lb) (inner : List Value) (h : Reps (k141.M w base ok) k141.sz d.toList inner) (t : Nat) (ht : t < d.size * 2) : inner[t]? = some (flatK enc 2 d)[t]! := by
 have hj : t / 2 < d.size := by omega
 have hp : d.toList[t / 2]? = some d[t / 2]! := by rw [Array.getElem?_toList, Array.getElem?_eq_getElem hj, getElem!_pos d _ hj]
 have h2 := k141_openM (h.2 (t / 2) _ hp)
 have h3 : ((inner.drop (t / 2 * 2)).take 2)[t % 2]? = (enc d[t / 2]!)[t % 2]? := congrArg (fun l : List Value => l[t % 2]?) h2
 rw [List.getElem?_take_of_lt (by omega), List.getElem?_drop, show t / 2 * 2 + t % 2 = t by omega] at h3
 rw [h3, get_flatK enc 2 d t ht]
 have : t % 2 = 0 ∨ t % 2 = 1 := by omega
 rcases this with h | h <;> rw [h] <;> rfl
end Srt
noncomputable def impl_Label_177.f (l : List S141) : Option (List S141) := @ite _ (CanSort.Once l ∧ l.length < 4611686018427387904) (Classical.propDecidable _) (some (CanSort.order l)) none
set_option maxHeartbeats 1000000 in
theorem impl_Label_177.calls (P0 : Nat → Prop) (u : Value) (l r : List S141) (w0 w : World) (hB : Below w0.heap.size w0 w) (ho : Kd.R k141 141 w w0.heap.size P0 u l)
  (h : impl_Label_177.f l = some r) :
  Calls Tryz.prog 177 #[u, .func (.func 178) #[] #[]] w fun e w' => e = .returned (.tuple #[]) ∧ Kd.R k141 141 w' w0.heap.size (fun k => P0 k ∨ w.heap.size ≤ k) u r ∧ Below w0.heap.size w0 w' ∧ Kept w w' (fun k => P0 k) := by
 unfold impl_Label_177.f at h
 by_cases hz : CanSort.Once l ∧ l.length < 4611686018427387904
 ·rw [if_pos hz] at h
  obtain rfl := Option.some.inj h
  obtain ⟨hok, inner, hown, hreps⟩ := ho
  rcases hown.2 with ⟨rfl, hn⟩ | ⟨g, cap, cur, rfl, hbg, hx, hcap, hmax, hcs, htk⟩
  ·obtain rfl : l = [] := List.length_eq_zero_iff.1 hn
   refine (AnyF.slices_SortFunc_none Tryz.sortL none 0 (.func (.func 178) #[] #[]) w).mono ?_
   rintro e w' ⟨rfl, rfl⟩
   exact ⟨rfl, Kd.R_nil _ _ _ _ _, hB, Kept.refl _ _⟩
  ·obtain ⟨d, hd⟩ : ∃ d : Array S141, d.toList = l := ⟨l.toArray, by simp⟩
   subst hd
   have hlen : d.toList.length = d.size := Array.length_toList
   have hglt : g < w.heap.size := blk_lt hx
   have hil : inner.length = d.size * 2 := by rw [hown.1, hlen]; rfl
   have hH : HoldsK Srt.enc 2 w g 0 d := by
    intro t ht
    rw [size_flatK] at ht
    have h1 := Srt.reps_eq d inner hreps t ht
    have h2 : cur.toList[t]? = some (flatK Srt.enc 2 d)[t]! := by
     rw [← htk, List.getElem?_take_of_lt (by rw [hlen]; exact ht)] at h1
     exact h1
    refine ⟨?_, blk_frozen hx _⟩
    rw [Nat.zero_add]
    refine (blk_cell hx t).trans ?_
    rw [← Array.getElem?_toList, h2]; rfl
   have eg : ∀ args w, (callFunc 178 args).run Tryz.prog w = .ok (.enter 178 args) w := enters_of Tryz.func178 (by kernel_rfl) rfl
   have hcon := AnyQ.slices_SortFunc Tryz.sortL 2 Tryz.isAgg141 Tryz.sizeOf141 Srt.enc (fun _ => rfl) (fun x v hv => by simp [Srt.enc] at hv; rcases hv with rfl | rfl <;> rfl) cf swo 178 #[] g 0 cap d w eg (Srt.lays g 0 d.size w) hH hglt (by rw [← hlen]; exact hz.2)
   rw [hlen]
   refine Calls.mono hcon ?_
   rintro e w' ⟨rfl, d', n, os, hp, hs, rfl⟩
   have hord := sorted_order d d' hp hs hz.1
   have hd' : d'.size = d.size := hp.1
   have hw : ∀ k, k < w.heap.size → (sortWorldK Srt.enc 2 w g 0 n d' os).heap[k]? = if k = g then some (.cells (putCells id 0 (flatK Srt.enc 2 d') cur) 141 (0, 0)) else w.heap[k]? := by
    intro k hk
    show ((w.heap.modify g (onCells (putCells id 0 (flatK Srt.enc 2 d')))) ++ os)[k]? = _
    rw [Array.getElem?_append_left (by simpa using hk), Array.getElem?_modify]
    by_cases hkg : g = k
    ·subst hkg
     rw [if_pos rfl, if_pos rfl, hx]; rfl
    ·rw [if_neg hkg, if_neg (fun e => hkg e.symm)]
   have hsz : w.heap.size ≤ (sortWorldK Srt.enc 2 w g 0 n d' os).heap.size := by
    show _ ≤ ((w.heap.modify g (onCells (putCells id 0 (flatK Srt.enc 2 d')))) ++ os).size
    simp
   have hf : (flatK Srt.enc 2 d').size = d.size * 2 := by rw [size_flatK, hd']
   have hge : w0.heap.size ≤ g := hbg
   refine ⟨rfl, ⟨fun k hk => .inl (hok k hk), (flatK Srt.enc 2 d').toList, ⟨?_, .inr ⟨g, cap, putCells id 0 (flatK Srt.enc 2 d') cur, ?_, hbg, ?_, ?_, hmax, ?_, ?_⟩⟩, ?_⟩, ⟨hB.os, hB.tape, hB.output, Nat.le_trans hB.size hsz, fun k hk => ?_⟩, ⟨hsz, fun k hk hn => ?_⟩⟩
   ·rw [← hord, Array.length_toList, Array.length_toList, hf, hd']; rfl
   ·rw [← hord, Array.length_toList, hd']
   ·rw [hw g hglt, if_pos rfl]
   ·rw [← hord, Array.length_toList, hd']; rw [hlen] at hcap; exact hcap
   ·rw [Srt.put_size]; exact hcs
   ·rw [← hord, Array.length_toList, show d'.size * k141.sz = (flatK Srt.enc 2 d').size by rw [size_flatK]; rfl]
    exact Srt.put_take _ _ (by rw [hf, hcs, show k141.sz = 2 from rfl]; rw [hlen] at hcap; omega)
   ·rw [← hord]; exact Srt.reps_flat d'
   ·have hkw : k < w.heap.size := Nat.lt_of_lt_of_le hk hB.size
    rw [hw k hkw, if_neg (by omega)]
    exact hB.block k hk
   ·rw [hw k hk, if_neg (fun e => hn (by subst e; exact hok _ (by simp [Value.ownBlock])))]
 ·rw [if_neg hz] at h; cases h
end Go.Proofs.YtikbfjnbhogihaaGreatDoor.M
/- ConfigOK, the reference's and the program's: their walks by hand, and what both answer. -/
namespace Go.Proofs.YtikbfjnbhogihaaGreatDoor.M
open Go.RowKit Go.Proofs.YtikbfjnbhogihaaGreatDoorW.PrintWords Go.Proofs.YtikbfjnbhogihaaGreatDoorW.PrintLast Go.Proofs.YtikbfjnbhogihaaGreatDoorW.PrintMore
set_option linter.unusedVariables false
set_option linter.unusedSimpArgs false
namespace St
theorem and_split {R p q b : Bool} (h : R = (p && q)) (hb : p = b) : (b = true ∧ R = q) ∨ (b = false ∧ R = false) := by
 subst hb; cases p <;> simp_all
theorem sbetw_c (x lo hi : Int) (w : World) : Calls Tryz.prog 48 #[.int .i64 x, .int .i64 lo, .int .i64 hi] w fun e w' => ∃ b, e = .returned (.bool b) ∧ decide (lo ≤ x ∧ x ≤ hi) = b ∧ Drawn0 w w' := by
 refine (spec_l1Between.calls x lo hi (decide (lo ≤ x ∧ x ≤ hi)) w ?_).mono ?_
 ·unfold spec_l1Between.f
  by_cases h : lo ≤ x
  ·rw [if_pos h]; simp [h]
  ·rw [if_neg h]; simp [h]
 ·rintro e w' ⟨rfl, h⟩
  exact ⟨_, rfl, rfl, h⟩
theorem ibetw_c (x lo hi : Int) (w : World) : Calls Tryz.prog 55 #[.int .i64 x, .int .i64 lo, .int .i64 hi] w fun e w' => ∃ b, e = .returned (.bool b) ∧ decide (lo ≤ x ∧ x ≤ hi) = b ∧ Drawn0 w w' := by
 refine (impl_between.calls x lo hi (decide (lo ≤ x ∧ x ≤ hi)) w ?_).mono ?_
 ·unfold impl_between.f
  by_cases h : lo ≤ x
  ·rw [if_pos h]; simp [h]
  ·rw [if_neg h]; simp [h]
 ·rintro e w' ⟨rfl, h⟩
  exact ⟨_, rfl, rfl, h⟩
def cfgB (a b c d e f : Int) : Bool := decide (1 ≤ a ∧ a ≤ 1000000000) && (decide (0 ≤ b ∧ b ≤ 1000000) && (decide (0 ≤ c ∧ c ≤ 1000000) && (decide (1 ≤ d ∧ d ≤ 64) && (decide (0 ≤ e ∧ e ≤ 2) && (decide (100 ≤ f ∧ f ≤ 1000000) && true)))))
end St
def spec_ConfigOK.f (a b c d e f : Int) : Option Bool := some (St.cfgB a b c d e f)
set_option maxHeartbeats 2000000 in
set_option maxRecDepth 100000 in
theorem spec_ConfigOK.calls (a b c d e f : Int) (r : Bool) (w : World) (h : spec_ConfigOK.f a b c d e f = some r) :
  Calls Tryz.prog 47 #[.agg #[.int .i64 a, .int .i64 b, .int .i64 c, .int .i64 d, .int .i64 e, .int .i64 f]] w fun x w' => x = .returned (.bool r) ∧ Below w.heap.size w w' := by
 have hu := Tryz.underlying29
 have HV := Aside0.mk (Option.some.inj h).symm
 clear h
 go_enter Tryz.func47, Tryz.ntmps47
 go_wp2_with (go_at_call 48; refine (St.sbetw_c _ _ _ _).mono ?_; rintro e w' ⟨b, rfl, hb, ⟨nd, rfl⟩⟩; rcases St.and_split HV.out hb with ⟨rfl, h⟩ | ⟨rfl, h⟩ <;> (clear HV hb; have HV := Aside0.mk h; clear h))
 all_goals
  go_ret
  exact ⟨by rw [HV.out]; rfl, by repeat (first | apply below_alloc | apply pw_below_drewN | exact Below.refl _ _)⟩
def impl_ConfigOK.f (a b c d e f : Int) : Option Bool := some (St.cfgB a b c d e f)
set_option maxHeartbeats 2000000 in
set_option maxRecDepth 100000 in
theorem impl_ConfigOK.calls (a b c d e f : Int) (r : Bool) (w : World) (h : impl_ConfigOK.f a b c d e f = some r) :
  Calls Tryz.prog 54 #[.agg #[.int .i64 a, .int .i64 b, .int .i64 c, .int .i64 d, .int .i64 e, .int .i64 f]] w fun x w' => x = .returned (.bool r) ∧ Below w.heap.size w w' := by
 have hu := Tryz.underlying29
 have HV := Aside0.mk (Option.some.inj h).symm
 clear h
 go_enter Tryz.func54, Tryz.ntmps54
 go_wp2_with (go_at_call 55; refine (St.ibetw_c _ _ _ _).mono ?_; rintro e w' ⟨b, rfl, hb, ⟨nd, rfl⟩⟩; rcases St.and_split HV.out hb with ⟨rfl, h⟩ | ⟨rfl, h⟩ <;> (clear HV hb; have HV := Aside0.mk h; clear h))
 all_goals
  go_ret
  exact ⟨by rw [HV.out]; rfl, by repeat (first | apply below_alloc | apply pw_below_drewN | exact Below.refl _ _)⟩
end Go.Proofs.YtikbfjnbhogihaaGreatDoor.M
/- newAccount, its order of sights, push and pop: walked. -/
namespace Go.Proofs.YtikbfjnbhogihaaGreatDoor.Bk
open Go.RowKit Go.Proofs.YtikbfjnbhogihaaGreatDoor.M Go.Proofs.YtikbfjnbhogihaaGreatDoor.Loops Go.Proofs.YtikbfjnbhogihaaGreatDoorW.PrintWords Go.Proofs.YtikbfjnbhogihaaGreatDoorW.PrintLast Go.Proofs.YtikbfjnbhogihaaGreatDoorW.PrintMore
set_option linter.unusedVariables false
set_option linter.unusedSimpArgs false
def A0 (n : Nat) : Ac := ⟨-1, n, n + 1, n + 2, .slice none 0 0, [], [], [], []⟩
structure Hq (w0 w : World) (a : Nat) (l : Int) (m s c : Nat) (v : Value) (its : List Sg) : Prop where
 blk : w.heap[a]? = some (cA l m s c v)
 row : Kd.R k93 169 w w0.heap.size (fun _ => True) v its
 low : w0.heap.size ≤ a
 bel : Below w0.heap.size w0 w
 ok : Hp.Ok (Hp.fn (·.f1) z93 its) its.length
structure Hk (w0 w wr : World) (a : Nat) (l : Int) (m s c : Nat) (v : Value) (n : Nat) (its : List Sg) (x : List Sg) (S : Nat → Prop) : Prop where
 blk : wr.heap[a]? = some (cA l m s c v)
 row : Kd.R k93 169 wr w0.heap.size (fun _ => True) v its
 bel : Below w0.heap.size w0 wr
 len : its.length = n
 perm : its.Perm x
 kep : Kept w wr S
 own : ∀ i, v.ownBlock = some i → S i ∨ w.heap.size ≤ i
theorem seg2 {w : World} {b g n cp : Nat} {q : List Sg} (h : Kd.R k93 169 w b (fun _ => True) (.slice (some ⟨g, 0, none⟩) n cp) q) (i : Nat) (hi : i < n) (y : Sg) :
  Kd.R k93 169 ((w.setCell ⟨g, i * 2, none⟩ (.string y.f0)).setCell ⟨g, i * 2 + 1, none⟩ (.int .i64 y.f1)) b (fun _ => True) (.slice (some ⟨g, 0, none⟩) n cp) (q.set i y) := by
 obtain ⟨c, e, hM, hc, hf⟩ := Kd.R_elem h z93 (i : Int) (by omega) (by omega)
 have r := (Kd.R_seg h (i : Int) (by omega) (by omega) (c := c) (seg := [.string y.f0, .int .i64 y.f1]) (j := 0) e hc (Nat.le_refl _) (x' := y) (okp := fun _ => False)
  (by rw [List.drop_eq_nil_of_le (by rw [e]; exact Nat.le_refl _)]; exact k93_mkM _ _ _ y) (fun _ hk => hk.elim)).1
 rw [Int.toNat_natCast] at r
 exact r
theorem Hk.swap {w0 w wr : World} {a : Nat} {l : Int} {m s c g cp n : Nat} {q x : List Sg} {S : Nat → Prop} (h : Hk w0 w wr a l m s c (.slice (some ⟨g, 0, none⟩) n cp) n q x S) (i p : Nat) (hi : i < n) (hp : p < n) (xi xp : Sg) (ei : q.getD i z93 = xi) (ep : q.getD p z93 = xp) :
  Hk w0 w ((((wr.setCell ⟨g, i * 2, none⟩ (.string xp.f0)).setCell ⟨g, i * 2 + 1, none⟩ (.int .i64 xp.f1)).setCell ⟨g, p * 2, none⟩ (.string xi.f0)).setCell ⟨g, p * 2 + 1, none⟩ (.int .i64 xi.f1)) a l m s c (.slice (some ⟨g, 0, none⟩) n cp) n (Hp.sw z93 q i p) x S := by
 have hg := h.own g rfl
 have hne : a ≠ g := fun e => by
  obtain ⟨cells, hc⟩ := Kd.R_typed h.row g rfl
  rw [← e, h.blk] at hc
  cases hc
 have hb : w0.heap.size ≤ g := by
  rcases Kd.R_base2 h.row with h1 | ⟨k, h1, h2⟩
  ·cases h1
  ·cases h1; exact h2
 refine ⟨blk_far (blk_far (blk_far (blk_far h.blk hne _) hne _) hne _) hne _, ?_, below_set (below_set (below_set (below_set h.bel hb) hb) hb) hb, (Hp.sw_len _ _ _ _).trans h.len, (Hp.sw_perm _ _ _ _ (by rw [h.len]; exact hi) (by rw [h.len]; exact hp)).trans h.perm, (((h.kep.setCell hg _).setCell hg _).setCell hg _).setCell hg _, h.own⟩
 have r := seg2 (seg2 h.row i hi xp) p hp xi
 unfold Hp.sw
 rw [ei, ep]
 exact r
end Go.Proofs.YtikbfjnbhogihaaGreatDoor.Bk
namespace Go.Proofs.YtikbfjnbhogihaaGreatDoor.M
open Go.RowKit Go.Proofs.YtikbfjnbhogihaaGreatDoorW.PrintWords Go.Proofs.YtikbfjnbhogihaaGreatDoorW.PrintLast Go.Proofs.YtikbfjnbhogihaaGreatDoorW.PrintMore
attribute [local go_sem] max2_int min2_int max_two min_two max_three min_three max_four min_four
set_option linter.unusedVariables false
set_option linter.unusedSimpArgs false
/-! ### laws_eqStringS: function 70 -/
def laws_eqStringS.l0 : Nat → List ByteArray → List ByteArray → Int → Option (Bool)
 | 0, _, _, _ => none
 | k + 1, x0, x1, x5 => if x5 < (x0.length : Int) then (if 0 ≤ x5 then (if x5 < (x1.length : Int) then (if (rdOf ByteArray.empty x0 x5).toList = (rdOf ByteArray.empty x1 x5).toList then (laws_eqStringS.l0 k x0 x1 (wrap64 (x5 + 1))) else (some false)) else (none)) else (none)) else (some true)
def laws_eqStringS.f (k : Nat) (l0 : List ByteArray) (l1 : List ByteArray) : Option (Bool) := if (l0.length : Int) = (l1.length : Int) then (laws_eqStringS.l0 k l0 l1 0) else (some false)
set_option maxHeartbeats 8000000 in
set_option maxRecDepth 100000 in
theorem laws_eqStringS.calls (k : Nat) (A0 : Option Addr) (c0 : Nat) (l0 : List ByteArray) (A1 : Option Addr) (c1 : Nat) (l1 : List ByteArray) (r : Bool) (w : World) (hr0 : Kd.C Kd.string w A0 l0.length l0) (hc0 : l0.length ≤ c0) (hr1 : Kd.C Kd.string w A1 l1.length l1) (hc1 : l1.length ≤ c1) (h : laws_eqStringS.f k l0 l1 = some r) :
  Calls Tryz.prog 70 #[.slice A0 l0.length c0, .slice A1 l1.length c1] w fun e w' => e = .returned (.bool r) ∧ Drawn0 w w' := by
 have HR0 := Aside0.mk hr0
 have HC0 := Aside0.mk hc0
 clear hr0 hc0
 have HR1 := Aside0.mk hr1
 have HC1 := Aside0.mk hc1
 clear hr1 hc1
 have H : (if (l0.length : Int) = (l1.length : Int) then (laws_eqStringS.l0 k l0 l1 0) else (some false)) = some r := h
 clear h
 by_cases c3 : (l0.length : Int) = (l1.length : Int)
 ·rw [if_pos c3] at H
  have c3b0 : ((l0.length : Int) == (l1.length : Int)) = true := beq_iff_eq.mpr c3
  have c3b1 : ((l0.length : Int) != (l1.length : Int)) = false := bne_eq_false_iff_eq.mpr c3
  have c3b2 : (l0.length == l1.length) = true := by first | simpa using c3 | (simp at c3 ⊢; omega)
  clear c3
  have H' := Aside0.mk H
  clear H
  go_enter Tryz.func70, Tryz.ntmps70
  go_wp2
  repeat (go_quiet (fail); try go_wp2)
  go_loopg [5] k (fun kq v5 w' => ∃ (x5_1 : Int), v5 = .int .i64 x5_1 ∧ Aside0 (laws_eqStringS.l0 kq l0 l1 x5_1 = some r) ∧ Aside0 (kq ≤ k) ∧ Drawn0 w w')
  case atStart => exact ⟨(0), (by first | rfl | (simp; done) | (simp [*]; done)), H', ⟨Nat.le_refl _⟩, by repeat (first | exact Drawn0.refl _ | apply Drawn0.step)⟩
  case round =>
   clear H'
   try clear c1
   try clear p2
   try clear c3
   try clear c3b0
   try clear c3b1
   try clear c3b2
   obtain ⟨x5_1, rfl, HA, HK1, ⟨m1, rfl⟩⟩ := hrel
   cases gk with
   | zero => exact absurd HA.out (by simp [laws_eqStringS.l0])
   | succ k1 =>
    have H := HA.out
    clear HA
    simp only [laws_eqStringS.l0] at H
    by_cases c4 : x5_1 < (l0.length : Int)
    ·rw [if_pos c4] at H
     have c4b0 : decide (x5_1 < (l0.length : Int)) = true := decide_eq_true c4
     clear c4
     by_cases c5 : 0 ≤ x5_1
     ·rw [if_pos c5] at H
      have c5b0 : decide (0 ≤ x5_1) = true := decide_eq_true c5
      clear c5
      by_cases c6 : x5_1 < (l1.length : Int)
      ·rw [if_pos c6] at H
       have c6b0 : decide (x5_1 < (l1.length : Int)) = true := decide_eq_true c6
       clear c6
       by_cases c7 : (rdOf ByteArray.empty l0 x5_1).toList = (rdOf ByteArray.empty l1 x5_1).toList
       ·rw [if_pos c7] at H
        have c7b0 : ((rdOf ByteArray.empty l0 x5_1).toList == (rdOf ByteArray.empty l1 x5_1).toList) = true := beq_iff_eq.mpr c7
        have c7b1 : ((rdOf ByteArray.empty l0 x5_1).toList != (rdOf ByteArray.empty l1 x5_1).toList) = false := bne_eq_false_iff_eq.mpr c7
        clear c7
        have H' := Aside0.mk H
        clear H
        have p471 : 0 ≤ (x5_1 : Int) := of_decide_eq_true (by first | (with_reducible assumption) | assumption)
        have q471 : x5_1 < (l0.length : Int) := of_decide_eq_true (by first | (with_reducible assumption) | assumption)
        obtain ⟨ad471, e471, hx471_0⟩ := Kd.at_string HR0.out x5_1 p471 q471
        cases e471
        replace p471 := eq_true p471
        replace q471 := eq_true q471
        have p472 : 0 ≤ (x5_1 : Int) := of_decide_eq_true (by first | (with_reducible assumption) | assumption)
        have q472 : x5_1 < (l1.length : Int) := of_decide_eq_true (by first | (with_reducible assumption) | assumption)
        obtain ⟨ad472, e472, hx472_0⟩ := Kd.at_string HR1.out x5_1 p472 q472
        cases e472
        replace p472 := eq_true p472
        replace q472 := eq_true q472
        go_wp2
        repeat (go_quiet (fail); try go_wp2)
        go_roundg k1
        case measure => have := HK1.out; omega
        case rel => exact ⟨(wrap64 (x5_1 + 1)), (by first | rfl | (simp; done) | (simp [*]; done)), H', ⟨by have := HK1.out; omega⟩, by repeat (first | exact Drawn0.refl _ | apply Drawn0.step)⟩
       ·rw [if_neg c7] at H
        have c7b0 : ((rdOf ByteArray.empty l0 x5_1).toList == (rdOf ByteArray.empty l1 x5_1).toList) = false := beq_eq_false_iff_ne.mpr c7
        have c7b1 : ((rdOf ByteArray.empty l0 x5_1).toList != (rdOf ByteArray.empty l1 x5_1).toList) = true := bne_iff_ne.mpr c7
        obtain rfl := Option.some.inj H
        have p471 : 0 ≤ (x5_1 : Int) := of_decide_eq_true (by first | (with_reducible assumption) | assumption)
        have q471 : x5_1 < (l0.length : Int) := of_decide_eq_true (by first | (with_reducible assumption) | assumption)
        obtain ⟨ad471, e471, hx471_0⟩ := Kd.at_string HR0.out x5_1 p471 q471
        cases e471
        replace p471 := eq_true p471
        replace q471 := eq_true q471
        have p472 : 0 ≤ (x5_1 : Int) := of_decide_eq_true (by first | (with_reducible assumption) | assumption)
        have q472 : x5_1 < (l1.length : Int) := of_decide_eq_true (by first | (with_reducible assumption) | assumption)
        obtain ⟨ad472, e472, hx472_0⟩ := Kd.at_string HR1.out x5_1 p472 q472
        cases e472
        replace p472 := eq_true p472
        replace q472 := eq_true q472
        go_wp2
        repeat (go_quiet (fail); try go_wp2)
        go_ret
        exact ⟨by first | rfl | (simp; done) | (simp [*]; done), by repeat (first | exact Drawn0.refl _ | apply Drawn0.step)⟩
      ·rw [if_neg c6] at H
       exact absurd H (by simp)
     ·rw [if_neg c5] at H
      exact absurd H (by simp)
    ·rw [if_neg c4] at H
     have c4b0 : decide (x5_1 < (l0.length : Int)) = false := decide_eq_false c4
     clear c4
     obtain rfl := Option.some.inj H
     go_wp2
     repeat (go_quiet (fail); try go_wp2)
     go_ret
     exact ⟨by first | rfl | (simp; done) | (simp [*]; done), by repeat (first | exact Drawn0.refl _ | apply Drawn0.step)⟩
 ·rw [if_neg c3] at H
  have c3b0 : ((l0.length : Int) == (l1.length : Int)) = false := beq_eq_false_iff_ne.mpr c3
  have c3b1 : ((l0.length : Int) != (l1.length : Int)) = true := bne_iff_ne.mpr c3
  have c3b2 : (l0.length == l1.length) = false := by first | simpa using c3 | (simp at c3 ⊢; omega)
  obtain rfl := Option.some.inj H
  go_enter Tryz.func70, Tryz.ntmps70
  go_wp2
  repeat (go_quiet (fail); try go_wp2)
  go_ret
  exact ⟨by first | rfl | (simp; done) | (simp [*]; done), by repeat (first | exact Drawn0.refl _ | apply Drawn0.step)⟩
end Go.Proofs.YtikbfjnbhogihaaGreatDoor.M
