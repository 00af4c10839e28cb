/- slices.SortFunc at labels by their names: the row holds them in order. -/
import Derived.Shelf.SlSortCmp.WholeK
import Derived.Shelf.SlSortCmp.NoneTotal
import Derived.WalkKit
import Derived.Test.YtdfgfhnbcifheaaDoorCanSort
import Derived.Test.YtdfgfhnbcifheaaDoorShelf
import Derived.Test.YtdfgfhnbcifheaaDoorSShelf
namespace Go.Proofs.YtdfgfhnbcifheaaDoor.M
open Go.RowKit Go.Shelf Go.Sort Go.Proofs.YtdfgfhnbcifheaaDoor.CanSort Go.Proofs.YtdfgfhnbcifheaaDoorW.PrintWords Go.Proofs.YtdfgfhnbcifheaaDoorW.PrintLast Go.Proofs.YtdfgfhnbcifheaaDoorW.PrintMore
set_option linter.unusedVariables false
set_option linter.unusedSimpArgs false
namespace Srt
/-- A label's two cells. -/
def enc (x : Lb) : List Value := [.string x.f0, .string x.f1]
set_option maxHeartbeats 1000000 in
theorem closure (x y : Lb) (W : World) : Calls Tryd.prog 31 #[.agg #[.string x.f0, .string x.f1], .agg #[.string y.f0, .string y.f1]] W fun e w' => e = .returned (.int .i64 (cf x y)) ∧ ∃ q os', w' = grow (W.drewN q) os' := by
  obtain ⟨r, hr⟩ : ∃ r, r = cf x y := ⟨_, rfl⟩
  have hc := fun W' => Tryd.strings_Compare x.f0 y.f0 W'
  have e : Lib.compareBytes x.f0.data.toList y.f0.data.toList = r := hr.symm
  rw [e] at hc
  rw [← hr]
  clear e hr
  go_enter Tryd.func31, Tryd.ntmps31
  go_wp2_with fail
  refine (hc _).mono ?_
  rintro e w' ⟨rfl, rfl⟩
  go_wp2_with fail
  go_ret
  exact ⟨rfl, 0, _, by rw [alloc_eq_grow, alloc_eq_grow, grow_grow]; rfl⟩
theorem lays (blk off size : Nat) (w : World) : CmpLays Tryd.prog 31 #[] enc 2 cf blk off size w := fun _ _ _ _ x y => closure x y _
theorem flat_seg (d : Array Lb) (j : Nat) (hj : j < d.size) : ((flatK enc 2 d).toList.drop (j * 2)).take 2 = enc d[j]! := by
  have hs : (flatK enc 2 d).size = d.size * 2 := size_flatK enc 2 d
  have g : ∀ i, i < 2 → (flatK enc 2 d).toList[j * 2 + i]? = (enc d[j]!)[i]? := by
    intro i hi
    have hlt : j * 2 + i < (flatK enc 2 d).size := by omega
    rw [Array.getElem?_toList, Array.getElem?_eq_getElem hlt, ← getElem!_pos (flatK enc 2 d) _ hlt, get_flatK enc 2 d _ (by omega), show (j * 2 + i) / 2 = j by omega, show (j * 2 + i) % 2 = i by omega]
    have : i = 0 ∨ i = 1 := by omega
    rcases this with rfl | rfl <;> rfl
  apply List.ext_getElem?
  intro i
  by_cases hi : i < 2
  · rw [List.getElem?_take_of_lt hi, List.getElem?_drop, g i hi]
  · rw [List.getElem?_eq_none (by simp; omega), List.getElem?_eq_none (by simp [enc]; omega)]
theorem put_take (F cur : Array Value) (h : F.size ≤ cur.size) : (putCells id 0 F cur).toList.take F.size = F.toList := by
  apply List.ext_getElem?
  intro i
  by_cases hi : i < F.size
  · rw [List.getElem?_take_of_lt hi, Array.getElem?_toList, Array.getElem?_toList]
    unfold putCells
    rw [Array.getElem?_mapIdx, Array.getElem?_eq_getElem (by omega), Array.getElem?_eq_getElem hi]
    simp only [Option.map_some, Nat.zero_add, Nat.sub_zero, id]
    rw [if_pos ⟨Nat.zero_le _, hi⟩, getElem!_pos F i hi]
  · rw [List.getElem?_eq_none (by simp; omega), List.getElem?_eq_none (by simp; omega)]
theorem put_size (F cur : Array Value) : (putCells id 0 F cur).size = cur.size := by unfold putCells; simp
theorem reps_flat {w : World} {base : Nat} {ok : Nat → Prop} (d : Array Lb) : Reps (k38.M w base ok) k38.sz d.toList (flatK enc 2 d).toList := by
  refine ⟨by rw [Array.length_toList, Array.length_toList, size_flatK]; rfl, fun j p hp => ?_⟩
  have hj : j < d.size := by
    have := (List.getElem?_eq_some_iff.1 hp).1
    simpa using this
  have e : d[j]! = p := by
    rw [getElem!_pos d j hj]
    rw [Array.getElem?_toList, Array.getElem?_eq_getElem hj] at hp
    exact Option.some.inj hp
  rw [show k38.sz = 2 from rfl, flat_seg d j hj, e]
  exact k38_mkM w base ok p
theorem reps_eq {w : World} {base : Nat} {ok : Nat → Prop} (d : Array Lb) (inner : List Value) (h : Reps (k38.M w base ok) k38.sz d.toList inner) (t : Nat) (ht : t < d.size * 2) : inner[t]? = some (flatK enc 2 d)[t]! := by
  have hj : t / 2 < d.size := by omega
  have hp : d.toList[t / 2]? = some d[t / 2]! := by rw [Array.getElem?_toList, Array.getElem?_eq_getElem hj, getElem!_pos d _ hj]
  have h2 := k38_openM (h.2 (t / 2) _ hp)
  have h3 : ((inner.drop (t / 2 * 2)).take 2)[t % 2]? = (enc d[t / 2]!)[t % 2]? := congrArg (fun l : List Value => l[t % 2]?) h2
  rw [List.getElem?_take_of_lt (by omega), List.getElem?_drop, show t / 2 * 2 + t % 2 = t by omega] at h3
  rw [h3, get_flatK enc 2 d t ht]
  have : t % 2 = 0 ∨ t % 2 = 1 := by omega
  rcases this with h | h <;> rw [h] <;> rfl
end Srt
/-- What the sort leaves (told where no name stands twice). -/
noncomputable def impl_Label_30.f (l : List S38) : Option (List S38) := @ite _ (CanSort.Once l ∧ l.length < 4611686018427387904) (Classical.propDecidable _) (some (CanSort.order l)) none
set_option maxHeartbeats 1000000 in
theorem impl_Label_30.calls (P0 : Nat → Prop) (u : Value) (l r : List S38) (w0 w : World) (hB : Below w0.heap.size w0 w) (ho : Kd.R k38 38 w w0.heap.size P0 u l)
    (h : impl_Label_30.f l = some r) :
    Calls Tryd.prog 30 #[u, .func (.func 31) #[] #[]] w fun e w' => e = .returned (.tuple #[]) ∧ Kd.R k38 38 w' w0.heap.size (fun k => P0 k ∨ w.heap.size ≤ k) u r ∧ Below w0.heap.size w0 w' ∧ Kept w w' (fun k => P0 k) := by
  unfold impl_Label_30.f at h
  by_cases hz : CanSort.Once l ∧ l.length < 4611686018427387904
  · rw [if_pos hz] at h
    obtain rfl := Option.some.inj h
    obtain ⟨hok, inner, hown, hreps⟩ := ho
    rcases hown.2 with ⟨rfl, hn⟩ | ⟨g, cap, cur, rfl, hbg, hx, hcap, hmax, hcs, htk⟩
    · obtain rfl : l = [] := List.length_eq_zero_iff.1 hn
      refine (AnyF.slices_SortFunc_none Tryd.sortL none 0 (.func (.func 31) #[] #[]) w).mono ?_
      rintro e w' ⟨rfl, rfl⟩
      exact ⟨rfl, Kd.R_nil _ _ _ _ _, hB, Kept.refl _ _⟩
    · obtain ⟨d, hd⟩ : ∃ d : Array S38, d.toList = l := ⟨l.toArray, by simp⟩
      subst hd
      have hlen : d.toList.length = d.size := Array.length_toList
      have hglt : g < w.heap.size := blk_lt hx
      have hil : inner.length = d.size * 2 := by rw [hown.1, hlen]; rfl
      have hH : HoldsK Srt.enc 2 w g 0 d := by
        intro t ht
        rw [size_flatK] at ht
        have h1 := Srt.reps_eq d inner hreps t ht
        have h2 : cur.toList[t]? = some (flatK Srt.enc 2 d)[t]! := by
          rw [← htk, List.getElem?_take_of_lt (by rw [hlen]; exact ht)] at h1
          exact h1
        refine ⟨?_, blk_frozen hx _⟩
        rw [Nat.zero_add]
        refine (blk_cell hx t).trans ?_
        rw [← Array.getElem?_toList, h2]; rfl
      have eg : ∀ args w, (callFunc 31 args).run Tryd.prog w = .ok (.enter 31 args) w := enters_of Tryd.func31 (by kernel_rfl) rfl
      have hcon := AnyQ.slices_SortFunc Tryd.sortL 2 Tryd.isAgg38 Tryd.sizeOf38 Srt.enc (fun _ => rfl) (fun x v hv => by simp [Srt.enc] at hv; rcases hv with rfl | rfl <;> rfl) cf swo 31 #[] g 0 cap d w eg (Srt.lays g 0 d.size w) hH hglt (by rw [← hlen]; exact hz.2)
      rw [hlen]
      refine Calls.mono hcon ?_
      rintro e w' ⟨rfl, d', n, os, hp, hs, rfl⟩
      have hord := sorted_order d d' hp hs hz.1
      have hd' : d'.size = d.size := hp.1
      have hw : ∀ k, k < w.heap.size → (sortWorldK Srt.enc 2 w g 0 n d' os).heap[k]? = if k = g then some (.cells (putCells id 0 (flatK Srt.enc 2 d') cur) 38 (0, 0)) else w.heap[k]? := by
        intro k hk
        show ((w.heap.modify g (onCells (putCells id 0 (flatK Srt.enc 2 d')))) ++ os)[k]? = _
        rw [Array.getElem?_append_left (by simpa using hk), Array.getElem?_modify]
        by_cases hkg : g = k
        · subst hkg
          rw [if_pos rfl, if_pos rfl, hx]; rfl
        · rw [if_neg hkg, if_neg (fun e => hkg e.symm)]
      have hsz : w.heap.size ≤ (sortWorldK Srt.enc 2 w g 0 n d' os).heap.size := by
        show _ ≤ ((w.heap.modify g (onCells (putCells id 0 (flatK Srt.enc 2 d')))) ++ os).size
        simp
      have hf : (flatK Srt.enc 2 d').size = d.size * 2 := by rw [size_flatK, hd']
      have hge : w0.heap.size ≤ g := hbg
      refine ⟨rfl, ⟨fun k hk => .inl (hok k hk), (flatK Srt.enc 2 d').toList, ⟨?_, .inr ⟨g, cap, putCells id 0 (flatK Srt.enc 2 d') cur, ?_, hbg, ?_, ?_, hmax, ?_, ?_⟩⟩, ?_⟩, ⟨hB.os, hB.tape, hB.output, Nat.le_trans hB.size hsz, fun k hk => ?_⟩, ⟨hsz, fun k hk hn => ?_⟩⟩
      · rw [← hord, Array.length_toList, Array.length_toList, hf, hd']; rfl
      · rw [← hord, Array.length_toList, hd']
      · rw [hw g hglt, if_pos rfl]
      · rw [← hord, Array.length_toList, hd']; rw [hlen] at hcap; exact hcap
      · rw [Srt.put_size]; exact hcs
      · rw [← hord, Array.length_toList, show d'.size * k38.sz = (flatK Srt.enc 2 d').size by rw [size_flatK]; rfl]
        exact Srt.put_take _ _ (by rw [hf, hcs, show k38.sz = 2 from rfl]; rw [hlen] at hcap; omega)
      · rw [← hord]; exact Srt.reps_flat d'
      · have hkw : k < w.heap.size := Nat.lt_of_lt_of_le hk hB.size
        rw [hw k hkw, if_neg (by omega)]
        exact hB.block k hk
      · rw [hw k hk, if_neg (fun e => hn (by subst e; exact hok _ (by simp [Value.ownBlock])))]
  · rw [if_neg hz] at h; cases h
end Go.Proofs.YtdfgfhnbcifheaaDoor.M
