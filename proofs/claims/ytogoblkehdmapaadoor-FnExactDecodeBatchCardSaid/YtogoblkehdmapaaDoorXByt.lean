/- A slice of bytes of the call's own, made out of a string and grown by strings: plain laws of its run. -/
import Derived.Lib.FrozenHead
import Derived.Lib.ConvBytes
import Derived.Laws.BytesArg
import Derived.Test.YtogoblkehdmapaaDoorM0
namespace Go.Proofs.YtogoblkehdmapaaDoor.M
open Go.RowKit Go.Proofs.YtogoblkehdmapaaDoorW.PrintWords Go.Proofs.YtogoblkehdmapaaDoorW.PrintLast Go.Proofs.YtogoblkehdmapaaDoorW.PrintMore
set_option linter.unusedVariables false
set_option linter.unusedSimpArgs false
namespace Byt
/-- v owns the bytes l; the row may bear a mark behind its end. -/
def Own (base : Nat) (v : Value) (l : List UInt8) (w : World) : Prop :=
  ∃ g cap cur fz, v = .slice (some ⟨g, 0, none⟩) l.length cap ∧ base ≤ g ∧ w.heap[g]? = some (.cells cur 5 fz) ∧ (fz.2 = 0 ∨ cur.size ≤ fz.1) ∧ l.length ≤ cap ∧ cap ≤ maxLen ∧ cur.size = cap ∧ cur.toList.take l.length = Lib.byteCells l
theorem Own.kept {base : Nat} {v : Value} {l : List UInt8} {w w' : World} (h : Own base v l w) (hb : ∀ g, v.ownBlock = some g → g < w.heap.size → w'.heap[g]? = w.heap[g]?) : Own base v l w' := by
  obtain ⟨g, cap, cur, fz, rfl, h1, h2, h3⟩ := h
  exact ⟨g, cap, cur, fz, rfl, h1, (hb g rfl (blk_lt h2)).trans h2, h3⟩
theorem Own.below {base : Nat} {v : Value} {l : List UInt8} {w w' : World} (h : Own base v l w) (hb : Below w.heap.size w w') : Own base v l w' := h.kept (fun g _ hg => hb.block g hg)
theorem Own.alloc {base : Nat} {v : Value} {l : List UInt8} {w : World} (h : Own base v l w) (o : Obj) : Own base v l (w.alloc o) := h.below ((Below.refl _ w).alloc (Nat.le_refl _) _)
theorem Own.drew {base : Nat} {v : Value} {l : List UInt8} {w : World} (h : Own base v l w) : Own base v l w.drew := h
theorem Own.far {base : Nat} {v : Value} {l : List UInt8} {w : World} (h : Own base v l w) {g t : Nat} {cells : Array Value} (hb : w.heap[g]? = some (.cells cells t (0, 0))) (ht : t ≠ 5) (j : Nat) (u : Value) : Own base v l (w.setCell ⟨g, j, none⟩ u) := by
  obtain ⟨g', cap, cur, fz, rfl, h1, h2, h3⟩ := h
  refine ⟨g', cap, cur, fz, rfl, h1, (Below.heap_setCell _ _ _ _ ?_).trans h2, h3⟩
  intro e
  have e' : g' = g := e
  subst e'
  rw [h2] at hb
  injection hb with hb
  injection hb with _ hb
  exact ht hb.symm
theorem Own.slice {base : Nat} {v : Value} {l : List UInt8} {w : World} (h : Own base v l w) : ∃ A c, v = .slice A l.length c := by
  obtain ⟨g, cap, cur, fz, rfl, _⟩ := h
  exact ⟨_, _, rfl⟩
theorem Own.ne {base : Nat} {v : Value} {l : List UInt8} {w : World} (h : Own base v l w) {g t : Nat} {cells : Array Value} {fz : Nat × Nat} (hb : w.heap[g]? = some (.cells cells t fz)) (ht : t ≠ 5) : some g ≠ v.ownBlock := by
  obtain ⟨g', cap, cur, fz, rfl, h1, h2, h3⟩ := h
  intro e
  have e' : g = g' := by simpa [Value.ownBlock] using e
  subst e'
  rw [h2] at hb
  injection hb with hb
  injection hb with _ hb
  exact ht hb.symm
theorem Own.weaken {base base' : Nat} {v : Value} {l : List UInt8} {w : World} (h : Own base v l w) (hb : base' ≤ base) : Own base' v l w := by
  obtain ⟨g, cap, cur, fz, h0, h1, h2⟩ := h
  exact ⟨g, cap, cur, fz, h0, Nat.le_trans hb h1, h2⟩
theorem Own.ge {base : Nat} {v : Value} {l : List UInt8} {w : World} (h : Own base v l w) : ∀ k, v.ownBlock = some k → base ≤ k := by
  obtain ⟨g, cap, cur, fz, rfl, h1, _⟩ := h
  intro k hk
  have e' : g = k := by simpa [Value.ownBlock] using hk
  omega
/-- []byte(s). -/
theorem conv (w : World) (s : ByteArray) (hs : s.size ≤ 140737488355328) : ∃ v w', (convert 9 44 (.string s)).run Tryd.prog w = .ok v w' ∧ Own w.heap.size v s.data.toList w' ∧ Below w.heap.size w w' := by
  have hr := Lib.run_convert_string_bytes (P := Tryd.prog) w 9 44 5 s Tryd.underlying9 Tryd.underlying44 Tryd.underlying5
  have hge := grownCap_ge w s.size 0 5
  refine ⟨_, _, hr, ⟨w.heap.size, _, _, _, rfl, Nat.le_refl _, Lib.bytesWorld_at_new w 5 s, .inr (Nat.le_refl _), hge, grownCap_le_maxLen w s.size 0 5 (by unfold maxLen; omega), ?_, ?_⟩, ⟨rfl, rfl, rfl, by rw [Lib.bytesWorld_size]; omega, fun k hk => Lib.bytesWorld_at_old w 5 s k hk⟩⟩
  · unfold Lib.bytesCells
    simp
    omega
  · unfold Lib.bytesCells Lib.byteCells
    simp
theorem storeB (g o : Nat) (t : TypeId) (fz : Nat × Nat) : ∀ (vs : List Value) (i : Nat) (cur : Array Value) (w : World), w.heap[g]? = some (.cells cur t fz) → (fz.2 = 0 ∨ cur.size ≤ fz.1) → o + i + vs.length ≤ cur.size → (∀ v ∈ vs, v.oneCell' = true) →
    (storeCells ⟨g, o, none⟩ vs i).run Tryd.prog w = .ok () (w.setRow g (cur.toList.take (o + i) ++ vs ++ cur.toList.drop (o + i + vs.length)).toArray)
  | [], i, cur, w, hg, _, _, _ => by
    simp only [storeCells, List.append_nil, List.length_nil, Nat.add_zero, List.take_append_drop, Array.toArray_toList]
    rw [setRow_self w g cur t fz hg]
    rfl
  | v :: rest, i, cur, w, hg, hfz, hl, h1 => by
    have hi : o + i < cur.size := by simp at hl; omega
    have hadd : (⟨g, o, none⟩ : Addr).add i = ⟨g, o + i, none⟩ := by unfold Addr.add; split <;> simp_all
    have hcell : w.cell? ⟨g, o + i, none⟩ = some cur[o + i] := by simp [World.cell?, hg, hi]
    have hfro : w.frozen? ⟨g, o + i, none⟩ = false := by
      obtain ⟨lo, hi'⟩ := fz
      simp only [World.frozen?, hg, Bool.and_eq_false_iff, decide_eq_false_iff_not]
      simp only at hfz
      omega
    have hst : (store ((⟨g, o, none⟩ : Addr).add i) v).run Tryd.prog w = .ok () (w.setRow g (cur.setIfInBounds (o + i) v)) := by
      rw [hadd, run_store Tryd.prog w _ v _ (h1 v (by simp)), hcell]
      simp [hfro, setCell_eq_setRow w g (o + i) cur t fz v hg]
    have ih := storeB g o t fz rest (i + 1) (cur.setIfInBounds (o + i) v) (w.setRow g (cur.setIfInBounds (o + i) v)) (setRow_heap w g cur _ t _ hg) (by simpa using hfz) (by simp at hl ⊢; omega) (fun x hx => h1 x (by simp [hx]))
    simp only [storeCells, Sem.run_bind, hst, Result.andThen_ok, ih, setRow_setRow]
    congr 3
    have e := list_seg_step cur.toList (o + i) v rest (by simp at hl ⊢; omega)
    simpa [Array.toList_setIfInBounds, Nat.add_assoc] using e
/-- append(v, s...). -/
theorem append (w : World) (base : Nat) (ty : TypeId) (v : Value) (l : List UInt8) (s : ByteArray) (h : Own base v l w) (hb : base ≤ w.heap.size) (hn : l.length + s.size ≤ 140737488355328) :
    ∃ v' w', (Builtin.append_ #[44, 9] ty #[v, .string s]).run Tryd.prog w = .ok v' w' ∧ Own base v' (l ++ s.data.toList) w' ∧ w.grownBy w' v.ownBlock := by
  have hinf : (Tryd.prog.info? 5).map (fun i => (i.zero, i.size, i.bytes)) = some (some (.int .u8 0), 1, 1) := by kernel_rfl
  obtain ⟨i0, hi, hz0, hz1, hz2⟩ := info_parts hinf
  have ht := Tryd.underlying44
  have hu := Tryd.underlying9
  obtain ⟨g, cap, cur, fz, rfl, hbg, hg, hfz, hnc, hcm, hcs, htake⟩ := h
  have hlen : (l ++ s.data.toList).length = l.length + s.size := by rw [List.length_append]; rfl
  have hbl : (Lib.byteCells l).length = l.length := Lib.byteCells_length l
  have hcat : Lib.byteCells (l ++ s.data.toList) = Lib.byteCells l ++ Lib.strCells s := by rw [Lib.strCells_eq]; unfold Lib.byteCells; rw [List.map_append]
  by_cases hroom : l.length + s.size ≤ cap
  · have hf := Lib.run_firstCells_string (P := Tryd.prog) w 1 s
    have hst := storeB g l.length 5 fz (Lib.strCells s) 0 cur w hg hfz (by rw [Lib.strCells_length]; omega) (Lib.strCells_oneCell s)
    simp only [Nat.add_zero, Lib.strCells_length] at hst
    refine ⟨.slice (some ⟨g, 0, none⟩) (l.length + s.size) cap, _, by simp [Builtin.append_, run_underlying ht, run_underlying hu, sizeOf, typeInfo, hi, hz1, Builtin.lenOf, hroom, hf, Addr.add_lit, hst]; rfl, ⟨g, cap, _, fz, by rw [hlen], hbg, setRow_heap w g cur _ 5 _ hg, ?_, by rw [hlen]; exact hroom, hcm, ?_, ?_⟩, ⟨rfl, rfl, rfl, by simp, fun k _ hk => setRow_other w g k _ (fun e => hk (by simp [Value.ownBlock, e]))⟩⟩
    · refine hfz.imp id (fun hh => ?_)
      simp only [List.size_toArray, List.length_append, List.length_take, List.length_drop, Array.length_toList, Lib.strCells_length]
      omega
    · simp only [List.size_toArray, List.length_append, List.length_take, List.length_drop, Array.length_toList, Lib.strCells_length]
      omega
    · rw [htake, hcat, hlen]
      have : l.length + s.size = (Lib.byteCells l ++ Lib.strCells s).length := by rw [List.length_append, hbl, Lib.strCells_length]
      rw [this]
      rw [← List.append_assoc]
      exact List.take_left
  · have holds : ∀ j u, (Lib.byteCells l)[j]? = some u → w.cell? ((⟨g, 0, none⟩ : Addr).add j) = some u := by
      intro j u hu'
      rw [← htake, List.getElem?_take] at hu'
      split at hu'
      · have hadd : (⟨g, 0, none⟩ : Addr).add j = ⟨g, j, none⟩ := by unfold Addr.add; split <;> simp_all
        rw [hadd, Lib.cell_of_heap hg]
        simpa using hu'
      · cases hu'
    have hr := Lib.run_append_grow_string (P := Tryd.prog) w 44 9 ty 5 i0 (.int .u8 0) ht hu hi hz0 ⟨g, 0, none⟩ l.length cap (Lib.byteCells l) (by rw [hz1, hbl]; simp) holds s (by omega) (by omega) (by rw [hz2]; exact growslice_fits (by omega) (by omega))
    have hge := grownCap_ge w (l.length + s.size) cap 5
    have hcm2 : grownCap w (l.length + s.size) cap 5 ≤ maxLen := grownCap_le_maxLen w (l.length + s.size) cap 5 (by unfold maxLen; omega)
    refine ⟨_, _, hr, ⟨w.heap.size, _, _, (0, 0), by rw [hlen], hb, heap_alloc_new w.drew _, .inl rfl, by rw [hlen]; exact hge, hcm2, ?_, ?_⟩, ⟨rfl, rfl, rfl, by simp, fun k hk _ => heap_alloc_old w.drew _ hk⟩⟩
    · have hz1' : (Value.int IntKind.u8 0).cells.size = 1 := rfl
      simp only [Array.size_append, List.size_toArray, size_zeroCells, hz1', hbl, Lib.strCells_length]
      omega
    · simp only [Array.toList_append, List.append_assoc]
      rw [← List.append_assoc, hcat, hlen]
      have : l.length + s.size = (Lib.byteCells l ++ Lib.strCells s).length := by rw [List.length_append, hbl, Lib.strCells_length]
      rw [this]
      exact List.take_left
section
variable {ops : Array Oper} {rest : List Oper} {o : Oper} {a : Act} {Q : Exit → Act → World → Prop} {w : World}
theorem wp_append {K : Act → World → Prop} (sl x : Operand) (ho : o.op = .call { callee := .builtin .append, args := #[sl, x], argTypes := #[44, 9] }) (base : Nat) (v : Value) (l : List UInt8) (s : ByteArray) (hs : a.eval sl = v) (hx : a.eval x = .string s)
    (hown : Own base v l w) (hb : base ≤ w.heap.size) (hn : l.length + s.size ≤ 140737488355328)
    (h : ∀ v' w', Own base v' (l ++ s.data.toList) w' → w.grownBy w' v.ownBlock → K (a.put o.dst v') w') : Oper.wp Tryd.prog o a w K Q := by
  obtain ⟨v', w', hr, h2, h3⟩ := append w base o.type v l s hown hb hn
  unfold Oper.wp execOp
  simp only [ho, resolve, invoke, builtin, Sem.run_bind, Sem.run_pure, Result.andThen_ok, List.map_toArray, List.map_cons, List.map_nil, hs, hx, hr]
  exact h v' w' h2 h3
end
/-- string(v). -/
theorem text (w : World) (base : Nat) (v : Value) (l : List UInt8) (h : Own base v l w) : (convert 44 9 v).run Tryd.prog w = .ok (.string ⟨l.toArray⟩) w := by
  obtain ⟨g, cap, cur, fz, rfl, hbg, hg, hfz, hnc, hcm, hcs, htake⟩ := h
  have hcell : ∀ i, i < l.length → w.cell? ⟨g, 0 + i, none⟩ = some (.int .u8 ((l.map fun b => (b.toNat : Int)).getD i 0)) := by
    intro i hi
    rw [Nat.zero_add, Lib.cell_of_heap hg]
    have h1 : (cur.toList.take l.length)[i]? = (Lib.byteCells l)[i]? := by rw [htake]
    rw [List.getElem?_take, if_pos hi] at h1
    rw [← Array.getElem?_toList, h1]
    unfold Lib.byteCells
    simp [hi, List.getD]
  have := run_convert_bytes_arg (P := Tryd.prog) w 44 5 Tryd.underlying44 Tryd.underlying5 g 0 l.length cap (l.map fun b => (b.toNat : Int)) (by simp) hcell 9 Tryd.underlying9
  rw [this]
  have e : strOfNums (l.map fun b => (b.toNat : Int)) = ⟨l.toArray⟩ := by
    unfold strOfNums
    rw [List.map_map]
    have : ((fun n : Int => UInt8.ofNat n.toNat) ∘ fun b : UInt8 => (b.toNat : Int)) = id := by funext b; simp
    rw [this, List.map_id]
  rw [e]
end Byt
end Go.Proofs.YtogoblkehdmapaaDoor.M
