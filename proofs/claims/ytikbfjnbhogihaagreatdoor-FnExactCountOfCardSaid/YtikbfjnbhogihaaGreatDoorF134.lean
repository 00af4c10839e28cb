import Derived.Test.YtikbfjnbhogihaaGreatDoorM0
import Derived.Test.YtikbfjnbhogihaaGreatDoorXJoin
import Derived.Maps.RangeWalk
import Derived.Sort.KeysCollected
import Derived.Maps.Ext
import Derived.Test.YtikbfjnbhogihaaGreatDoorF48
import Derived.Test.YtikbfjnbhogihaaGreatDoorF168
import Derived.Test.YtikbfjnbhogihaaGreatDoorF91
import Derived.Test.YtikbfjnbhogihaaGreatDoorF141
import Derived.Test.YtikbfjnbhogihaaGreatDoorF176
namespace Go.Proofs.YtikbfjnbhogihaaGreatDoor.M
open Go.RowKit Go.Proofs.YtikbfjnbhogihaaGreatDoorW.PrintWords Go.Proofs.YtikbfjnbhogihaaGreatDoorW.PrintLast Go.Proofs.YtikbfjnbhogihaaGreatDoorW.PrintMore
attribute [local go_sem] max2_int min2_int max_two min_two max_three min_three max_four min_four
set_option linter.unusedVariables false
set_option linter.unusedSimpArgs false
/-! ### impl_source_s8: function 134 -/
def impl_source_s8.f (s0_0 : ByteArray) : Option (ByteArray × ByteArray) := (impl_source_num.f s0_0 1).bind fun bt231 => ((impl_source_text.f bt231.2 bt231.1).bind fun bt233 => (some (bt233.1, bt233.2)))
set_option maxHeartbeats 8000000 in
set_option maxRecDepth 100000 in
theorem impl_source_s8.calls (g : Nat) (s0_0 : ByteArray) (r1 : ByteArray) (r2 : ByteArray) (w0 w : World) (hI : IsS189 w0 w g s0_0) (hB : Below w0.heap.size w0 w) (h : impl_source_s8.f s0_0 = some (r1, r2)) :
  Calls Tryz.prog 134 #[.pointer (some ⟨g, 0, none⟩)] w fun e w' => e = .returned (.string r1) ∧ IsS189 w0 w' g r2 ∧ Below w0.heap.size w0 w' ∧ KeepBut w w' g none := by
 have HI0 := Aside0.mk hI
 have HK := Aside0.mk (KeepBut.refl w g none)
 have HL := Aside0.mk hB.size
 clear hI
 have HW0 := Aside0.mk hB.size
 have HB := Aside0.mk hB
 clear hB
 have H : ((impl_source_num.f s0_0 1).bind fun bt231 => ((impl_source_text.f bt231.2 bt231.1).bind fun bt233 => (some (bt233.1, bt233.2)))) = some (r1, r2) := h
 clear h
 replace H := Option.bind_eq_some_iff.mp H
 obtain ⟨⟨t231, t232⟩, A20, H⟩ := H
 replace H : ((impl_source_text.f t232 t231).bind fun bt233 => (some (bt233.1, bt233.2))) = some (r1, r2) := H
 have A2 := Aside0.mk A20
 clear A20
 replace H := Option.bind_eq_some_iff.mp H
 obtain ⟨⟨t233, t234⟩, A30, H⟩ := H
 replace H : (some (t233, t234)) = some (r1, r2) := H
 have A3 := Aside0.mk A30
 clear A30
 simp only [Option.some.injEq, Prod.mk.injEq] at H
 obtain ⟨rfl, rfl⟩ := H
 go_enter Tryz.func134, Tryz.ntmps134
 go_wp2_with (first | ((with_reducible refine gate_callee (f := 133) rfl ?_); refine goesL_ (some 5) rfl rfl Tryz.func133 (by kernel_rfl) rfl #[.pointer (some ⟨g, 0, none⟩), .int .i64 1] rfl (by (try simp only [List.map_toArray, List.map_cons, List.map_nil]); first | done | rfl | (simp only [List.length_drop, List.length_take]; rfl)) ?_; (with_reducible refine (impl_source_num.calls g s0_0 1 t231 t232 w0 _ ?side1 ?side2 A2.out).mono ?_); (case side1 => repeat (first | (with_reducible first | exact HI0.out | apply IsS189.alloc | apply IsS189.drewN | apply IsS189.drew | apply IsS189.set_0) | exact HI0.out)); (case side2 => repeat (first | (with_reducible first | exact HB.out | apply below_alloc | apply pw_below_drewN | apply below_drew1 | refine below_set ?_ (IsS189.ge HI0.out)) | exact HB.out)); rintro e w4 ⟨rfl, hi, hb, hk⟩; refine ⟨_, rfl, ?_⟩; have n0_ := Aside0.mk (KeepBut.trans (by repeat (first | (with_reducible first | exact HK.out | apply KeepBut.set_ | apply keep_drewN | apply keep_drew | apply keep_alloc) | exact HK.out)) hk (.inl rfl)); have n1_ := Aside0.mk (hb); have n2_ := Aside0.mk (hi); clear HK; clear HB; clear HI0; have HK := n0_; have HB := n1_; have HI0 := n2_; clear n0_ n1_ n2_; (try clear hb); (try clear hb2); (try clear hk); (try clear hi)) | ((with_reducible refine gate_callee (f := 157) rfl ?_); refine goesL_ (some 6) rfl rfl Tryz.func157 (by kernel_rfl) rfl #[.pointer (some ⟨g, 0, none⟩), .int .i64 t231] rfl (by (try simp only [List.map_toArray, List.map_cons, List.map_nil]); first | done | rfl | (simp only [List.length_drop, List.length_take]; rfl)) ?_; (with_reducible refine (impl_source_text.calls g t232 t231 t233 t234 w0 _ ?side1 ?side2 A3.out).mono ?_); (case side1 => repeat (first | (with_reducible first | exact HI0.out | apply IsS189.alloc | apply IsS189.drewN | apply IsS189.drew | apply IsS189.set_0) | exact HI0.out)); (case side2 => repeat (first | (with_reducible first | exact HB.out | apply below_alloc | apply pw_below_drewN | apply below_drew1 | refine below_set ?_ (IsS189.ge HI0.out)) | exact HB.out)); rintro e w5 ⟨rfl, hi, hb, hk⟩; refine ⟨_, rfl, ?_⟩; have n0_ := Aside0.mk (KeepBut.trans (by repeat (first | (with_reducible first | exact HK.out | apply KeepBut.set_ | apply keep_drewN | apply keep_drew | apply keep_alloc) | exact HK.out)) hk (.inl rfl)); have n1_ := Aside0.mk (hb); have n2_ := Aside0.mk (hi); clear HK; clear HB; clear HI0; have HK := n0_; have HB := n1_; have HI0 := n2_; clear n0_ n1_ n2_; (try clear hb); (try clear hb2); (try clear hk); (try clear hi)))
 go_ret
 exact ⟨by first | rfl | (simp [errW_none, errW_some] <;> rfl) | (simp [*, errW_none, errW_some] <;> rfl), by repeat (first | (with_reducible first | exact HI0.out | apply IsS189.alloc | apply IsS189.drewN | apply IsS189.drew | apply IsS189.set_0) | exact HI0.out), by repeat (first | (with_reducible first | exact HB.out | apply below_alloc | apply pw_below_drewN | apply below_drew1 | refine below_set ?_ (IsS189.ge HI0.out)) | exact HB.out), by repeat (first | (with_reducible first | exact HK.out | apply KeepBut.set_ | apply keep_drewN | apply keep_drew | apply keep_alloc) | exact HK.out)⟩
/-! ### impl_source_s16: function 135 -/
def impl_source_s16.f (s0_0 : ByteArray) : Option (ByteArray × ByteArray) := (impl_source_num.f s0_0 2).bind fun bt235 => ((impl_source_text.f bt235.2 bt235.1).bind fun bt237 => (some (bt237.1, bt237.2)))
set_option maxHeartbeats 8000000 in
set_option maxRecDepth 100000 in
theorem impl_source_s16.calls (g : Nat) (s0_0 : ByteArray) (r1 : ByteArray) (r2 : ByteArray) (w0 w : World) (hI : IsS189 w0 w g s0_0) (hB : Below w0.heap.size w0 w) (h : impl_source_s16.f s0_0 = some (r1, r2)) :
  Calls Tryz.prog 135 #[.pointer (some ⟨g, 0, none⟩)] w fun e w' => e = .returned (.string r1) ∧ IsS189 w0 w' g r2 ∧ Below w0.heap.size w0 w' ∧ KeepBut w w' g none := by
 have HI0 := Aside0.mk hI
 have HK := Aside0.mk (KeepBut.refl w g none)
 have HL := Aside0.mk hB.size
 clear hI
 have HW0 := Aside0.mk hB.size
 have HB := Aside0.mk hB
 clear hB
 have H : ((impl_source_num.f s0_0 2).bind fun bt235 => ((impl_source_text.f bt235.2 bt235.1).bind fun bt237 => (some (bt237.1, bt237.2)))) = some (r1, r2) := h
 clear h
 replace H := Option.bind_eq_some_iff.mp H
 obtain ⟨⟨t235, t236⟩, A20, H⟩ := H
 replace H : ((impl_source_text.f t236 t235).bind fun bt237 => (some (bt237.1, bt237.2))) = some (r1, r2) := H
 have A2 := Aside0.mk A20
 clear A20
 replace H := Option.bind_eq_some_iff.mp H
 obtain ⟨⟨t237, t238⟩, A30, H⟩ := H
 replace H : (some (t237, t238)) = some (r1, r2) := H
 have A3 := Aside0.mk A30
 clear A30
 simp only [Option.some.injEq, Prod.mk.injEq] at H
 obtain ⟨rfl, rfl⟩ := H
 go_enter Tryz.func135, Tryz.ntmps135
 go_wp2_with (first | ((with_reducible refine gate_callee (f := 133) rfl ?_); refine goesL_ (some 5) rfl rfl Tryz.func133 (by kernel_rfl) rfl #[.pointer (some ⟨g, 0, none⟩), .int .i64 2] rfl (by (try simp only [List.map_toArray, List.map_cons, List.map_nil]); first | done | rfl | (simp only [List.length_drop, List.length_take]; rfl)) ?_; (with_reducible refine (impl_source_num.calls g s0_0 2 t235 t236 w0 _ ?side1 ?side2 A2.out).mono ?_); (case side1 => repeat (first | (with_reducible first | exact HI0.out | apply IsS189.alloc | apply IsS189.drewN | apply IsS189.drew | apply IsS189.set_0) | exact HI0.out)); (case side2 => repeat (first | (with_reducible first | exact HB.out | apply below_alloc | apply pw_below_drewN | apply below_drew1 | refine below_set ?_ (IsS189.ge HI0.out)) | exact HB.out)); rintro e w4 ⟨rfl, hi, hb, hk⟩; refine ⟨_, rfl, ?_⟩; have n0_ := Aside0.mk (KeepBut.trans (by repeat (first | (with_reducible first | exact HK.out | apply KeepBut.set_ | apply keep_drewN | apply keep_drew | apply keep_alloc) | exact HK.out)) hk (.inl rfl)); have n1_ := Aside0.mk (hb); have n2_ := Aside0.mk (hi); clear HK; clear HB; clear HI0; have HK := n0_; have HB := n1_; have HI0 := n2_; clear n0_ n1_ n2_; (try clear hb); (try clear hb2); (try clear hk); (try clear hi)) | ((with_reducible refine gate_callee (f := 157) rfl ?_); refine goesL_ (some 6) rfl rfl Tryz.func157 (by kernel_rfl) rfl #[.pointer (some ⟨g, 0, none⟩), .int .i64 t235] rfl (by (try simp only [List.map_toArray, List.map_cons, List.map_nil]); first | done | rfl | (simp only [List.length_drop, List.length_take]; rfl)) ?_; (with_reducible refine (impl_source_text.calls g t236 t235 t237 t238 w0 _ ?side1 ?side2 A3.out).mono ?_); (case side1 => repeat (first | (with_reducible first | exact HI0.out | apply IsS189.alloc | apply IsS189.drewN | apply IsS189.drew | apply IsS189.set_0) | exact HI0.out)); (case side2 => repeat (first | (with_reducible first | exact HB.out | apply below_alloc | apply pw_below_drewN | apply below_drew1 | refine below_set ?_ (IsS189.ge HI0.out)) | exact HB.out)); rintro e w5 ⟨rfl, hi, hb, hk⟩; refine ⟨_, rfl, ?_⟩; have n0_ := Aside0.mk (KeepBut.trans (by repeat (first | (with_reducible first | exact HK.out | apply KeepBut.set_ | apply keep_drewN | apply keep_drew | apply keep_alloc) | exact HK.out)) hk (.inl rfl)); have n1_ := Aside0.mk (hb); have n2_ := Aside0.mk (hi); clear HK; clear HB; clear HI0; have HK := n0_; have HB := n1_; have HI0 := n2_; clear n0_ n1_ n2_; (try clear hb); (try clear hb2); (try clear hk); (try clear hi)))
 go_ret
 exact ⟨by first | rfl | (simp [errW_none, errW_some] <;> rfl) | (simp [*, errW_none, errW_some] <;> rfl), by repeat (first | (with_reducible first | exact HI0.out | apply IsS189.alloc | apply IsS189.drewN | apply IsS189.drew | apply IsS189.set_0) | exact HI0.out), by repeat (first | (with_reducible first | exact HB.out | apply below_alloc | apply pw_below_drewN | apply below_drew1 | refine below_set ?_ (IsS189.ge HI0.out)) | exact HB.out), by repeat (first | (with_reducible first | exact HK.out | apply KeepBut.set_ | apply keep_drewN | apply keep_drew | apply keep_alloc) | exact HK.out)⟩
end Go.Proofs.YtikbfjnbhogihaaGreatDoor.M
/- Maps keyed by strings whose elements are numbers or pointers to blocks: each as the list of its entries in the order of the keys. -/
namespace Go.Proofs.YtikbfjnbhogihaaGreatDoor.Mp
open Go.Maps Go.ChangeMaps
open Go.WideMaps (keyOf_string_mk)
open Go.WideElems (Fit rg)
open Go.Proofs (encStr)
set_option linter.unusedVariables false
def code : Value → DataW Unit
 | .int .i64 a => .lit (.int .i64 a)
 | .pointer (some ⟨a, 0, none⟩) => .lit (.int .u64 (a : Int))
 | _ => .nil
def adm : Value → Bool
 | .int .i64 _ => true
 | .pointer none => true
 | .pointer (some ⟨_, 0, none⟩) => true
 | _ => false
def R (v : Value) : Option (DataW Unit × List MemPlace) := if adm v = true then some (code v, []) else none
theorem R_of {v : Value} (h : adm v = true) : R v = some (code v, []) := if_pos h
theorem R_adm {v : Value} {y : DataW Unit × List MemPlace} (h : R v = some y) : adm v = true ∧ y = (code v, []) := by
 unfold R at h
 split at h
 ·rename_i h1
  exact ⟨h1, (Option.some.inj h).symm⟩
 ·cases h
theorem code_inj {v u : Value} (hv : adm v = true) (hu : adm u = true) (h : code v = code u) : v = u := by
 unfold adm at hv hu
 split at hv <;> split at hu <;> simp_all [code]
 all_goals omega
abbrev Al := List (ByteArray × Value)
def key (s : ByteArray) : Lit := .string s.data.toList
theorem key_inj {a b : ByteArray} (h : a.data.toList = b.data.toList) : a = b := by
 cases a; cases b
 simpa using h
def f (p : ByteArray × Value) : Lit × DataW Unit := (key p.1, code p.2)
def D (l : Al) : DataW Unit := .map (l.map f)
def get (l : Al) (s : ByteArray) : Option Value := (l.find? fun p => p.1.data.toList == s.data.toList).map (·.2)
def del (l : Al) (s : ByteArray) : Al := l.filter fun p => !(p.1.data.toList == s.data.toList)
def ins (x : ByteArray × Value) : Al → Al
 | [] => [x]
 | y :: r => if bytesBefore x.1.data.toList y.1.data.toList = true then x :: y :: r else y :: ins x r
def put (l : Al) (s : ByteArray) (v : Value) : Al := ins (s, v) (del l s)
theorem at_some {l : Al} {s : ByteArray} {v : Value} (h : get l s = some v) (z : DataW Unit) : (D l).atKey (key s) z = code v := by
 obtain ⟨p, hp, rfl⟩ := Option.map_eq_some_iff.1 h
 have e : (l.map f).find? (fun q => q.1.sameKey (key s)) = some (f p) := by
  rw [List.find?_map]
  exact congrArg (Option.map f) hp
 unfold D DataW.atKey
 simp only [e]
 rfl
theorem at_none {l : Al} {s : ByteArray} (h : get l s = none) (z : DataW Unit) : (D l).atKey (key s) z = z := by
 have hp := Option.map_eq_none_iff.1 h
 have e : (l.map f).find? (fun q => q.1.sameKey (key s)) = none := by
  rw [List.find?_map]
  exact congrArg (Option.map f) hp
 unfold D DataW.atKey
 simp only [e]
theorem get_mem {l : Al} {s : ByteArray} {v : Value} (h : get l s = some v) : (s, v) ∈ l := by
 obtain ⟨p, hp, rfl⟩ := Option.map_eq_some_iff.1 h
 have h1 := List.find?_some hp
 have h2 := List.mem_of_find?_eq_some hp
 rw [← key_inj (eq_of_beq h1)]
 exact h2
theorem f_ins (x : ByteArray × Value) : ∀ l : Al, (ins x l).map f = DataW.insert (f x) (l.map f)
 | [] => rfl
 | y :: r => by
  show (if bytesBefore x.1.data.toList y.1.data.toList = true then x :: y :: r else y :: ins x r).map f = (if bytesBefore x.1.data.toList y.1.data.toList = true then f x :: f y :: r.map f else f y :: DataW.insert (f x) (r.map f))
  split
  ·rfl
  ·rw [List.map_cons, f_ins x r]
theorem f_del (l : Al) (s : ByteArray) : (del l s).map f = (l.map f).filter fun p => !p.1.sameKey (key s) := by
 unfold del
 rw [List.filter_map]
 rfl
theorem D_put (l : Al) (s : ByteArray) (v : Value) : (D l).put (key s) (code v) = D (put l s v) := by
 show DataW.map (DataW.insert (key s, code v) ((l.map f).filter fun p => !p.1.sameKey (key s))) = .map ((ins (s, v) (del l s)).map f)
 rw [f_ins, f_del]; rfl
theorem D_del (l : Al) (s : ByteArray) : (D l).del (key s) = D (del l s) := by
 show DataW.map ((l.map f).filter fun p => !p.1.sameKey (key s)) = .map ((del l s).map f)
 rw [f_del]
theorem ins_mem {x p : ByteArray × Value} : ∀ {l : Al}, p ∈ ins x l → p = x ∨ p ∈ l
 | [], h => by simpa [ins] using h
 | y :: r, h => by
  unfold ins at h
  split at h
  ·simpa using h
  ·rcases List.mem_cons.1 h with h | h
   ·exact .inr (h ▸ List.mem_cons_self)
   ·rcases ins_mem h with h | h
    ·exact .inl h
    ·exact .inr (List.mem_cons_of_mem _ h)
theorem ins_len (x : ByteArray × Value) : ∀ l : Al, (ins x l).length = l.length + 1
 | [] => rfl
 | y :: r => by
  unfold ins
  split
  ·rfl
  ·simp [ins_len x r]
theorem put_len (l : Al) (s : ByteArray) (v : Value) : (put l s v).length ≤ l.length + 1 := by
 unfold put
 rw [ins_len]
 have := List.length_filter_le (fun p : ByteArray × Value => !(p.1.data.toList == s.data.toList)) l
 unfold del
 omega
section
variable {P : Program} {k t e : TypeId} {w : World} {b : Nat} {l : Al}
def Is (P : Program) (k : TypeId) (w : World) (b : Nat) (l : Al) : Prop := w.ownsMap P k R b l.length (D l) ∧ ∀ p ∈ l, adm p.2 = true
theorem exact_ {n : Nat} {L : List (Lit × DataW Unit)} (h : w.ownsMap P k R b n (.map L)) : w.ownsMap P k R b L.length (.map L) := by
 obtain ⟨es, clock, hb, F, hs, hD⟩ := h
 refine ⟨es, clock, hb, F, ?_, hD⟩
 injection hD with hD
 rw [hD, length_sorted]; simp
theorem made (w : World) (P : Program) (k : TypeId) : Is P k (w.alloc (.map #[] 0)) w.heap.size [] := ⟨World.ownsMap_made w P k R, fun _ h => by cases h⟩
theorem Is.lt (h : Is P k w b l) : b < w.heap.size := h.1.lt
theorem Is.block (h : Is P k w b l) : ∃ es c, w.heap[b]? = some (.map es c) := by
 obtain ⟨es, c, hb, _⟩ := h.1
 exact ⟨es, c, hb⟩
theorem Is.move {w' : World} (h : Is P k w b l) (he : w'.heap[b]? = w.heap[b]?) : Is P k w' b l := by
 obtain ⟨⟨es, c, hb, r⟩, ha⟩ := h
 exact ⟨⟨es, c, he.trans hb, r⟩, ha⟩
theorem Is.alloc (h : Is P k w b l) (o : Obj) : Is P k (w.alloc o) b l := h.move ((MapKept.heap_alloc w o).2 b h.lt)
theorem made' (w : World) (P : Program) (k : TypeId) {n : Nat} (hn : w.heap.size = n) : Is P k (w.alloc (.map #[] 0)) n [] := hn ▸ made w P k
variable (hk : P.underlying k = some .string) (ht : P.underlying t = some (.map k e))
include hk
theorem Is.rise (h : Is P k w b l) : l.Pairwise fun p q => bytesBefore p.1.data.toList q.1.data.toList = true := by
 obtain ⟨es, hD, hp, _⟩ := h.1.canon (string_keyed hk)
 injection hD with hD
 rw [← hD] at hp
 exact List.pairwise_map.1 hp
include ht
theorem Is.look (h : Is P k w b l) {z : Value} (hz : (zeroValue e).run P w = .ok z w) (s : ByteArray) (hs : s.size ≤ maxLen) (c : Bool) :
  (Instr.lookup t (.map (some b)) (.string s) c).run P w = .ok (if c = true then .tuple #[(get l s).getD z, .bool (get l s).isSome] else (get l s).getD z) w := by
 obtain ⟨⟨es, clock, hb, F, hn, hD⟩, ha⟩ := h
 have hkey : keyOf P k (.string s) = some (key s) := keyOf_string_mk hk hs
 rcases Maps.fit_look c (string_keyed hk) ht hz hb F hkey with ⟨hrun, _, hat⟩ | ⟨e0, y, _, _, hrun, hRv, hat, _⟩
 ·rw [← hD] at hat
  cases hg : get l s with
  | none => exact hrun
  | some v =>
   have h1 := hat (.lit (.bool true))
   have h2 := hat (.lit (.bool false))
   rw [at_some hg] at h1 h2
   rw [h1] at h2
   cases h2
 ·rw [← hD] at hat
  cases hg : get l s with
  | none =>
   have h1 := hat (.lit (.bool true))
   have h2 := hat (.lit (.bool false))
   rw [at_none hg] at h1 h2
   rw [← h1] at h2
   cases h2
  | some v =>
   have h1 := hat .nil
   rw [at_some hg] at h1
   obtain ⟨a1, rfl⟩ := R_adm hRv
   obtain rfl := code_inj (ha _ (get_mem hg)) a1 h1
   exact hrun
theorem Is.upd (h : Is P k w b l) (hn : l.length < maxLen) (s : ByteArray) (hs : s.size ≤ maxLen) (v : Value) (hv : adm v = true) :
  ∃ w', (Instr.mapUpdate t (.map (some b)) (.string s) v).run P w = .ok () w' ∧ Is P k w' b (put l s v) ∧ w.mapTurned w' b := by
 obtain ⟨w', hrun, h1, h2⟩ := h.1.store (string_keyed hk) ht hn (keyOf_string_mk hk hs) (R_of hv)
 refine ⟨w', hrun, ⟨?_, fun p hp => ?_⟩, h2⟩
 ·have h3 : w'.ownsMap P k R b (l.length + 1) (D (put l s v)) := by rw [← D_put]; exact h1
  have h4 := exact_ h3
  rwa [List.length_map] at h4
 ·rcases ins_mem hp with rfl | hp
  ·exact hv
  ·exact h.2 p (List.mem_filter.1 hp).1
theorem Is.drop (h : Is P k w b l) (s : ByteArray) (hs : s.size ≤ maxLen) (ty : TypeId) :
  ∃ w', (Builtin.delete_ #[t, k] ty #[.map (some b), .string s]).run P w = .ok (.tuple #[]) w' ∧ Is P k w' b (del l s) ∧ w.mapTurned w' b := by
 obtain ⟨w', hrun, h1, h2⟩ := h.1.drop (string_keyed hk) ht (keyOf_string_mk hk hs) ty
 refine ⟨w', hrun, ⟨?_, fun p hp => h.2 p (List.mem_filter.1 hp).1⟩, h2⟩
 have h3 : w'.ownsMap P k R b l.length (D (del l s)) := by rw [← D_del]; exact h1
 have h4 := exact_ h3
 rwa [List.length_map] at h4
omit hk
theorem Is.len (h : Is P k w b l) (ty : TypeId) : (Builtin.len_ #[t] ty #[.map (some b)]).run P w = .ok (.int .i64 (l.length : Nat)) w := by
 have := h.1.len ht ty
 rwa [show Maps.size (D l) = l.length from by simp [D, Maps.size]] at this
end
/-! ### ranged over -/
section
variable {P : Program} {k t e : TypeId} {w : World} {b r cnt : Nat} {l : Al} {left : Lit → Bool}
def Rg (P : Program) (k : TypeId) (w : World) (b r : Nat) (l : Al) (left : Lit → Bool) (cnt : Nat) : Prop := w.ranges P k R b r l.length (D l) left cnt ∧ ∀ p ∈ l, adm p.2 = true
theorem Rg.move {w' : World} (h : Rg P k w b r l left cnt) (hb' : w'.heap[b]? = w.heap[b]?) (hr' : w'.heap[r]? = w.heap[r]?) : Rg P k w' b r l left cnt := by
 obtain ⟨⟨es, clock, since, seen, c0, hb, F, hs, hD, hr, rest⟩, ha⟩ := h
 exact ⟨⟨es, clock, since, seen, c0, hb'.trans hb, F, hs, hD, hr'.trans hr, rest⟩, ha⟩
theorem Rg.iter (h : Rg P k w b r l left cnt) : ∃ s0 seen c0, w.heap[r]? = some (.mapIter (some b) s0 seen c0) := by
 obtain ⟨⟨es, clock, since, seen, c0, hb, F, hs, hD, hr, rest⟩, ha⟩ := h
 exact ⟨_, _, _, hr⟩
end
/-! ### at the operation -/
section
variable {P : Program} {ops : Array Oper} {rest : List Oper} {o : Oper} {a : Act} {Q : Exit → Act → World → Prop} {w : World}
theorem wp_upd (hg : o.guard = none) (m x y : Operand) (t : TypeId) (hop : o.op = Op.mapUpdate t m x y) (k e : TypeId) (hk : P.underlying k = some .string) (ht : P.underlying t = some (.map k e))
  (b : Nat) (l : Al) (hm : a.eval m = .map (some b)) (h : Is P k w b l) (hn : l.length < maxLen) (s : ByteArray) (hx : a.eval x = .string s) (hs : s.size ≤ maxLen) (v : Value) (hy : a.eval y = v) (hv : adm v = true)
  (hK : ∀ w', Is P k w' b (put l s v) → w.mapTurned w' b → wpList P ops Q rest (a.put o.dst undef) w') : wpList P ops Q (o :: rest) a w := by
 refine wpList_plain hg fun K' hK' => ?_
 obtain ⟨w', hrun, r1, r2⟩ := h.upd hk ht hn s hs v hv
 unfold Oper.wp
 simp [execOp, hop, hm, hx, hy, hrun, Result.andThen]
 exact hK' _ _ (hK w' r1 r2)
end
end Go.Proofs.YtikbfjnbhogihaaGreatDoor.Mp
/- Labels in canonical form: what both compute. Plain. -/
namespace Go.Proofs.YtikbfjnbhogihaaGreatDoor.Can
open Go.Proofs.YtikbfjnbhogihaaGreatDoor.M Go.Proofs.YtikbfjnbhogihaaGreatDoor.Loops Go.Proofs.YtikbfjnbhogihaaGreatDoor.CanSort Go.Proofs.YtikbfjnbhogihaaGreatDoor.Utf Go.Proofs.YtikbfjnbhogihaaGreatDoorW.PrintWords Go.Proofs.YtikbfjnbhogihaaGreatDoorW.PrintLast Go.Proofs.YtikbfjnbhogihaaGreatDoorW.PrintMore Go.RowKit
def chr (i : Nat) (c : Int) : Bool := decide (65 ≤ c ∧ c ≤ 90 ∨ 97 ≤ c ∧ c ≤ 122 ∨ c = 95 ∨ (48 ≤ c ∧ c ≤ 57 ∧ 0 < i))
def chars (s : ByteArray) : Nat → Bool
 | 0 => true
 | n + 1 => chr (s.size - (n + 1)) (bt s ((s.size - (n + 1) : Nat) : Int)) && chars s n
def nameOK (s : ByteArray) : Bool := decide (1 ≤ s.size ∧ s.size ≤ 64) && chars s s.size
def fault (x : Lb) : Int := if nameOK x.f0 = true then vf x.f1 else 41
def firstF : List Lb → Nat → Option (Int × Nat)
 | [], _ => none
 | x :: l, i => if fault x = 0 then firstF l (i + 1) else some (fault x, i)
def named (x : Lb) (b : Lb) : Bool := decide (b.f0.toList = x.f0.toList)
def firstT : List Lb → List Lb → Option Nat
 | _, [] => none
 | before, x :: l => if before.any (named x) = true then some before.length else firstT (before ++ [x]) l
def keep (x : Lb) : Bool := decide (¬ x.f1.toList = [])
def isMet (x : Lb) : Bool := keep x && decide (x.f0.toList = [95, 95, 110, 97, 109, 101, 95, 95])
def can (l : List Lb) : List Lb × Int × Int :=
 if 16 < l.length then ([], 40, 0) else match firstF l 0 with
 | some (c, i) => ([], c, (i : Int))
 | none => match firstT [] l with
  | some i => ([], 45, (i : Int))
  | none => if l.any isMet = true then (order (l.filter keep), 0, 0) else ([], 46, 0)
def Fit (l : List Lb) : Prop := ∀ x ∈ l, x.f0.size ≤ 1073741824 ∧ x.f1.size ≤ 1073741824
theorem can_many {l : List Lb} (h : 16 < l.length) : can l = ([], 40, 0) := by unfold can; rw [if_pos h]
theorem can_fault {l : List Lb} {c : Int} {i : Nat} (h : ¬ 16 < l.length) (h2 : firstF l 0 = some (c, i)) : can l = ([], c, (i : Int)) := by unfold can; rw [if_neg h, h2]
theorem can_twice {l : List Lb} {i : Nat} (h : ¬ 16 < l.length) (h2 : firstF l 0 = none) (h3 : firstT [] l = some i) : can l = ([], 45, (i : Int)) := by unfold can; rw [if_neg h, h2, h3]
theorem can_none {l : List Lb} (h : ¬ 16 < l.length) (h2 : firstF l 0 = none) (h3 : firstT [] l = none) (h4 : l.any isMet = false) : can l = ([], 46, 0) := by unfold can; rw [if_neg h, h2, h3]; simp [h4]
theorem can_good {l : List Lb} (h : ¬ 16 < l.length) (h2 : firstF l 0 = none) (h3 : firstT [] l = none) (h4 : l.any isMet = true) : can l = (order (l.filter keep), 0, 0) := by unfold can; rw [if_neg h, h2, h3]; simp [h4]
theorem firstF_ok {x : Lb} {l : List Lb} {i : Nat} (h : fault x = 0) : firstF (x :: l) i = firstF l (i + 1) := by conv => lhs; unfold firstF; rw [if_pos h]
theorem firstF_bad {x : Lb} {l : List Lb} {i : Nat} (h : ¬ fault x = 0) : firstF (x :: l) i = some (fault x, i) := by conv => lhs; unfold firstF; rw [if_neg h]
theorem firstT_no {b : List Lb} {x : Lb} {l : List Lb} (h : b.any (named x) = false) : firstT b (x :: l) = firstT (b ++ [x]) l := by conv => lhs; unfold firstT; rw [h]; simp
theorem firstT_yes {b : List Lb} {x : Lb} {l : List Lb} (h : b.any (named x) = true) : firstT b (x :: l) = some b.length := by conv => lhs; unfold firstT; rw [h]; simp
theorem once_of : ∀ (l b : List Lb), firstT b l = none → Once b → Once (b ++ l)
 | [], b, _, hb => by simpa using hb
 | x :: l, b, h, hb => by
  cases hx : b.any (named x) with
  | true => rw [firstT_yes hx] at h; cases h
  | false =>
   rw [firstT_no hx] at h
   have h2 : Once (b ++ [x]) := by
    unfold Once at hb ⊢
    rw [List.pairwise_append]
    refine ⟨hb, by simp, fun a ha c hc => ?_⟩
    rw [List.mem_singleton] at hc
    subst hc
    intro e
    rw [List.any_eq_false] at hx
    exact hx a ha (by unfold named; exact decide_eq_true e)
   have := once_of l (b ++ [x]) h h2
   simpa using this
theorem once_all {l : List Lb} (h : firstT [] l = none) : Once l := by
 have := once_of l [] h (by unfold Once; simp)
 simpa using this
theorem once_filter {l : List Lb} (p : Lb → Bool) (h : Once l) : Once (l.filter p) := by unfold Once at h ⊢; exact h.filter _
/-! ### names -/
theorem impl_chars (s : ByteArray) (hz : s.size ≤ 64) : ∀ n j, j + n = s.size → Ev (fun k => impl_isName.l0 k s (s.size : Int) j) (chars s n) := by
 intro n
 induction n with
 | zero =>
  intro j hj
  refine Ev.step (f := fun _ => some _) (fun k => by simp only [impl_isName.l0]; rw [if_neg (by omega)]; rfl) (Ev.now _)
 | succ n ih =>
  intro j hj
  have hb := bt_range s (j : Int)
  have e : s.size - (n + 1) = j := by omega
  have hn := ih (j + 1) (by omega)
  have yes : chr j (bt s (j : Int)) = true → chars s (n + 1) = chars s n := fun h => (show chars s (n + 1) = (chr (s.size - (n + 1)) (bt s ((s.size - (n + 1) : Nat) : Int)) && chars s n) from rfl).trans (by rw [e, h]; rfl)
  have no : chr j (bt s (j : Int)) = false → chars s (n + 1) = false := fun h => (show chars s (n + 1) = (chr (s.size - (n + 1)) (bt s ((s.size - (n + 1) : Nat) : Int)) && chars s n) from rfl).trans (by rw [e, h]; rfl)
  have hw : wrap64 ((j : Int) + 1) = ((j + 1 : Nat) : Int) := w_succ j (by omega)
  cases hc : chr j (bt s (j : Int)) with
  | true =>
   rw [yes hc]
   refine Ev.step (fun k => ?_) hn
   unfold chr at hc
   have hc := of_decide_eq_true hc
   simp only [impl_isName.l0]
   rw [hw, if_pos (by omega), if_pos (by omega), if_pos (by omega)]
   generalize bt s (j : Int) = c at hb hc ⊢
   repeat' split
   all_goals first | rfl | (exfalso; omega)
  | false =>
   rw [no hc]
   refine Ev.step (f := fun _ => some false) (fun k => ?_) (Ev.now _)
   unfold chr at hc
   have hc := of_decide_eq_false hc
   simp only [impl_isName.l0]
   rw [hw, if_pos (by omega), if_pos (by omega), if_pos (by omega)]
   generalize bt s (j : Int) = c at hb hc ⊢
   repeat' split
   all_goals first | rfl | (exfalso; omega)
theorem size_zero {a : ByteArray} : a.toList = [] ↔ a.size = 0 := by
 rw [ByteArray.toList_eq]
 constructor
 ·intro h
  have : a.data.toList.length = 0 := by rw [h]; rfl
  exact this
 ·intro h
  exact List.length_eq_zero_iff.1 h
theorem impl_name (s : ByteArray) : Ev (fun k => impl_isName.f k s) (nameOK s) := by
 unfold impl_isName.f nameOK
 by_cases h0 : s.toList = []
 ·have := size_zero.1 h0
  refine Ev.ite_pos h0 (Ev.eq (Ev.now _) ?_)
  rw [decide_eq_false (by omega)]; rfl
 ·have h1 : ¬ s.size = 0 := fun h => h0 (size_zero.2 h)
  by_cases h2 : (s.size : Int) > 64
  ·refine Ev.ite_neg h0 (Ev.ite_pos h2 (Ev.eq (Ev.now _) ?_))
   rw [decide_eq_false (by omega)]; rfl
  ·refine Ev.ite_neg h0 (Ev.ite_neg h2 (Ev.eq (impl_chars s (by omega) s.size 0 (by omega)) ?_))
   rw [decide_eq_true (by omega)]; rfl
theorem spec_chars (s : ByteArray) (hz : s.size ≤ 64) (hd : ¬ (48 ≤ bt s 0 ∧ bt s 0 ≤ 57)) : ∀ n j, j + n = s.size → Ev (fun k => spec_l3NameOK.l0 k s j) (chars s n) := by
 intro n
 induction n with
 | zero =>
  intro j hj
  refine Ev.step (f := fun _ => some _) (fun k => by simp only [spec_l3NameOK.l0]; rw [if_neg (by omega)]; rfl) (Ev.now _)
 | succ n ih =>
  intro j hj
  have hb := bt_range s (j : Int)
  have e : s.size - (n + 1) = j := by omega
  have hn := ih (j + 1) (by omega)
  have yes : chr j (bt s (j : Int)) = true → chars s (n + 1) = chars s n := fun h => (show chars s (n + 1) = (chr (s.size - (n + 1)) (bt s ((s.size - (n + 1) : Nat) : Int)) && chars s n) from rfl).trans (by rw [e, h]; rfl)
  have no : chr j (bt s (j : Int)) = false → chars s (n + 1) = false := fun h => (show chars s (n + 1) = (chr (s.size - (n + 1)) (bt s ((s.size - (n + 1) : Nat) : Int)) && chars s n) from rfl).trans (by rw [e, h]; rfl)
  have hw : wrap64 ((j : Int) + 1) = ((j + 1 : Nat) : Int) := w_succ j (by omega)
  have hd' : j = 0 → ¬ (48 ≤ bt s (j : Int) ∧ bt s (j : Int) ≤ 57) := fun h => by subst h; exact hd
  cases hc : chr j (bt s (j : Int)) with
  | true =>
   rw [yes hc]
   refine Ev.step (fun k => ?_) hn
   unfold chr at hc
   have hc := of_decide_eq_true hc
   simp only [spec_l3NameOK.l0]
   rw [hw, if_pos (by omega), if_pos (by omega)]
   generalize bt s (j : Int) = c at hb hc hd' ⊢
   repeat' split
   all_goals first | rfl | (exfalso; omega)
  | false =>
   rw [no hc]
   refine Ev.step (f := fun _ => some false) (fun k => ?_) (Ev.now _)
   unfold chr at hc
   have hc := of_decide_eq_false hc
   simp only [spec_l3NameOK.l0]
   rw [hw, if_pos (by omega), if_pos (by omega)]
   generalize bt s (j : Int) = c at hb hc hd' ⊢
   repeat' split
   all_goals first | rfl | (exfalso; omega)
theorem spec_name (s : ByteArray) : Ev (fun k => spec_l3NameOK.f k s) (nameOK s) := by
 have stop : ∀ c, c = true → Ev (fun k => spec_l3NameOK.j0 k s c) false := by
  rintro c rfl
  exact Ev.step (f := fun _ => some false) (fun k => by simp only [spec_l3NameOK.j0, if_true]) (Ev.now _)
 have bet : spec_l1Between.f (s.size : Int) 1 64 = some (decide (1 ≤ s.size ∧ s.size ≤ 64)) := by
  unfold spec_l1Between.f
  split
  ·congr 1; rw [Bool.eq_iff_iff, decide_eq_true_eq, decide_eq_true_eq]; omega
  ·rw [decide_eq_false (by omega)]
 unfold spec_l3NameOK.f nameOK
 rw [bet]
 simp only [Option.bind_some]
 by_cases h : 1 ≤ s.size ∧ s.size ≤ 64
 ·rw [decide_eq_true h]
  simp only [if_true, Bool.true_and]
  refine Ev.ite_pos (by omega) ?_
  have first : 48 ≤ bt s 0 ∧ bt s 0 ≤ 57 → chars s s.size = false := by
   intro hd
   obtain ⟨n, hn⟩ : ∃ n, s.size = n + 1 := ⟨s.size - 1, by omega⟩
   rw [hn]
   unfold chars
   rw [show s.size - (n + 1) = 0 by omega]
   have : chr 0 (bt s ((0 : Nat) : Int)) = false := by
    unfold chr
    apply decide_eq_false
    have h2 : bt s ((0 : Nat) : Int) = bt s 0 := rfl
    rw [h2]
    omega
   rw [this]; rfl
  have go : ¬ (48 ≤ bt s 0 ∧ bt s 0 ≤ 57) → Ev (fun k => spec_l3NameOK.j0 k s false) (chars s s.size) := fun hd =>
   Ev.step (fun k => by simp only [spec_l3NameOK.j0, Bool.false_eq_true, if_false]; rfl) (spec_chars s h.2 hd s.size 0 (by omega))
  by_cases h48 : bt s 0 ≥ 48
  ·refine Ev.ite_pos h48 ?_
   by_cases h57 : bt s 0 ≤ 57
   ·rw [first ⟨h48, h57⟩]
    exact stop _ (decide_eq_true h57)
   ·rw [decide_eq_false h57]
    exact go (by omega)
  ·exact Ev.ite_neg h48 (go (by omega))
 ·rw [decide_eq_false h]
  simp only [Bool.false_eq_true, if_false, Bool.false_and]
  exact stop true rfl
end Go.Proofs.YtikbfjnbhogihaaGreatDoor.Can
namespace Go.Proofs.YtikbfjnbhogihaaGreatDoor.M
open Go.RowKit Go.Proofs.YtikbfjnbhogihaaGreatDoorW.PrintWords Go.Proofs.YtikbfjnbhogihaaGreatDoorW.PrintLast Go.Proofs.YtikbfjnbhogihaaGreatDoorW.PrintMore
attribute [local go_sem] max2_int min2_int max_two min_two max_three min_three max_four min_four
set_option linter.unusedVariables false
set_option linter.unusedSimpArgs false
/-! ### spec_l2Num: function 94 -/
mutual
def spec_l2Num.l0 : Nat → Int → List Int → Int → Option (ByteArray)
 | 0, _, _, _ => none
 | k + 1, x1, x5, x6 => if x6 ≥ 0 then (spec_l2Num.l1 k x1 x5 x6 x1 0) else (some (strOfNums x5))
def spec_l2Num.l1 : Nat → Int → List Int → Int → Int → Int → Option (ByteArray)
 | 0, _, _, _, _, _ => none
 | k + 1, x1, x5, x6, x7, x8 => if x8 < x6 then (spec_l2Num.l1 k x1 x5 x6 (x7 / 256) (wrap64 (x8 + 1))) else (if x5.length < 140737488355328 then (spec_l2Num.l0 k x1 (x5 ++ [(x7) % 256]) (wrap64 (x6 - 1))) else (none))
end
def spec_l2Num.f (k : Nat) (a0 : Int) (a1 : Int) : Option (ByteArray) := spec_l2Num.l0 k a1 (([] : List Int)) (wrap64 (a0 - 1))
theorem spec_l2Num.mono_l : ∀ k, (∀ y0 y1 y2, LeO (spec_l2Num.l0 k y0 y1 y2) (spec_l2Num.l0 (k + 1) y0 y1 y2)) ∧ (∀ y0 y1 y2 y3 y4, LeO (spec_l2Num.l1 k y0 y1 y2 y3 y4) (spec_l2Num.l1 (k + 1) y0 y1 y2 y3 y4))
 | 0 => ⟨fun _ _ _ r h => by simp [spec_l2Num.l0] at h, fun _ _ _ _ _ r h => by simp [spec_l2Num.l1] at h⟩
 | k + 1 => by
  obtain ⟨ih0, ih1⟩ := spec_l2Num.mono_l k
  refine ⟨?_, ?_⟩
  ·intro y0 y1 y2
   unfold spec_l2Num.l0
   repeat' first
   | (with_reducible exact ih0 _ _ _)
   | (with_reducible exact ih1 _ _ _ _ _)
   | (with_reducible exact LeO.refl _)
   | (with_reducible exact LeO.none _)
   | (with_reducible refine LeO.ite ?_ ?_)
   | (with_reducible refine LeO.bind ?_ (fun _ => ?_))
   | exact ih0 _ _ _
   | exact ih1 _ _ _ _ _
   | exact LeO.none _
   | refine LeO.ite ?_ ?_
   | refine LeO.bind ?_ (fun _ => ?_)
  ·intro y0 y1 y2 y3 y4
   unfold spec_l2Num.l1
   repeat' first
   | (with_reducible exact ih0 _ _ _)
   | (with_reducible exact ih1 _ _ _ _ _)
   | (with_reducible exact LeO.refl _)
   | (with_reducible exact LeO.none _)
   | (with_reducible refine LeO.ite ?_ ?_)
   | (with_reducible refine LeO.bind ?_ (fun _ => ?_))
   | exact ih0 _ _ _
   | exact ih1 _ _ _ _ _
   | exact LeO.none _
   | refine LeO.ite ?_ ?_
   | refine LeO.bind ?_ (fun _ => ?_)
theorem spec_l2Num.mono : ∀ a0 a1 k, LeO (spec_l2Num.f k a0 a1) (spec_l2Num.f (k + 1) a0 a1) := by
 intro a0 a1 k
 obtain ⟨ih0, ih1⟩ := spec_l2Num.mono_l k
 unfold spec_l2Num.f
 repeat' first
   | (with_reducible exact ih0 _ _ _)
   | (with_reducible exact ih1 _ _ _ _ _)
   | (with_reducible exact LeO.refl _)
   | (with_reducible exact LeO.none _)
   | (with_reducible refine LeO.ite ?_ ?_)
   | (with_reducible refine LeO.bind ?_ (fun _ => ?_))
   | exact ih0 _ _ _
   | exact ih1 _ _ _ _ _
   | exact LeO.none _
   | refine LeO.ite ?_ ?_
   | refine LeO.bind ?_ (fun _ => ?_)
set_option maxHeartbeats 8000000 in
set_option maxRecDepth 100000 in
theorem spec_l2Num.calls (k : Nat) (a0 : Int) (a1 : Int) (r : ByteArray) (w : World) (h : spec_l2Num.f k a0 a1 = some r) :
  Calls Tryz.prog 94 #[.int .i64 a0, .int .i64 a1] w fun e w' => e = .returned (.string r) ∧ Below w.heap.size w w' := by
 have HB := Aside0.mk (Below.refl w.heap.size w)
 have H : (spec_l2Num.l0 k a1 (([] : List Int)) (wrap64 (a0 - 1))) = some r := h
 clear h
 obtain ⟨y131, hy131⟩ : ∃ y_ : List Int, y_ = (([] : List Int)) := ⟨_, rfl⟩
 replace H : (spec_l2Num.l0 k a1 y131 (wrap64 (a0 - 1))) = some r := by first | (rw [hy131]; with_reducible exact H) | (have H2_ := (Option.bind_some _ _).symm.trans H; rw [hy131]; with_reducible exact H2_) | (have H2_ := (Option.bind_some _ _).symm.trans H; with_reducible exact H2_) | with_reducible exact H | (rw [hy131]; exact H) | exact H
 have Ny131 := Aside0.mk hy131
 clear hy131
 have H' := Aside0.mk H
 clear H
 go_enter Tryz.func94, Tryz.ntmps94
 go_wp2_with (first | ((with_reducible refine gate_dst (N := 9) rfl ?_); refine Kd.R_lit (Kd.int .u8) _ 5 ?hg (N := 9) ?hd (xs := ([] : List Int)) (inner := []) (ok := fun _ => True) (okp := fun _ => True) ?hr ?hp (fun _ hk => hk) trivial (Below.refl _ _) (Nat.le_refl _) (by simp) ?_; (case hd => rfl); (case hg => rfl); (case hr => first | (go_simp; done) | (go_simp; rfl)); (case hp => exact (Reps.none _ _)); intro v132 w3 ho4 hb hg_ hnew_; clear hg_ hnew_; (first | rw [← Ny131.out] at ho4 | (simp only [Int.reduceToNat] at ho4; rw [← Ny131.out] at ho4)); have n0_ := Aside0.mk (Kd.R_lower ho4 (below_size (by repeat (first | (with_reducible first | exact HB.out | apply below_alloc | apply pw_below_drewN | apply below_drew1) | exact HB.out)))); have n1_ := Aside0.mk (below_step (by repeat (first | (with_reducible first | exact HB.out | apply below_alloc | apply pw_below_drewN | apply below_drew1) | exact HB.out)) hb); clear HB; have HO133 := n0_; have HB := n1_; clear n0_ n1_; clear hb ho4))
 go_loopg [5, 6] k (fun kq v5 v6 w' => ∃ (x5_1 : List Int) (x6_1 : Int), v6 = .int .i64 x6_1 ∧ Aside0 (spec_l2Num.l0 kq a1 x5_1 x6_1 = some r) ∧ Aside0 (kq ≤ k) ∧ Aside0 (Kd.R (Kd.int .u8) 5 w' w.heap.size (fun _ => True) v5 x5_1) ∧ Aside0 (Below w.heap.size w w'))
 case atStart => exact ⟨(y131), (wrap64 (a0 - 1)), (by first | rfl | (simp; done) | (simp [*]; done)), H', ⟨Nat.le_refl _⟩, ⟨by (with_reducible repeat (first | apply Kd.R_alloc | apply Kd.R_drewN | apply Kd.R_drew)); exact HO133.out⟩, ⟨by repeat (first | (with_reducible first | exact HB.out | apply below_alloc | apply pw_below_drewN | apply below_drew1) | exact HB.out)⟩⟩
 case round =>
  clear H'
  try clear p2
  obtain ⟨x5_1, x6_1, rfl, HA, HK1, HO_5, HB⟩ := hrel
  cases gk with
  | zero => exact absurd HA.out (by simp [spec_l2Num.l0])
  | succ k1 =>
   have H := HA.out
   clear HA
   simp only [spec_l2Num.l0] at H
   by_cases c5 : x6_1 ≥ 0
   ·rw [if_pos c5] at H
    have c5b0 : decide (0 ≤ x6_1) = true := decide_eq_true c5
    clear c5
    have H' := Aside0.mk H
    clear H
    go_wp2
    go_loopg [7, 8] k1 (fun kq v7 v8 w' => ∃ (x7_2 : Int) (x8_2 : Int), v7 = .int .i64 x7_2 ∧ v8 = .int .i64 x8_2 ∧ Aside0 (spec_l2Num.l1 kq a1 x5_1 x6_1 x7_2 x8_2 = some r) ∧ Aside0 (kq ≤ k1) ∧ Aside0 (Kd.R (Kd.int .u8) 5 w' w.heap.size (fun _ => True) u5 x5_1) ∧ Aside0 (Below w.heap.size w w'))
    case atStart => exact ⟨(a1), (0), (by first | rfl | (simp; done) | (simp [*]; done)), (by first | rfl | (simp; done) | (simp [*]; done)), H', ⟨Nat.le_refl _⟩, ⟨by (with_reducible repeat (first | apply Kd.R_alloc | apply Kd.R_drewN | apply Kd.R_drew)); exact HO_5.out⟩, ⟨by repeat (first | (with_reducible first | exact HB.out | apply below_alloc | apply pw_below_drewN | apply below_drew1) | exact HB.out)⟩⟩
    case round =>
     clear H'
     try clear p2
     try clear c5
     try clear c5b0
     try clear p2
     obtain ⟨x7_2, x8_2, rfl, rfl, HA, HK2, HO_5, HB⟩ := hrel
     cases gk with
     | zero => exact absurd HA.out (by simp [spec_l2Num.l1])
     | succ k2 =>
      have H := HA.out
      clear HA
      simp only [spec_l2Num.l1] at H
      by_cases c6 : x8_2 < x6_1
      ·rw [if_pos c6] at H
       have c6b0 : decide (x8_2 < x6_1) = true := decide_eq_true c6
       clear c6
       have H' := Aside0.mk H
       clear H
       go_wp2
       go_roundg k2
       case measure => have := HK1.out; have := HK2.out; omega
       case rel => exact ⟨(x7_2 / 256), (wrap64 (x8_2 + 1)), (by first | rfl | (simp; done) | (simp [*]; done)), (by first | rfl | (simp; done) | (simp [*]; done)), H', ⟨by have := HK1.out; have := HK2.out; omega⟩, ⟨by (with_reducible repeat (first | apply Kd.R_alloc | apply Kd.R_drewN | apply Kd.R_drew)); exact HO_5.out⟩, ⟨by repeat (first | (with_reducible first | exact HB.out | apply below_alloc | apply pw_below_drewN | apply below_drew1) | exact HB.out)⟩⟩
      ·rw [if_neg c6] at H
       have c6b0 : decide (x8_2 < x6_1) = false := decide_eq_false c6
       clear c6
       by_cases c7 : x5_1.length < 140737488355328
       ·rw [if_pos c7] at H
        have LMc7 := Aside0.mk c7
        clear c7
        obtain ⟨y134, hy134⟩ : ∃ y_ : List Int, y_ = (x5_1 ++ [(x7_2) % 256]) := ⟨_, rfl⟩
        replace H : (spec_l2Num.l0 k2 a1 y134 (wrap64 (x6_1 - 1))) = some r := by first | (rw [hy134]; with_reducible exact H) | (have H2_ := (Option.bind_some _ _).symm.trans H; rw [hy134]; with_reducible exact H2_) | (have H2_ := (Option.bind_some _ _).symm.trans H; with_reducible exact H2_) | with_reducible exact H | (rw [hy134]; exact H) | exact H
        have Ny134 := Aside0.mk hy134
        clear hy134
        have H' := Aside0.mk H
        clear H
        go_wp2_with (first | ((with_reducible refine gate_builtin (b := .append) (xs := #[.tmp 24, .tmp 27]) rfl ?_); at_builtin; refine Kd.R_append (Kd.int .u8) (w0 := w) w.heap.size rfl (.tmp 24) (.tmp 27) 53 5 (.int .u8 0) 1 rfl Tryz.underlying53 info5 rfl (by decide) (by omega) u5 x5_1 ((x7_2) % 256) [.int .u8 ((x7_2) % 256)] (fun _ => True) (fun _ => False) rfl rfl ?aP (fun _ hk => hk.elim) ?aF ?aO ?aB ?aS ?aL ?_; (case aP => exact rfl); (case aB => exact (by repeat (first | (with_reducible first | exact HB.out | apply below_alloc | apply pw_below_drewN | apply below_drew1) | exact HB.out))); (case aF => exact (fun _ _ => trivial)); (case aO => exact (by (with_reducible repeat (first | apply Kd.R_alloc | apply Kd.R_drewN | apply Kd.R_drew)); exact HO_5.out)); (case aS => exact (below_size (by repeat (first | (with_reducible first | exact HB.out | apply below_alloc | apply pw_below_drewN | apply below_drew1) | exact HB.out)))); (case aL => have := LMc7.out; omega); intro v135 w8 ho hb hg hat; rw [← Ny134.out] at ho; have n0_ := Aside0.mk (hb); have n1_ := Aside0.mk (ho); clear HB; clear HO_5; have HB := n0_; have HO136 := n1_; clear n0_ n1_; clear ho hb hg hat))
        go_roundg k2
        case measure => have := HK1.out; have := HK2.out; omega
        case rel => exact ⟨(y134), (wrap64 (x6_1 - 1)), (by first | rfl | (simp; done) | (simp [*]; done)), H', ⟨by have := HK1.out; have := HK2.out; omega⟩, ⟨by (with_reducible repeat (first | apply Kd.R_alloc | apply Kd.R_drewN | apply Kd.R_drew)); exact HO136.out⟩, ⟨by repeat (first | (with_reducible first | exact HB.out | apply below_alloc | apply pw_below_drewN | apply below_drew1) | exact HB.out)⟩⟩
       ·rw [if_neg c7] at H
        exact absurd H (by simp)
   ·rw [if_neg c5] at H
    have c5b0 : decide (0 ≤ x6_1) = false := decide_eq_false c5
    clear c5
    obtain rfl := Option.some.inj H
    have hcv9 := own_string (P := Tryz.prog) Tryz.underlying53 Tryz.underlying5 Tryz.underlying9 (Kd.own_of_R HO_5.out)
    go_wp2
    go_ret
    exact ⟨by first | rfl | (simp [errW_none, errW_some] <;> rfl) | (simp [*, errW_none, errW_some] <;> rfl), by repeat (first | (with_reducible first | exact HB.out | apply below_alloc | apply pw_below_drewN | apply below_drew1) | exact HB.out)⟩
end Go.Proofs.YtikbfjnbhogihaaGreatDoor.M
