/- Some of this seat's texts, joined by prune.py. -/
import Derived.Shelf.Strings.Builder1
import Derived.Shelf.Strings.Builder2
import Derived.Shelf.Strings.OnBuilder
import Derived.Shelf.Small.Bits
import Derived.Shelf.Small.Strs
import Derived.Shelf.Strings.BuilderF
import Derived.Shelf.Strings.BuilderK
import Derived.Shelf.Strconv.Itoa0
import Derived.Shelf.Unicode.Decode
import Derived.Shelf.Unicode.DecodeSlow
import Derived.Shelf.Unicode.DecodeAny
import Derived.Test.YtdfgfhnbcifheaaDoorProg
import Derived.Deep.RegionHeld3
import Derived.StillTailTactics
import Derived.Deep.DeepCutAuto
import Derived.BigQuiet
import Derived.Test.YtdfgfhnbcifheaaDoorM0
/-
  DERIVED: THE SHELF's CONTRACTS AT THIS DUMP, IN PLAIN WORDS (tools/lay-plain.mjs out of 'TrydShelf.lean', which tools/lay-shelf.mjs wrote): THE SAME DECLARATIONS UNDER THE SAME NAMES: 'import', 'namespace', 'open', 'def', 'theorem' AND NOTHING ELSE: no command of the shelf's: FOR A HAND-IN. Each laying: the table of numbers ('.._ren') and one theorem, a field a fact of the dump's own or the kernel's comparison; each contract: ONE APPLICATION.
-/
namespace Go.Proofs
open Go.Shelf
def Tryd.lays156_ren : Go.Shelf.Ren := ⟨fun | 156 => 57 | 165 => 76 | 166 => 77 | 169 => 78 | 240 => 84 | 241 => 85 | 276 => 87 | 277 => 88 | n => n, fun | 31 => 52 | 9 => 9 | 3 => 3 | 4 => 4 | 0 => 0 | 20 => 20 | 72 => 95 | 76 => 99 | 70 => 93 | 37 => 34 | 75 => 98 | 127 => 111 | 164 => 114 | 5 => 5 | 80 => 62 | n => n, fun | n => n⟩
theorem Tryd.lays156 : Go.Proofs.Lays.n156 Tryd.prog Tryd.lays156_ren := {
  mixed := by kernel_rfl
  f156 := Tryd.func57.trans (congrArg some (by kernel_rfl))
  f165 := Tryd.func76.trans (congrArg some (by kernel_rfl))
  f166 := Tryd.func77.trans (congrArg some (by kernel_rfl))
  f169 := Tryd.func78.trans (congrArg some (by kernel_rfl))
  f240 := Tryd.func84.trans (congrArg some (by kernel_rfl))
  f241 := Tryd.func85.trans (congrArg some (by kernel_rfl))
  f276 := Tryd.func87.trans (congrArg some (by kernel_rfl))
  f277 := Tryd.func88.trans (congrArg some (by kernel_rfl))
  t0 := Tryd.underlying0
  a0 := Tryd.isAgg0
  z0 := Tryd.sizeOf0
  v0 := Tryd.zeroValue0
  t3 := Tryd.underlying3
  a3 := Tryd.isAgg3
  z3 := Tryd.sizeOf3
  v3 := Tryd.zeroValue3
  t4 := Tryd.underlying4
  a4 := Tryd.isAgg4
  z4 := Tryd.sizeOf4
  v4 := Tryd.zeroValue4
  t9 := Tryd.underlying9
  a9 := Tryd.isAgg9
  z9 := Tryd.sizeOf9
  v9 := Tryd.zeroValue9
  t20 := Tryd.underlying20
  a20 := Tryd.isAgg20
  z20 := Tryd.sizeOf20
  v20 := Tryd.zeroValue20
  t31 := Tryd.underlying52
  a31 := Tryd.isAgg52
  z31 := Tryd.sizeOf52
  v31 := Tryd.zeroValue52
  t37 := Tryd.underlying34
  a37 := Tryd.isAgg34
  z37 := Tryd.sizeOf34
  v37 := Tryd.zeroValue34
  t70 := Tryd.underlying93
  a70 := Tryd.isAgg93
  z70 := Tryd.sizeOf93
  v70 := Tryd.zeroValue93
  t72 := Tryd.underlying95
  a72 := Tryd.isAgg95
  z72 := Tryd.sizeOf95
  v72 := Tryd.zeroValue95
  t75 := Tryd.underlying98
  a75 := Tryd.isAgg98
  z75 := Tryd.sizeOf98
  v75 := Tryd.zeroValue98
  t76 := Tryd.underlying99
  a76 := Tryd.isAgg99
  z76 := Tryd.sizeOf99
  v76 := Tryd.zeroValue99
  t127 := Tryd.underlying111
  a127 := Tryd.isAgg111
  z127 := Tryd.sizeOf111
  v127 := Tryd.zeroValue111
  t164 := Tryd.underlying114
  a164 := Tryd.isAgg114
  z164 := Tryd.sizeOf114
  v164 := Tryd.zeroValue114 }
theorem Tryd.Builder_Extra_156 : Builder.Extra Tryd.prog Tryd.lays156_ren := {
  sizeBuilder := by kernel_rfl
  liesBuilder := by kernel_rfl
  t5 := Tryd.underlying5
  a5 := Tryd.isAgg5
  z5 := Tryd.sizeOf5
  v5 := Tryd.zeroValue5
  infoByte := by kernel_rfl
  cellsByte := by kernel_rfl
  sizeByte := by kernel_rfl
  neB5 := by decide }
open Go.RowKit in
/-- No element: the empty string; the world is as it was. (Whatever the slice's address and capacity: a nil slice too.) (LAID: no walk: one application.) -/
theorem Tryd.strings_Join_none (a : Option Addr) (c : Nat) (sep : ByteArray) (w : World) :
    Calls Tryd.prog 57 #[.slice a 0 c, .string sep] w fun e w' => e = .returned (.string ⟨#[]⟩) ∧ w' = w := Any.strings_Join_none Tryd.lays156 Tryd.Builder_Extra_156 a c sep w
open Go.RowKit in
/-- strings.Join: "Join concatenates the elements of its first argument to create a single string. The separator string sep is placed between elements in the resulting string.": HOWEVER MANY ELEMENTS. Below the heap's end the world is as it was. (LAID: no walk: one application.) -/
theorem Tryd.strings_Join (bk o c : Nat) (xs : List ByteArray) (sep : ByteArray) (w : World) (hcells : ∀ (j : Nat) x, xs[j]? = some x → w.cell? ⟨bk, o + j, none⟩ = some (.string x)) (hbk : bk < w.heap.size) (hN : xs.length ≤ 140737488355328) (hcap : xs.length ≤ c) (hlen : (Lib.join (xs.map (·.data.toList)) sep.data.toList).length ≤ 140737488355328) :
    Calls Tryd.prog 57 #[.slice (some ⟨bk, o, none⟩) xs.length c, .string sep] w fun e w' => e = .returned (.string ⟨(Lib.join (xs.map (·.data.toList)) sep.data.toList).toArray⟩) ∧ Below w.heap.size w w' := Any.strings_Join Tryd.lays156 Tryd.Builder_Extra_156 bk o c xs sep w hcells hbk hN hcap hlen
def Tryd.lays106_ren : Go.Shelf.Ren := ⟨fun | 106 => 32 | 213 => 56 | 265 => 75 | n => n, fun | 9 => 9 | 3 => 3 | n => n, fun | n => n⟩
theorem Tryd.lays106 : Go.Proofs.Lays.n106 Tryd.prog Tryd.lays106_ren := {
  mixed := by kernel_rfl
  f106 := Tryd.func32.trans (congrArg some (by kernel_rfl))
  f213 := Tryd.func56.trans (congrArg some (by kernel_rfl))
  f265 := Tryd.func75.trans (congrArg some (by kernel_rfl))
  t3 := Tryd.underlying3
  a3 := Tryd.isAgg3
  z3 := Tryd.sizeOf3
  v3 := Tryd.zeroValue3
  t9 := Tryd.underlying9
  a9 := Tryd.isAgg9
  z9 := Tryd.sizeOf9
  v9 := Tryd.zeroValue9 }
open Go.RowKit in
/-- strings.Compare: "Compare returns an integer comparing two strings lexicographically. The result will be 0 if a == b, -1 if a < b, and +1 if a > b.": IT RETURNS 'Lib.compareBytes a b'; the world is as it was. (LAID: no walk: one application.) -/
theorem Tryd.strings_Compare (a b : ByteArray) (w : World) :
    Calls Tryd.prog 32 #[.string a, .string b] w fun e w' => e = .returned (.int .i64 (Lib.compareBytes a.data.toList b.data.toList)) ∧ w' = w := Any.strings_Compare Tryd.lays106 a b w
def Tryd.lays197_ren : Go.Shelf.Ren := ⟨fun | 197 => 53 | 260 => 64 | n => n, fun | 9 => 9 | 21 => 21 | 3 => 3 | 4 => 4 | 5 => 5 | 105 => 69 | 119 => 101 | 0 => 0 | 46 => 73 | 139 => 104 | 138 => 103 | n => n, fun | 3 => 1 | 4 => 2 | n => n⟩
theorem Tryd.lays197 : Go.Proofs.Lays.n197 Tryd.prog Tryd.lays197_ren := {
  mixed := by kernel_rfl
  f197 := Tryd.func53.trans (congrArg some (by kernel_rfl))
  f260 := Tryd.func64.trans (congrArg some (by kernel_rfl))
  t0 := Tryd.underlying0
  a0 := Tryd.isAgg0
  z0 := Tryd.sizeOf0
  v0 := Tryd.zeroValue0
  t3 := Tryd.underlying3
  a3 := Tryd.isAgg3
  z3 := Tryd.sizeOf3
  v3 := Tryd.zeroValue3
  t4 := Tryd.underlying4
  a4 := Tryd.isAgg4
  z4 := Tryd.sizeOf4
  v4 := Tryd.zeroValue4
  t5 := Tryd.underlying5
  a5 := Tryd.isAgg5
  z5 := Tryd.sizeOf5
  v5 := Tryd.zeroValue5
  t9 := Tryd.underlying9
  a9 := Tryd.isAgg9
  z9 := Tryd.sizeOf9
  v9 := Tryd.zeroValue9
  t21 := Tryd.underlying21
  a21 := Tryd.isAgg21
  z21 := Tryd.sizeOf21
  v21 := Tryd.zeroValue21
  t46 := Tryd.underlying73
  a46 := Tryd.isAgg73
  z46 := Tryd.sizeOf73
  v46 := Tryd.zeroValue73
  t105 := Tryd.underlying69
  a105 := Tryd.isAgg69
  z105 := Tryd.sizeOf69
  v105 := Tryd.zeroValue69
  t119 := Tryd.underlying101
  a119 := Tryd.isAgg101
  z119 := Tryd.sizeOf101
  t138 := Tryd.underlying103
  a138 := Tryd.isAgg103
  z138 := Tryd.sizeOf103
  v138 := Tryd.zeroValue103
  t139 := Tryd.underlying104
  a139 := Tryd.isAgg104
  z139 := Tryd.sizeOf104
  v139 := Tryd.zeroValue104
  g3 := by kernel_rfl
  g4 := by kernel_rfl }
def Tryd.lays260_ren : Go.Shelf.Ren := ⟨fun | 260 => 64 | n => n, fun | 9 => 9 | 21 => 21 | 3 => 3 | 4 => 4 | 5 => 5 | 119 => 101 | 0 => 0 | 46 => 73 | 139 => 104 | 138 => 103 | n => n, fun | 3 => 1 | 4 => 2 | n => n⟩
theorem Tryd.lays260 : Go.Proofs.Lays.n260 Tryd.prog Tryd.lays260_ren := {
  mixed := by kernel_rfl
  f260 := Tryd.func64.trans (congrArg some (by kernel_rfl))
  t0 := Tryd.underlying0
  a0 := Tryd.isAgg0
  z0 := Tryd.sizeOf0
  v0 := Tryd.zeroValue0
  t3 := Tryd.underlying3
  a3 := Tryd.isAgg3
  z3 := Tryd.sizeOf3
  v3 := Tryd.zeroValue3
  t4 := Tryd.underlying4
  a4 := Tryd.isAgg4
  z4 := Tryd.sizeOf4
  v4 := Tryd.zeroValue4
  t5 := Tryd.underlying5
  a5 := Tryd.isAgg5
  z5 := Tryd.sizeOf5
  v5 := Tryd.zeroValue5
  t9 := Tryd.underlying9
  a9 := Tryd.isAgg9
  z9 := Tryd.sizeOf9
  v9 := Tryd.zeroValue9
  t21 := Tryd.underlying21
  a21 := Tryd.isAgg21
  z21 := Tryd.sizeOf21
  v21 := Tryd.zeroValue21
  t46 := Tryd.underlying73
  a46 := Tryd.isAgg73
  z46 := Tryd.sizeOf73
  v46 := Tryd.zeroValue73
  t119 := Tryd.underlying101
  a119 := Tryd.isAgg101
  z119 := Tryd.sizeOf101
  t138 := Tryd.underlying103
  a138 := Tryd.isAgg103
  z138 := Tryd.sizeOf103
  v138 := Tryd.zeroValue103
  t139 := Tryd.underlying104
  a139 := Tryd.isAgg104
  z139 := Tryd.sizeOf104
  v139 := Tryd.zeroValue104
  g3 := by kernel_rfl
  g4 := by kernel_rfl }
open Go.RowKit Go.Lib in
/-- **unicode/utf8.DecodeRuneInString AT EVERY STRING.** (LAID: no walk: one application.) -/
theorem Tryd.utf8_DecodeRuneInString (s : ByteArray) (w : World) (hT : Lib.Utf8Tabs 1 2 w) :
    Calls Tryd.prog 53 #[.string s] w fun e w' => e = .returned (.tuple #[.int .i32 (Lib.decodeGo s).1, .int .i64 (Lib.decodeGo s).2]) ∧ Below w.heap.size w w' := Any.utf8_DecodeRuneInString Tryd.lays197 s w hT
end Go.Proofs
/- (*l1Cur).byte: the next byte of the code, and what goes on behind it. -/
namespace Go.Proofs.YtdfgfhnbcifheaaDoor.M
open Go.RowKit Go.Proofs.YtdfgfhnbcifheaaDoorW.PrintWords Go.Proofs.YtdfgfhnbcifheaaDoorW.PrintLast Go.Proofs.YtdfgfhnbcifheaaDoorW.PrintMore
set_option linter.unusedVariables false
set_option linter.unusedSimpArgs false
namespace Cur
def seedA (sd : Int) : Int := Int.tmod (wrap64 (wrap64 (sd * 1103515245) + 12345)) 2147483648
def seedB (sd x : Int) : Int := Int.tmod (wrap64 (wrap64 (wrap64 (sd * 31) + wrap64 x) + 7)) 2147483648
end Cur
def spec_l1Cur_byte.f (s : List Int) (a sd : Int) : Option (Int × Int × Int) :=
  if wrap64 (200 + wrap64 (40 * (s.length : Int))) < wrap64 (a + 1) then some (0, wrap64 (a + 1), sd)
  else if (s.length : Int) < wrap64 (a + 1) then some (Int.tmod (wrap64 (Int.tdiv (Cur.seedA sd) 65536)) 256, wrap64 (a + 1), Cur.seedA sd)
  else if 0 ≤ wrap64 (wrap64 (a + 1) - 1) then if wrap64 (wrap64 (a + 1) - 1) < (s.length : Int) then some (wrap64 (rd s (wrap64 (wrap64 (a + 1) - 1))), wrap64 (a + 1), Cur.seedB sd (rd s (wrap64 (wrap64 (a + 1) - 1)))) else none else none
set_option maxHeartbeats 2000000 in
set_option maxRecDepth 100000 in
theorem spec_l1Cur_byte.calls (g : Nat) (s0_0 : List Int) (s0_1 s0_2 : Int) (r1 r2 r3 : Int) (w0 w : World) (hI : IsS56 w0 w g s0_0 s0_1 s0_2) (hB : Below w0.heap.size w0 w) (h : spec_l1Cur_byte.f s0_0 s0_1 s0_2 = some (r1, r2, r3)) :
    Calls Tryd.prog 59 #[.pointer (some ⟨g, 0, none⟩)] w fun e w' => e = .returned (.int .i64 r1) ∧ IsS56 w0 w' g s0_0 r2 r3 ∧ Below w0.heap.size w0 w' ∧ KeepBut w w' g none := by
  have HB := Aside0.mk hB
  have HGE := Aside0.mk hI.ge
  have HK := Aside0.mk (KeepBut.refl w g none)
  unfold spec_l1Cur_byte.f at h
  generalize hA : wrap64 (s0_1 + 1) = a1 at h
  obtain ⟨W1, hW1⟩ : ∃ W, w.setCell ⟨g, 1, none⟩ (.int .i64 a1) = W := ⟨_, rfl⟩
  have hI1 : IsS56 w0 W1 g s0_0 a1 s0_2 := by rw [← hW1]; exact hI.set_1 a1
  have HB1 : Aside0 (Below w0.heap.size w0 W1) := ⟨by rw [← hW1]; exact below_set HB.out HGE.out⟩
  have HK1 : Aside0 (KeepBut w W1 g none) := ⟨by rw [← hW1]; exact KeepBut.set_ HK.out 1 _⟩
  have u1 : w.cell? ⟨g, 1, none⟩ = some (.int .i64 s0_1) := by
    obtain ⟨A0, c0, hg, _, _⟩ := hI
    exact (blk_cell hg 1).trans rfl
  have f1 : w.frozen? ⟨g, 1, none⟩ = false := by
    obtain ⟨A0, c0, hg, _, _⟩ := hI
    exact blk_frozen hg 1
  have HI1 := Aside0.mk hI1
  obtain ⟨A0, c0, hg, _, hC⟩ := hI1
  have v0 : W1.cell? ⟨g, 0, none⟩ = some (.slice A0 s0_0.length c0) := (blk_cell hg 0).trans rfl
  have v1 : W1.cell? ⟨g, 1, none⟩ = some (.int .i64 a1) := (blk_cell hg 1).trans rfl
  have v2 : W1.cell? ⟨g, 2, none⟩ = some (.int .i64 s0_2) := (blk_cell hg 2).trans rfl
  have f2 : W1.frozen? ⟨g, 2, none⟩ = false := blk_frozen hg 2
  have HG := Aside0.mk hg
  have HC := Aside0.mk hC
  clear hg hC hB hI
  have HA := Aside0.mk hA
  obtain ⟨q1, hq1⟩ : ∃ q, wrap64 (40 * (s0_0.length : Int)) = q := ⟨_, rfl⟩
  obtain ⟨q2, hq2⟩ : ∃ q, wrap64 (200 + q1) = q := ⟨_, rfl⟩
  rw [hq1, hq2] at h
  have hr1 : IntKind.i64.wrap (40 * (s0_0.length : Int)) = q1 := (i64_w _).trans hq1
  have hr2 : IntKind.i64.wrap (200 + q1) = q2 := (i64_w _).trans hq2
  by_cases c1 : q2 < a1
  · rw [if_pos c1] at h
    have c1b : decide (q2 < a1) = true := decide_eq_true c1
    simp only [Option.some.injEq, Prod.mk.injEq] at h
    obtain ⟨e1, e2, e3⟩ := h
    subst e1 e2 e3
    go_enter Tryd.func59, Tryd.ntmps59
    go_wp2_with fail
    go_region_held3 (fun W' => W'.cell? ⟨g, 0, none⟩ = some (.slice A0 s0_0.length c0) ∧ W'.cell? ⟨g, 1, none⟩ = some (.int .i64 a1)) (first | exact ⟨v0, v1⟩ | assumption) (fail)
    go_wp2_with fail
    go_ret
    exact ⟨rfl, HI1.out.drew, below_drew1 HB1.out, keep_drew HK1.out⟩
  · rw [if_neg c1] at h
    have c1b : decide (q2 < a1) = false := decide_eq_false c1
    by_cases c2 : (s0_0.length : Int) < a1
    · rw [if_pos c2] at h
      have c2b : decide ((s0_0.length : Int) < a1) = true := decide_eq_true c2
      simp only [Option.some.injEq, Prod.mk.injEq] at h
      obtain ⟨e1, e2, e3⟩ := h
      subst e1 e2 e3
      go_enter Tryd.func59, Tryd.ntmps59
      go_wp2_with fail
      go_region_held3 (fun W' => W'.cell? ⟨g, 0, none⟩ = some (.slice A0 s0_0.length c0) ∧ W'.cell? ⟨g, 1, none⟩ = some (.int .i64 a1)) (first | exact ⟨v0, v1⟩ | assumption) (fail)
      go_wp2_with fail
      go_region_held3 (fun W' => W'.cell? ⟨g, 0, none⟩ = some (.slice A0 s0_0.length c0) ∧ W'.cell? ⟨g, 1, none⟩ = some (.int .i64 a1)) (first | exact ⟨v0, v1⟩ | assumption) (fail)
      go_wp2_with fail
      go_ret
      exact ⟨rfl, (HI1.out.set_2 _).drew.drew, below_drew1 (below_drew1 (below_set HB1.out HGE.out)), keep_drew (keep_drew (KeepBut.set_ HK1.out 2 _))⟩
    · rw [if_neg c2] at h
      have c2b : decide ((s0_0.length : Int) < a1) = false := decide_eq_false c2
      by_cases c3 : 0 ≤ wrap64 (a1 - 1)
      · rw [if_pos c3] at h
        by_cases c4 : wrap64 (a1 - 1) < (s0_0.length : Int)
        · rw [if_pos c4] at h
          simp only [Option.some.injEq, Prod.mk.injEq] at h
          obtain ⟨e1, e2, e3⟩ := h
          subst e1 e2 e3
          obtain ⟨ad, ea, hx0⟩ := Kd.at_int HC.out (wrap64 (a1 - 1)) c3 c4
          subst ea
          have HXX := Aside0.mk hx0
          have hx1 : W1.cell? _ = some _ := (HB1.out.cell (World.block_lt_of_cell? w0 _ hx0)).trans hx0
          obtain ⟨i, hi⟩ : ∃ i, wrap64 (a1 - 1) = i := ⟨_, rfl⟩
          have hie := hi
          rw [hi] at c3 c4 hx1 ⊢
          obtain ⟨x, hx⟩ : ∃ x, rd s0_0 i = x := ⟨_, rfl⟩
          have hxe := hx
          rw [hx] at hx1 ⊢
          have hri : IntKind.i64.wrap (a1 - 1) = i := (i64_w _).trans hi
          obtain ⟨z1, hz1⟩ : ∃ z, wrap64 (s0_2 * 31) = z := ⟨_, rfl⟩
          obtain ⟨z2, hz2⟩ : ∃ z, wrap64 x = z := ⟨_, rfl⟩
          obtain ⟨z3, hz3⟩ : ∃ z, wrap64 (z1 + z2) = z := ⟨_, rfl⟩
          obtain ⟨z4, hz4⟩ : ∃ z, wrap64 (z3 + 7) = z := ⟨_, rfl⟩
          have hs1 : IntKind.i64.wrap (s0_2 * 31) = z1 := (i64_w _).trans hz1
          have hs2 : IntKind.i64.wrap x = z2 := (i64_w _).trans hz2
          have hs3 : IntKind.i64.wrap (z1 + z2) = z3 := (i64_w _).trans hz3
          have hs4 : IntKind.i64.wrap (z3 + 7) = z4 := (i64_w _).trans hz4
          rw [show Cur.seedB s0_2 x = Int.tmod z4 2147483648 by unfold Cur.seedB; rw [hz1, hz2, hz3, hz4]]
          have HX0 := Aside0.mk hx0
          clear hx0 hx hi
          go_enter Tryd.func59, Tryd.ntmps59
          go_wp2_with fail
          go_region_held3 (fun W' => W'.cell? ⟨g, 0, none⟩ = some (.slice (some ad) s0_0.length c0) ∧ W'.cell? ⟨g, 1, none⟩ = some (.int .i64 a1)) (first | exact ⟨v0, v1⟩ | assumption) (fail)
          go_wp2_with fail
          go_region_held3 (fun W' => W'.cell? ⟨g, 0, none⟩ = some (.slice (some ad) s0_0.length c0) ∧ W'.cell? ⟨g, 1, none⟩ = some (.int .i64 a1)) (first | exact ⟨v0, v1⟩ | assumption) (fail)
          go_wp2_with fail
          obtain ⟨W2, hW2⟩ : ∃ W, W1.drew.drew = W := ⟨_, rfl⟩
          have y0 : W2.cell? ⟨g, 0, none⟩ = some (.slice (some ad) s0_0.length c0) := by rw [← hW2]; exact v0
          have y1 : W2.cell? ⟨g, 1, none⟩ = some (.int .i64 a1) := by rw [← hW2]; exact v1
          have y2 : W2.cell? ⟨g, 2, none⟩ = some (.int .i64 s0_2) := by rw [← hW2]; exact v2
          have yx : W2.cell? (ad.add i.toNat) = some (.int .u8 x) := by rw [← hW2]; exact hx1
          have yf : W2.frozen? ⟨g, 2, none⟩ = false := by rw [← hW2]; exact f2
          rw [hW2]
          go_still_tail 23, (by kernel_rfl)
          change wpList _ _ _ _ _ W2.drew
          go_wp2_with fail
          obtain ⟨W3, hW3⟩ : ∃ W, (W2.setCell ⟨g, 2, none⟩ (.int .i64 (Int.tmod z4 2147483648))).drew = W := ⟨_, rfl⟩
          have hI3 : IsS56 w0 W3 g s0_0 a1 (Int.tmod z4 2147483648) := by rw [← hW3, ← hW2]; exact IsS56.set_2 (w0 := w0) (W := W1.drew.drew) HI1.out _
          have hB3 : Below w0.heap.size w0 W3 := by rw [← hW3, ← hW2]; exact below_drew1 (below_set (below_drew1 (below_drew1 HB1.out)) HGE.out)
          have hK3 : KeepBut w W3 g none := by rw [← hW3, ← hW2]; exact keep_drew (KeepBut.set_ (keep_drew (keep_drew HK1.out)) 2 _)
          have hg2 : (W1.drew.drew.setCell ⟨g, 2, none⟩ (.int .i64 (Int.tmod z4 2147483648))).heap[g]? = some (.cells #[.slice (some ad) s0_0.length c0, .int .i64 a1, .int .i64 (Int.tmod z4 2147483648)] 56 (0, 0)) := by simpa using blk_set (w := W1.drew.drew) HG.out 2 (.int .i64 (Int.tmod z4 2147483648))
          have hg3 : W3.heap[g]? = some (.cells #[.slice (some ad) s0_0.length c0, .int .i64 a1, .int .i64 (Int.tmod z4 2147483648)] 56 (0, 0)) := by rw [← hW3, ← hW2]; exact hg2
          have t0 : W3.cell? ⟨g, 0, none⟩ = some (.slice (some ad) s0_0.length c0) := (blk_cell hg3 0).trans rfl
          have t1 : W3.cell? ⟨g, 1, none⟩ = some (.int .i64 a1) := (blk_cell hg3 1).trans rfl
          have tx0 := (hB3.cell (World.block_lt_of_cell? w0 _ HXX.out)).trans HXX.out
          rw [hie, hxe] at tx0
          have HI3 := Aside0.mk hI3
          have HB3 := Aside0.mk hB3
          have HK3 := Aside0.mk hK3
          rw [hW3]
          clear hI3 hB3 hK3 hg2 hg3 hW3 y0 y1 y2 yx yf hW2 v0 v1 v2 hx1
          go_quiet (fail)
          go_wp2_with fail
          go_ret
          exact ⟨by rw [hz2]; rfl, HI3.out.drewN _, pw_below_drewN HB3.out _, keep_drewN HK3.out _⟩
        · rw [if_neg c4] at h; cases h
      · rw [if_neg c3] at h; cases h
end Go.Proofs.YtdfgfhnbcifheaaDoor.M
