/- spec.Canon: the labels in canonical form, each put at its place. -/
import Derived.Deep.RegionHeld3
import Derived.Deep.DeepCutAuto
import Derived.BigQuiet
import Derived.Test.YtikbfjnbhogihaaGreatDoorCan
import Derived.Test.YtikbfjnbhogihaaGreatDoorCanImp
namespace Go.Proofs.YtikbfjnbhogihaaGreatDoor.M
open Go.RowKit Go.Shelf Go.Proofs.YtikbfjnbhogihaaGreatDoor.CanSort Go.Proofs.YtikbfjnbhogihaaGreatDoor.Can Go.Proofs.YtikbfjnbhogihaaGreatDoorW.PrintWords Go.Proofs.YtikbfjnbhogihaaGreatDoorW.PrintLast Go.Proofs.YtikbfjnbhogihaaGreatDoorW.PrintMore
set_option linter.unusedVariables false
set_option linter.unusedSimpArgs false
namespace SpC
theorem rd_at (l : List Lb) (j : Nat) (h : j < l.length) : rd_T141 l (j : Int) = l[j] := by
 unfold rd_T141
 rw [Int.toNat_natCast, List.getD_eq_getElem?_getD, List.getElem?_eq_getElem h]; rfl
theorem none_R (w : World) : Kd.R k141 141 (w.alloc (.cells #[] 141)) w.heap.size (fun k => k = w.heap.size) (.slice (some ⟨w.heap.size, 0, none⟩) 0 0) [] :=
 ⟨fun k hk => by simp [Value.ownBlock] at hk; exact hk.symm, [], ⟨rfl, .inr ⟨w.heap.size, 0, #[], rfl, Nat.le_refl _, blk_new w _, Nat.le_refl _, Nat.zero_le _, rfl, rfl⟩⟩, Reps.none _ _⟩
theorem lab {w wr : World} {A : Option Addr} {l : List Lb} (hr : Kd.C k141 w A l.length l) (hb : Below w.heap.size w wr) (j : Nat) (h : j < l.length) :
  ∃ ad, A = some ad ∧ wr.cell? (ad.add (j * 2)) = some (.string l[j].f0) ∧ wr.cell? ⟨(ad.add (j * 2)).block, (ad.add (j * 2)).off + 1, none⟩ = some (.string l[j].f1) := by
 obtain ⟨ad, ea, x0, x1⟩ := at_T141 hr (j : Int) (by omega) (by omega)
 rw [Int.toNat_natCast] at x0 x1
 rw [rd_at l j h] at x0 x1
 exact ⟨ad, ea, (hb.cell (World.block_lt_of_cell? w _ x0)).trans x0, (hb.cell (World.block_lt_of_cell? w _ x1)).trans x1⟩
theorem order_from : ∀ (k acc : List Lb), (k.foldl ins acc).length = acc.length + k.length
 | [], acc => rfl
 | x :: k, acc => by rw [List.foldl_cons, order_from k, (ins_perm acc x).length_eq, List.length_cons, List.length_cons]; omega
theorem order_len (k : List Lb) : (order k).length = k.length := by unfold order; rw [order_from]; simp
theorem order_snoc (k : List Lb) (x : Lb) : order (k ++ [x]) = ins (order k) x := by unfold order; rw [List.foldl_append]; rfl
section
variable {ops : Array Oper} {o : Oper} {a : Act} {Q : Exit → Act → World → Prop} {K : Act → World → Prop} {W : World}
theorem app_step (hw : Region.wanted o (yielded ops a.tmps) = true) (s x : Operand) (ho : o.op = .call { callee := .builtin .append, args := #[s, x], argTypes := #[65, 65] })
  (v : Value) (xs ys : List Lb) (A : Option Addr) (m c base : Nat) (hs : a.eval s = v) (hx : a.eval x = .slice A m c) (HO : Kd.R k141 141 W base (fun _ => True) v xs) (HC : Kd.C k141 W A m ys) (hb : base ≤ W.heap.size) (hl : xs.length + m ≤ 1000000)
  (h : ∀ v1 w1, Kd.R k141 141 w1 base (fun _ => True) v1 (xs ++ ys) → W.grownBy w1 v.ownBlock → (v1.ownBlock = v.ownBlock ∨ ∃ b, v1.ownBlock = some b ∧ W.heap.size ≤ b) → K (a.put o.dst v1) w1) :
  if Region.wanted o (yielded ops a.tmps) = true then Oper.wp Tryz.prog o a W K Q else K (a.put o.dst undef) W :=
 Kd.R_append_rows_step k141 (w0 := W) base hw s x 65 141 _ 32 ho Tryz.underlying65 info141 rfl (by decide) (by decide) v xs ys A m c (fun _ => True) (fun _ => False) hs hx HO HC
  (fun y cs hK => by rw [k141_open hK]; exact k141_mkM W base _ y) (fun _ hk => hk.elim) (fun _ _ => trivial) ⟨rfl, rfl, rfl, Nat.le_refl _, fun _ _ => rfl⟩ hb (by omega) (fun v1 w1 h1 _ h3 h4 => h v1 w1 h1 h3 h4)
end
theorem lit_C {W : World} {b : Nat} {x : Lb} (h : W.heap[b]? = some (.cells #[.string x.f0, .string x.f1] 141 (0, 0))) : Kd.C k141 W (some ⟨b, 0, none⟩) 1 [x] := by
 refine ⟨rfl, by simp, fun _ => ⟨_, rfl, fun j p hj => ?_⟩⟩
 obtain rfl : j = 0 := by
  have := (List.getElem?_eq_some_iff.1 hj).1
  simpa using this
 obtain rfl : x = p := by simpa using hj
 refine ⟨[.string x.f0, .string x.f1], rfl, k141_mk W x, fun i u hu => ?_⟩
 rw [add_plain]
 match i, hu with
 | 0, hu => cases hu; exact (blk_cell h 0).trans rfl
 | 1, hu => cases hu; exact (blk_cell h 1).trans rfl
 | i + 2, hu => simp at hu
theorem take_C {w W : World} {A : Option Addr} {O : List Lb} {k : Nat} (h : Kd.C k141 w A O.length O) (hb : Below w.heap.size w W) (hk : k ≤ O.length) : Kd.C k141 W A k (O.take k) := by
 have := Kd.C_take (Kd.C_below h hb) hk
 rw [List.length_take, Nat.min_eq_left hk] at this
 exact this
theorem drop_C {w W : World} {A : Option Addr} {O : List Lb} {k c : Nat} (h : Kd.C k141 w A O.length O) (hb : Below w.heap.size w W) (hk : k ≤ O.length) (hc : O.length ≤ c) : Kd.C k141 W (if c = k then A else A.map (·.add (k * 2))) (O.length - k) (O.drop k) := by
 have := Kd.C_drop (Kd.C_below h hb) hk hc
 rw [List.length_drop] at this
 exact this
theorem app_below {B : Nat} {w W W' : World} {v : Value} (h : Below B w W) (hB : B ≤ W.heap.size) (hg : W.grownBy W' v.ownBlock) (hv : ∀ k, v.ownBlock = some k → B ≤ k) : Below B w W' := h.grown hg hB hv
theorem app_own {B : Nat} {W : World} {v v1 : Value} (hB : B ≤ W.heap.size) (hv : ∀ k, v.ownBlock = some k → B ≤ k) (hat : v1.ownBlock = v.ownBlock ∨ ∃ b, v1.ownBlock = some b ∧ W.heap.size ≤ b) : ∀ k, v1.ownBlock = some k → B ≤ k := by
 intro k hk
 rcases hat with h | ⟨b, h, hb⟩
 ·exact hv k (h.symm.trans hk)
 ·rw [h] at hk
  obtain rfl := Option.some.inj hk
  omega
theorem box_alloc {W : World} {g : Nat} {a b : Value} (h : W.cell? ⟨g, 0, none⟩ = some a ∧ W.cell? ⟨g, 1, none⟩ = some b) (o : Obj) : (W.alloc o).cell? ⟨g, 0, none⟩ = some a ∧ (W.alloc o).cell? ⟨g, 1, none⟩ = some b :=
 ⟨(World.cell?_alloc_lt _ _ _ (World.block_lt_of_cell? W _ h.1)).trans h.1, (World.cell?_alloc_lt _ _ _ (World.block_lt_of_cell? W _ h.2)).trans h.2⟩
def Post (l : List Lb) (w : World) (e : Ending) (w' : World) : Prop :=
 ∃ v, e = .returned (.tuple #[v, .int .i64 (can l).2.1, .int .i64 (can l).2.2]) ∧ Kd.R k141 141 w' w.heap.size (fun _ => True) v (can l).1 ∧ Below w.heap.size w w'
set_option maxHeartbeats 16000000 in
set_option maxRecDepth 100000 in
theorem walk (A : Option Addr) (c : Nat) (l : List Lb) (w : World) (hr : Kd.C k141 w A l.length l) (hc : l.length ≤ c) (hf : Fit l) :
  Calls Tryz.prog 37 #[.slice A l.length c] w fun e w' => Post l w e w' := by
 have HR := Aside0.mk hr
 have HF := Aside0.mk hf
 clear hr hf
 obtain ⟨W1, hW1⟩ : ∃ W, w.alloc (.cells #[] 141) = W := ⟨_, rfl⟩
 have HN : Aside0 (Kd.R k141 141 W1 w.heap.size (fun k => k = w.heap.size) (.slice (some ⟨w.heap.size, 0, none⟩) 0 0) []) := ⟨by rw [← hW1]; exact none_R w⟩
 have HB1 : Aside0 (Below w.heap.size w W1) := ⟨by rw [← hW1]; exact below_alloc (Below.refl _ w) _⟩
 have leave : ∀ (W : World) (c1 c2 : Int), Below W1.heap.size W1 W → can l = ([], c1, c2) → Post l w (.returned (.tuple #[.slice (some ⟨w.heap.size, 0, none⟩) 0 0, .int .i64 c1, .int .i64 c2])) W := by
  intro W c1 c2 hb he
  refine ⟨_, by rw [he], ?_, below_then HB1.out HB1.out.size hb⟩
  rw [he]
  exact Kd.R_mono (Kd.R_below HN.out hb) (fun _ _ => trivial)
 have HLv := Aside0.mk leave
 clear leave
 by_cases h16 : 16 < l.length
 ·have h16' : (16 : Int) < (l.length : Int) := by omega
  go_enter Tryz.func37, Tryz.ntmps37
  go_wp2_with fail
  go_ret3
  exact HLv.out W1 40 0 (Below.refl _ _) (can_many h16)
 ·have h16' : ¬ (16 : Int) < (l.length : Int) := by omega
  have hl16 : l.length ≤ 16 := by omega
  go_enter Tryz.func37, Tryz.ntmps37
  go_wp2_with fail
  clear hW1
  go_loopw [25] (fun i wr => ∃ j : Nat, i = .int .i64 j ∧ j ≤ l.length ∧ Aside0 (Below W1.heap.size W1 wr) ∧ Aside0 (firstF (l.drop j) j = firstF l 0)) (fun i _ => l.length - (intOf i).toNat)
  case atStart => exact ⟨0, rfl, Nat.zero_le _, ⟨Below.refl _ _⟩, ⟨rfl⟩⟩
  case round =>
   obtain ⟨j, rfl, hj, HBr, HFr⟩ := hrel
   by_cases hlt : j < l.length
   ·obtain ⟨ad, ea, x0, x1⟩ := lab HR.out (below_then HB1.out HB1.out.size HBr.out) j hlt
    subst ea
    obtain ⟨x, hx⟩ : ∃ x, x = l[j] := ⟨_, rfl⟩
    rw [← hx] at x0 x1
    have hfr := HFr.out
    rw [List.drop_eq_getElem_cons hlt, ← hx] at hfr
    have HFr2 := Aside0.mk hfr
    have HX := Aside0.mk hx
    clear hx hfr
    obtain ⟨K1, h1⟩ := spec_name x.f0
    have H1 := Aside0.mk (h1 K1 (Nat.le_refl _))
    have hfx : x.f0.size ≤ 1073741824 ∧ x.f1.size ≤ 1073741824 := HF.out x (by rw [HX.out]; exact List.getElem_mem _)
    obtain ⟨K2, h2⟩ := spec_value x.f1 hfx.2
    have H2 := Aside0.mk (h2 K2 (Nat.le_refl _))
    clear h1 h2 hfx
    obtain ⟨Wa, hWa⟩ : ∃ W, wr.alloc (.cells #[.string x.f0, .string x.f1] 141) = W := ⟨_, rfl⟩
    have hxa : Wa.heap[wr.heap.size]? = some (.cells #[.string x.f0, .string x.f1] 141 (0, 0)) := by rw [← hWa]; exact blk_new wr _
    have HXa := Aside0.mk hxa
    have HBa : Aside0 (Below W1.heap.size W1 Wa) := ⟨by rw [← hWa]; exact below_alloc HBr.out _⟩
    have u0 : Wa.cell? ⟨wr.heap.size, 0, none⟩ = some (.string x.f0) := (blk_cell hxa 0).trans rfl
    clear hxa
    go_wp2_with fail
    clear hWa x0 x1 u0
    refine (spec_l3NameOK.calls K1 x.f0 (nameOK x.f0) Wa H1.out).mono ?_
    rintro e w2 ⟨rfl, hd2⟩
    have HB2 := Aside0.mk (below_then HBa.out HBa.out.size hd2.below)
    have u1 : w2.cell? ⟨wr.heap.size, 1, none⟩ = some (.string x.f1) := (blk_cell ((hd2.below.block _ (blk_lt HXa.out)).trans HXa.out) 1).trans rfl
    clear hd2
    cases hn : nameOK x.f0 with
    | false =>
     have hq : fault x = 41 := by unfold fault; rw [hn]; rfl
     have HQ := Aside0.mk (can_fault (l := l) h16 (HFr2.out.symm.trans (firstF_bad (by rw [hq]; decide))))
     have HQ2 := Aside0.mk hq
     clear hq u1
     go_wp2_with fail
     go_ret3
     exact HLv.out w2 41 j HB2.out (by rw [HQ.out, HQ2.out])
    | true =>
     have hq : fault x = Utf.vf x.f1 := by unfold fault; rw [hn]; rfl
     have HQ2 := Aside0.mk hq
     clear hq
     go_wp2_with fail
     clear u1
     obtain ⟨cv, hcv⟩ : ∃ cv, cv = Utf.vf x.f1 := ⟨_, rfl⟩
     rw [← hcv] at H2 HQ2
     clear hcv
     refine (spec_l3Value.calls K2 x.f1 cv w2 H2.out).mono ?_
     rintro e w3 ⟨rfl, hb3⟩
     have HB3 := Aside0.mk (below_then HB2.out HB2.out.size hb3)
     clear hb3
     by_cases hc0 : cv = 0
     ·subst hc0
      go_wp2_with fail
      go_round
      case rel => exact ⟨j + 1, by go_num, by omega, HB3, ⟨by rw [← HFr2.out, firstF_ok HQ2.out]⟩⟩
      case measure => simp [intOf]; omega
     ·have HQ := Aside0.mk (can_fault (l := l) h16 (HFr2.out.symm.trans (firstF_bad (by rw [HQ2.out]; exact hc0))))
      go_wp2_with fail
      go_ret3
      exact HLv.out w3 cv j HB3.out (by rw [HQ.out, HQ2.out])
   ·obtain rfl : j = l.length := by omega
    have hfn := HFr.out
    rw [List.drop_eq_nil_of_le (Nat.le_refl _)] at hfn
    have HFn : Aside0 (firstF l 0 = none) := ⟨hfn.symm⟩
    clear hfn
    go_wp2_with fail
    go_loopw [47] (fun i wr => ∃ j : Nat, i = .int .i64 j ∧ j ≤ l.length ∧ Aside0 (Below W1.heap.size W1 wr) ∧ Aside0 (firstT (l.take j) (l.drop j) = firstT [] l)) (fun i _ => l.length - (intOf i).toNat)
    case atStart => exact ⟨0, rfl, Nat.zero_le _, HBr, ⟨rfl⟩⟩
    case round =>
     obtain ⟨j, rfl, hj, HBr, HTr⟩ := hrel
     by_cases hlt : j < l.length
     ·obtain ⟨ad, ea, x0, x1⟩ := lab HR.out (below_then HB1.out HB1.out.size HBr.out) j hlt
      obtain ⟨x, hx⟩ : ∃ x, x = l[j] := ⟨_, rfl⟩
      rw [← hx] at x0 x1
      have htr := HTr.out
      rw [List.drop_eq_getElem_cons hlt, ← hx] at htr
      have HTr2 := Aside0.mk htr
      have HX := Aside0.mk hx
      clear hx htr
      obtain ⟨i0, hi0, _, hsz0, _⟩ := info_parts info141
      have hcut : ∀ W : World, (Instr.slice 65 (.slice A l.length c) none (some (.int .i64 (j : Int))) none).run Tryz.prog W = .ok (.slice A j c) W := by
       intro W
       have := cut_to 65 141 .i64 Tryz.underlying65 hi0 A l.length c (j : Int) (by omega) (by omega) hc W
       rw [Int.toNat_natCast] at this
       exact this
      clear hi0 hsz0
      subst ea
      obtain ⟨Wa, hWa⟩ : ∃ W, wr.alloc (.cells #[.string x.f0, .string x.f1] 141) = W := ⟨_, rfl⟩
      obtain ⟨g, hg⟩ : ∃ g, wr.heap.size = g := ⟨_, rfl⟩
      have hxa : Wa.heap[g]? = some (.cells #[.string x.f0, .string x.f1] 141 (0, 0)) := by rw [← hWa, ← hg]; exact blk_new wr _
      have HXa := Aside0.mk hxa
      have HBa : Aside0 (Below W1.heap.size W1 Wa) := ⟨by rw [← hWa]; exact below_alloc HBr.out _⟩
      clear hxa
      go_wp2_with fail
      clear hWa x0 x1 hcut hg
      go_loopw [56] (fun i wi => ∃ q : Nat, i = .int .i64 q ∧ q ≤ j ∧ Aside0 (Below W1.heap.size W1 wi) ∧ Aside0 (wi.heap[g]? = some (.cells #[.string x.f0, .string x.f1] 141 (0, 0))) ∧ Aside0 ((l.take q).any (named x) = false)) (fun i _ => j - (intOf i).toNat)
      case atStart => exact ⟨0, rfl, Nat.zero_le _, HBa, HXa, ⟨by simp⟩⟩
      case round =>
       obtain ⟨q, rfl, hq, HBq, HXq, HAq⟩ := hrel
       by_cases hqt : q < j
       ·obtain ⟨ad2, ea2, y0, y1⟩ := lab HR.out (below_then HB1.out HB1.out.size HBq.out) q (by omega)
        obtain rfl := Option.some.inj ea2
        obtain ⟨y, hy⟩ : ∃ y, y = l[q]'(by omega) := ⟨_, rfl⟩
        rw [← hy] at y0 y1
        have HY := Aside0.mk hy
        clear hy ea2
        obtain ⟨Wd, hWd⟩ : ∃ W, wr.alloc (.cells #[.string y.f0, .string y.f1] 141) = W := ⟨_, rfl⟩
        obtain ⟨g2, hg2⟩ : ∃ g2, wr.heap.size = g2 := ⟨_, rfl⟩
        have hyd : Wd.heap[g2]? = some (.cells #[.string y.f0, .string y.f1] 141 (0, 0)) := by rw [← hWd, ← hg2]; exact blk_new wr _
        have hxd : Wd.heap[g]? = some (.cells #[.string x.f0, .string x.f1] 141 (0, 0)) := by rw [← hWd]; exact blk_alloc HXq.out _
        have HBd : Aside0 (Below W1.heap.size W1 Wd) := ⟨by rw [← hWd]; exact below_alloc HBq.out _⟩
        have v0 : Wd.cell? ⟨g2, 0, none⟩ = some (.string y.f0) := (blk_cell hyd 0).trans rfl
        have v1 : Wd.cell? ⟨g, 0, none⟩ = some (.string x.f0) := (blk_cell hxd 0).trans rfl
        have HXd := Aside0.mk hxd
        clear hyd hxd
        by_cases heq : y.f0.toList = x.f0.toList
        ·have hany : (l.take j).any (named x) = true := by
          rw [List.any_eq_true]
          refine ⟨y, ?_, by unfold named; exact decide_eq_true heq⟩
          rw [HY.out]
          exact List.mem_take_iff_getElem.2 ⟨q, by omega, rfl⟩
         have htw : firstT [] l = some j := by
          rw [← HTr2.out, firstT_yes hany, List.length_take, Nat.min_eq_left hj]
         have HQ := Aside0.mk (can_twice h16 HFn.out htw)
         have hbq : (y.f0.toList == x.f0.toList) = true := beq_iff_eq.mpr heq
         clear hany htw heq
         go_wp2_with fail
         go_ret3
         exact HLv.out Wd 45 j HBd.out HQ.out
        ·have HEq := Aside0.mk heq
         have hbq : (y.f0.toList == x.f0.toList) = false := beq_eq_false_iff_ne.mpr heq
         clear heq
         go_wp2_with fail
         go_round
         case rel =>
          refine ⟨q + 1, by go_num, by omega, HBd, HXd, ⟨?_⟩⟩
          rw [List.take_add_one, List.getElem?_eq_getElem (by omega), Option.toList_some, List.any_append, HAq.out, ← HY.out]
          unfold named
          simp [HEq.out]
         case measure => simp [intOf]; omega
       ·obtain rfl : q = j := by omega
        have HNo := Aside0.mk (firstT_no (l := l.drop (q + 1)) HAq.out)
        go_wp2_with fail
        go_round
        case rel =>
         refine ⟨q + 1, by go_num, by omega, HBq, ⟨?_⟩⟩
         rw [← HTr2.out, HNo.out, List.take_add_one, List.getElem?_eq_getElem hlt, Option.toList_some, HX.out]
        case measure => simp [intOf]; omega
     ·obtain rfl : j = l.length := by omega
      have htn := HTr.out
      rw [List.drop_eq_nil_of_le (Nat.le_refl _)] at htn
      have HTn : Aside0 (firstT [] l = none) := ⟨htn.symm⟩
      clear htn
      obtain ⟨W3, hW3⟩ : ∃ W, wr.alloc (.cells #[] 141) = W := ⟨_, rfl⟩
      obtain ⟨go, hgo⟩ : ∃ g, wr.heap.size = g := ⟨_, rfl⟩
      have HO3 : Aside0 (Kd.R k141 141 W3 W1.heap.size (fun _ => True) (.slice (some ⟨go, 0, none⟩) 0 0) []) := ⟨by
       rw [← hW3, ← hgo]
       exact Kd.R_lower (Kd.R_mono (none_R wr) (fun _ _ => trivial)) HBr.out.size⟩
      have HB3 : Aside0 (Below W1.heap.size W1 W3) := ⟨by rw [← hW3]; exact below_alloc HBr.out _⟩
      go_wp2_with fail
      clear hW3 hgo
      go_loopw [72, 14, 13] (fun i m o wr => ∃ (j : Nat) (b : Bool), i = .int .i64 j ∧ m = .bool b ∧ j ≤ l.length ∧ Aside0 (Below W1.heap.size W1 wr) ∧ Aside0 (Kd.R k141 141 wr W1.heap.size (fun _ => True) o (order ((l.take j).filter keep))) ∧ Aside0 (b = (l.take j).any isMet)) (fun i _ _ _ => l.length - (intOf i).toNat)
      case atStart => exact ⟨0, false, rfl, rfl, Nat.zero_le _, HB3, HO3, ⟨rfl⟩⟩
      case round =>
       obtain ⟨j, b, rfl, rfl, hj, HBr, HOr, HMr⟩ := hrel
       by_cases hlt : j < l.length
       ·obtain ⟨ad, ea, x0, x1⟩ := lab HR.out (below_then HB1.out HB1.out.size HBr.out) j hlt
        subst ea
        obtain ⟨x, hx⟩ : ∃ x, x = l[j] := ⟨_, rfl⟩
        rw [← hx] at x0 x1
        have HX := Aside0.mk hx
        clear hx
        have htk : l.take (j + 1) = l.take j ++ [x] := by rw [List.take_add_one, List.getElem?_eq_getElem hlt, Option.toList_some, HX.out]
        have HTk := Aside0.mk htk
        clear htk
        obtain ⟨O, hO⟩ : ∃ O, O = order ((l.take j).filter keep) := ⟨_, rfl⟩
        have hOl : O.length ≤ 16 := by rw [hO, order_len]; exact Nat.le_trans (List.length_filter_le _ _) (by rw [List.length_take]; omega)
        have HO : Aside0 (Kd.R k141 141 wr W1.heap.size (fun _ => True) _ O) := ⟨by rw [hO]; exact HOr.out⟩
        have HOe := Aside0.mk hO
        clear hO
        obtain ⟨A3, c3, e3⟩ := Kd.R_slice HO.out
        subst e3
        obtain ⟨Wa, hWa⟩ : ∃ W, wr.alloc (.cells #[.string x.f0, .string x.f1] 141) = W := ⟨_, rfl⟩
        obtain ⟨g, hg⟩ : ∃ g, wr.heap.size = g := ⟨_, rfl⟩
        have hxa : Wa.heap[g]? = some (.cells #[.string x.f0, .string x.f1] 141 (0, 0)) := by rw [← hWa, ← hg]; exact blk_new wr _
        have HXa := Aside0.mk hxa
        have HBa : Aside0 (Below W1.heap.size W1 Wa) := ⟨by rw [← hWa]; exact below_alloc HBr.out _⟩
        have HOa : Aside0 (Kd.R k141 141 Wa W1.heap.size (fun _ => True) (.slice A3 O.length c3) O) := ⟨by rw [← hWa]; exact Kd.R_alloc HO.out _⟩
        have hna : some g ≠ (Value.slice A3 O.length c3).ownBlock := fun e => by
         have := Kd.R_lt HO.out g e.symm
         omega
        have HNa := Aside0.mk hna
        have u1 : Wa.cell? ⟨g, 1, none⟩ = some (.string x.f1) := (blk_cell hxa 1).trans rfl
        have u0 : Wa.cell? ⟨g, 0, none⟩ = some (.string x.f0) := (blk_cell hxa 0).trans rfl
        clear hxa hna
        by_cases hv : x.f1.toList = []
        ·have hvb : (x.f1.toList == ([] : List UInt8)) = true := beq_iff_eq.mpr hv
         have hkp : keep x = false := by unfold keep; simp [hv]
         have HKp := Aside0.mk hkp
         clear hv hkp
         go_wp2_with fail
         go_round
         case rel =>
          refine ⟨j + 1, b, by go_num, rfl, by omega, HBa, ⟨?_⟩, ⟨?_⟩⟩
          ·rw [HTk.out, List.filter_append, show [x].filter keep = [] by simp [HKp.out], List.append_nil, ← HOe.out]
           exact HOa.out
          ·rw [HTk.out, List.any_append, ← HMr.out]; simp [isMet, HKp.out]
         case measure => simp [intOf]; omega
        ·have hvb : (x.f1.toList == ([] : List UInt8)) = false := beq_eq_false_iff_ne.mpr hv
         have hkp : keep x = true := by unfold keep; simp [hv]
         have HKp := Aside0.mk hkp
         clear hv hkp
         obtain ⟨em, hem⟩ : ∃ em, (x.f0.toList == ([95, 95, 110, 97, 109, 101, 95, 95] : List UInt8)) = em := ⟨_, rfl⟩
         cases b with
         | true =>
          have hbt : true = (l.take (j + 1)).any isMet := by rw [HTk.out, List.any_append, ← HMr.out]; rfl
          have HBt := Aside0.mk hbt
          clear hbt
          go_wp2_with fail
          clear hWa hg u1 u0 hem
          go_loopw [17] (fun q wi => ∃ k : Nat, q = .int .i64 k ∧ k ≤ O.length ∧ Aside0 (Below W1.heap.size W1 wi) ∧ Aside0 (Kd.R k141 141 wi W1.heap.size (fun _ => True) (.slice A3 O.length c3) O) ∧ Aside0 (wi.heap[g]? = some (.cells #[.string x.f0, .string x.f1] 141 (0, 0))) ∧ Aside0 (∀ p, p < k → ∀ h : p < O.length, less O[p] x = true)) (fun q _ => O.length - (intOf q).toNat)
          case atStart => exact ⟨0, rfl, Nat.zero_le _, HBa, HOa, HXa, ⟨fun p hp => by omega⟩⟩
          case round =>
           obtain ⟨k, rfl, hk, HBk, HOk, HXk, HLk⟩ := hrel
           have u0 : wr.cell? ⟨g, 0, none⟩ = some (.string x.f0) := (blk_cell HXk.out 0).trans rfl
           by_cases hkt : k < O.length
           ·have hC := (Kd.R_reads' HOk.out).2.2
            obtain ⟨ad3, ea3, y0, y1⟩ := lab hC (Below.refl _ _) k hkt
            clear hC
            subst ea3
            obtain ⟨y, hy⟩ : ∃ y, y = O[k] := ⟨_, rfl⟩
            rw [← hy] at y0 y1
            have HY := Aside0.mk hy
            clear hy
            obtain ⟨lb, hlb⟩ : ∃ lb, Op.bytesLess y.f0.toList x.f0.toList = lb := ⟨_, rfl⟩
            cases lb with
            | true =>
             have HLb := Aside0.mk hlb
             go_wp2_with fail
             go_quiet (fail)
             go_wp2_with fail
             go_round
             case rel =>
              refine ⟨k + 1, by go_num, by omega, ⟨pw_below_drewN HBk.out _⟩, ⟨Kd.R_drewN HOk.out _⟩, HXk, ⟨fun p hp h => ?_⟩⟩
              by_cases hpk : p < k
              ·exact HLk.out p hpk h
              ·obtain rfl : p = k := by omega
               rw [← HY.out]; exact HLb.out
             case measure => simp [intOf]; omega
            | false =>
             have hins : ins O x = O.take k ++ x :: O.drop k := ins_at O x k hk HLk.out (fun h => by rw [← HY.out]; exact hlb)
             have HIns := Aside0.mk hins
             clear hins
             go_wp2_with fail
             go_quiet (fail)
             go_wp2_with fail
             obtain ⟨Wq, hWq⟩ : ∃ W, wr.drewN nq = W := ⟨_, rfl⟩
             have HBq : Aside0 (Below W1.heap.size W1 Wq) := ⟨by rw [← hWq]; exact pw_below_drewN HBk.out _⟩
             have HOq : Aside0 (Kd.R k141 141 Wq W1.heap.size (fun _ => True) (.slice (some ad3) O.length c3) O) := ⟨by rw [← hWq]; exact Kd.R_drewN HOk.out _⟩
             have HXq : Aside0 (Wq.heap[g]? = some (.cells #[.string x.f0, .string x.f1] 141 (0, 0))) := ⟨by rw [← hWq]; exact HXk.out⟩
             rw [hWq]
             clear hWq u0 y0 y1 hlb
             obtain ⟨i0, hi0, _, hsz0, _⟩ := info_parts info141
             have hoc : O.length ≤ c3 := (Kd.R_reads' HOq.out).2.1
             have hcl : ∀ W : World, (Instr.slice 65 (.slice (some ad3) O.length c3) none (some (.int .i64 (k : Int))) none).run Tryz.prog W = .ok (.slice (some ad3) k c3) W := by
              intro W
              have := cut_to 65 141 .i64 Tryz.underlying65 hi0 (some ad3) O.length c3 (k : Int) (by omega) (by omega) hoc W
              rw [Int.toNat_natCast] at this
              exact this
             obtain ⟨DD, hDD⟩ : ∃ D, D = (if c3 = k then (some ad3) else Option.map (fun a => a.add (k * 2)) (some ad3)) := ⟨_, rfl⟩
             have hcd : ∀ W : World, (Instr.slice 65 (.slice (some ad3) O.length c3) (some (.int .i64 (k : Int))) none none).run Tryz.prog W = .ok (.slice DD (O.length - k) (c3 - k)) W := by
              intro W
              have := cut_from 65 141 .i64 Tryz.underlying65 hi0 2 hsz0 (some ad3) O.length c3 (k : Int) (by omega) (by omega) W
              rw [Int.toNat_natCast, ← hDD] at this
              exact this
             have hTk : ∀ W, Below Wq.heap.size Wq W → Kd.C k141 W (some ad3) k (O.take k) := fun W hb => take_C (Kd.R_reads' HOq.out).2.2 hb hk
             have hDr : ∀ W, Below Wq.heap.size Wq W → Kd.C k141 W DD (O.length - k) (O.drop k) := fun W hb => by rw [hDD]; exact drop_C (Kd.R_reads' HOq.out).2.2 hb hk hoc
             have hE : ∀ W : World, Wq.heap.size ≤ W.heap.size → Kd.R k141 141 (W.alloc (.cells #[] 141)) W1.heap.size (fun _ => True) (.slice (some ⟨W.heap.size, 0, none⟩) 0 0) [] := fun W hw => Kd.R_lower (Kd.R_mono (none_R W) (fun _ _ => trivial)) (Nat.le_trans HBq.out.size hw)
             have HTkq := Aside0.mk hTk
             have HDrq := Aside0.mk hDr
             have HEq := Aside0.mk hE
             have hsq : W1.heap.size ≤ Wq.heap.size := HBq.out.size
             have HSq := Aside0.mk hsq
             have cq0 : Wq.drew.cell? ⟨g, 0, none⟩ = some (.string x.f0) := (blk_cell HXq.out 0).trans rfl
             have cq1 : Wq.drew.cell? ⟨g, 1, none⟩ = some (.string x.f1) := (blk_cell HXq.out 1).trans rfl
             clear hTk hDr hE hDD hi0 hsz0 hsq hoc
             have BA : Aside0 (Below Wq.heap.size Wq (Wq.alloc (.cells #[] 141)).drew) := ⟨below_drew1 (below_alloc (Below.refl _ _) _)⟩
             have BB : Aside0 (Below Wq.heap.size Wq ((Wq.alloc (.cells #[] 141)).alloc (.cells #[.string x.f0, .string x.f1] 141)).drew) := ⟨below_drew1 (below_alloc (below_alloc (Below.refl _ _) _) _)⟩
             have BC1 : Aside0 (Below Wq.heap.size Wq (Wq.alloc (.cells #[.string x.f0, .string x.f1] 141))) := ⟨below_alloc (Below.refl _ _) _⟩
             have BC : Aside0 (Below Wq.heap.size Wq ((Wq.alloc (.cells #[.string x.f0, .string x.f1] 141)).alloc (.cells #[] 141)).drew) := ⟨below_drew1 (below_alloc BC1.out _)⟩
             have RA : Aside0 (Kd.R k141 141 (Wq.alloc (.cells #[] 141)).drew W1.heap.size (fun _ => True) (.slice (some ⟨Wq.heap.size, 0, none⟩) 0 0) []) := ⟨Kd.R_drew (HEq.out Wq (Nat.le_refl _))⟩
             have RB : Aside0 (Kd.R k141 141 ((Wq.alloc (.cells #[] 141)).alloc (.cells #[.string x.f0, .string x.f1] 141)).drew W1.heap.size (fun _ => True) (.slice (some ⟨Wq.heap.size, 0, none⟩) 0 0) []) := ⟨Kd.R_drew (Kd.R_alloc (HEq.out Wq (Nat.le_refl _)) _)⟩
             have RC : Aside0 (Kd.R k141 141 ((Wq.alloc (.cells #[.string x.f0, .string x.f1] 141)).alloc (.cells #[] 141)).drew W1.heap.size (fun _ => True) (.slice (some ⟨Wq.heap.size + 1, 0, none⟩) 0 0) []) := ⟨by have hh := HEq.out (Wq.alloc (.cells #[.string x.f0, .string x.f1] 141)) BC1.out.size; rw [show (Wq.alloc (.cells #[.string x.f0, .string x.f1] 141)).heap.size = Wq.heap.size + 1 from World.size_alloc _ _] at hh; exact Kd.R_drew hh⟩
             have LB : Aside0 (((Wq.alloc (.cells #[] 141)).alloc (.cells #[.string x.f0, .string x.f1] 141)).drew.heap[Wq.heap.size + 1]? = some (.cells #[.string x.f0, .string x.f1] 141 (0, 0))) := ⟨by rw [show Wq.heap.size + 1 = (Wq.alloc (.cells #[] 141)).heap.size from (World.size_alloc _ _).symm]; exact blk_new (Wq.alloc (.cells #[] 141)) _⟩
             have LC : Aside0 (((Wq.alloc (.cells #[.string x.f0, .string x.f1] 141)).alloc (.cells #[] 141)).drew.heap[Wq.heap.size]? = some (.cells #[.string x.f0, .string x.f1] 141 (0, 0))) := ⟨blk_alloc (blk_new Wq _) _⟩
             have hSq : ∀ W, Below Wq.heap.size Wq W → W.cell? ⟨g, 0, none⟩ = some (.string x.f0) ∧ W.cell? ⟨g, 1, none⟩ = some (.string x.f1) := fun W hb => ⟨(blk_cell ((hb.block _ (blk_lt HXq.out)).trans HXq.out) 0).trans rfl, (blk_cell ((hb.block _ (blk_lt HXq.out)).trans HXq.out) 1).trans rfl⟩
             have HS2 := Aside0.mk hSq
             have hnl : ∀ W : World, W.heap.size = Wq.heap.size → True := fun _ _ => trivial
             clear hSq hnl
             go_region_held3 (fun W' => W'.cell? ⟨g, 0, none⟩ = some (.string x.f0) ∧ W'.cell? ⟨g, 1, none⟩ = some (.string x.f1))
              (first | exact HS2.out _ BA.out | exact HS2.out _ BB.out | exact HS2.out _ BC.out | exact HS2.out _ BC1.out | exact ⟨cq0, cq1⟩ | assumption | exact box_alloc (by assumption) _)
              (first
               | ((with_reducible show (if Region.wanted ⟨some 105, _, _, _, _, _⟩ _ = true then Oper.wp _ _ _ ((Wq.alloc (.cells #[] 141)).drew) _ _ else _)); refine app_step (by rfl) (.tmp 101) (.tmp 104) (by rfl) (.slice (some ⟨Wq.heap.size, 0, none⟩) 0 0) [] (O.take k) (some ad3) k c3 W1.heap.size (by rfl) (by rfl) RA.out (HTkq.out _ BA.out) (Nat.le_trans HSq.out BA.out.size) (by simp only [List.length_nil]; omega) ?_; intro va wa ha ga oa; have Ha := Aside0.mk ha; have Na := Aside0.mk (app_own (B := Wq.heap.size) BA.out.size (fun q hq => by cases hq; first | exact Nat.le_refl _ | exact Nat.le_succ _ | (rw [World.size_alloc]; omega)) oa); have Ba := Aside0.mk (app_below BA.out BA.out.size ga (fun q hq => by cases hq; first | exact Nat.le_refl _ | exact Nat.le_succ _ | (rw [World.size_alloc]; omega))); have sa := HS2.out _ Ba.out; have Ga := Aside0.mk ga; clear ha ga oa)
               | ((with_reducible show (if Region.wanted ⟨some 105, _, _, _, _, _⟩ _ = true then Oper.wp _ _ _ (((Wq.alloc (.cells #[] 141)).alloc (.cells #[.string x.f0, .string x.f1] 141)).drew) _ _ else _)); refine app_step (by rfl) (.tmp 101) (.tmp 104) (by rfl) (.slice (some ⟨Wq.heap.size, 0, none⟩) 0 0) [] (O.take k) (some ad3) k c3 W1.heap.size (by rfl) (by rfl) RB.out (HTkq.out _ BB.out) (Nat.le_trans HSq.out BB.out.size) (by simp only [List.length_nil]; omega) ?_; intro vb wb hb gb ob; have Hb := Aside0.mk hb; have Nb := Aside0.mk (app_own (B := Wq.heap.size) BB.out.size (fun q hq => by cases hq; first | exact Nat.le_refl _ | exact Nat.le_succ _ | (rw [World.size_alloc]; omega)) ob); have Bb := Aside0.mk (app_below BB.out BB.out.size gb (fun q hq => by cases hq; first | exact Nat.le_refl _ | exact Nat.le_succ _ | (rw [World.size_alloc]; omega))); have sb := HS2.out _ Bb.out; have Gb := Aside0.mk gb; clear hb gb ob)
               | ((with_reducible show (if Region.wanted ⟨some 105, _, _, _, _, _⟩ _ = true then Oper.wp _ _ _ (((Wq.alloc (.cells #[.string x.f0, .string x.f1] 141)).alloc (.cells #[] 141)).drew) _ _ else _)); refine app_step (by rfl) (.tmp 101) (.tmp 104) (by rfl) (.slice (some ⟨Wq.heap.size + 1, 0, none⟩) 0 0) [] (O.take k) (some ad3) k c3 W1.heap.size (by rfl) (by rfl) RC.out (HTkq.out _ BC.out) (Nat.le_trans HSq.out BC.out.size) (by simp only [List.length_nil]; omega) ?_; intro vc wc hc gc oc; have Hc := Aside0.mk hc; have Nc := Aside0.mk (app_own (B := Wq.heap.size) BC.out.size (fun q hq => by cases hq; first | exact Nat.le_refl _ | exact Nat.le_succ _ | (rw [World.size_alloc]; omega)) oc); have Bc := Aside0.mk (app_below BC.out BC.out.size gc (fun q hq => by cases hq; first | exact Nat.le_refl _ | exact Nat.le_succ _ | (rw [World.size_alloc]; omega))); have sc := HS2.out _ Bc.out; have Gc := Aside0.mk gc; clear hc gc oc)
               | ((with_reducible show (if Region.wanted ⟨some 108, _, _, _, _, _⟩ _ = true then Oper.wp _ _ _ (wa.alloc (.cells #[.string x.f0, .string x.f1] 141)) _ _ else _)); refine app_step (by rfl) (.tmp 105) (.tmp 107) (by rfl) _ ([] ++ O.take k) [x] _ _ _ W1.heap.size (by rfl) (by rfl) (Kd.R_alloc Ha.out _) (lit_C (blk_new wa _)) (Nat.le_trans HSq.out (below_alloc Ba.out _).size) (by simp only [List.length_append, List.length_nil, List.length_take]; omega) ?_; intro va2 wa2 ha2 ga2 oa2; have Ha2 := Aside0.mk ha2; have Na2 := Aside0.mk (app_own (B := Wq.heap.size) (below_alloc Ba.out _).size Na.out oa2); have Ba2 := Aside0.mk (app_below (below_alloc Ba.out _) (below_alloc Ba.out _).size ga2 Na.out); have sa2 := HS2.out _ Ba2.out; clear ha2 ga2 oa2)
               | ((with_reducible show (if Region.wanted ⟨some 108, _, _, _, _, _⟩ _ = true then Oper.wp _ _ _ (wb) _ _ else _)); refine app_step (by rfl) (.tmp 105) (.tmp 107) (by rfl) _ ([] ++ O.take k) [x] _ _ _ W1.heap.size (by rfl) (by rfl) Hb.out (lit_C ((Gb.out.block _ (blk_lt LB.out) (fun e => by simp [Value.ownBlock] at e)).trans LB.out)) (Nat.le_trans HSq.out Bb.out.size) (by simp only [List.length_append, List.length_nil, List.length_take]; omega) ?_; intro vb2 wb2 hb2 gb2 ob2; have Hb2 := Aside0.mk hb2; have Nb2 := Aside0.mk (app_own (B := Wq.heap.size) Bb.out.size Nb.out ob2); have Bb2 := Aside0.mk (app_below Bb.out Bb.out.size gb2 Nb.out); have sb2 := HS2.out _ Bb2.out; clear hb2 gb2 ob2)
               | ((with_reducible show (if Region.wanted ⟨some 108, _, _, _, _, _⟩ _ = true then Oper.wp _ _ _ (wc) _ _ else _)); refine app_step (by rfl) (.tmp 105) (.tmp 107) (by rfl) _ ([] ++ O.take k) [x] _ _ _ W1.heap.size (by rfl) (by rfl) Hc.out (lit_C ((Gc.out.block _ (blk_lt LC.out) (fun e => by simp [Value.ownBlock] at e)).trans LC.out)) (Nat.le_trans HSq.out Bc.out.size) (by simp only [List.length_append, List.length_nil, List.length_take]; omega) ?_; intro vc2 wc2 hc2 gc2 oc2; have Hc2 := Aside0.mk hc2; have Nc2 := Aside0.mk (app_own (B := Wq.heap.size) Bc.out.size Nc.out oc2); have Bc2 := Aside0.mk (app_below Bc.out Bc.out.size gc2 Nc.out); have sc2 := HS2.out _ Bc2.out; clear hc2 gc2 oc2)
               | ((with_reducible show (if Region.wanted ⟨some 112, _, _, _, _, _⟩ _ = true then Oper.wp _ _ _ (wa2) _ _ else _)); refine app_step (by rfl) (.tmp 108) (.tmp 111) (by rfl) _ ([] ++ O.take k ++ [x]) (O.drop k) DD (O.length - k) _ W1.heap.size (by rfl) (by rfl) Ha2.out (HDrq.out _ Ba2.out) (Nat.le_trans HSq.out Ba2.out.size) (by simp only [List.length_append, List.length_nil, List.length_take, List.length_cons]; omega) ?_; intro v3 w3 h3 g3 o3; have s3 := HS2.out _ (app_below Ba2.out Ba2.out.size g3 Na2.out); have HR3 := Aside0.mk h3; have HB3 := Aside0.mk (app_below Ba2.out Ba2.out.size g3 Na2.out); clear h3 g3 o3)
               | ((with_reducible show (if Region.wanted ⟨some 112, _, _, _, _, _⟩ _ = true then Oper.wp _ _ _ (wb2) _ _ else _)); refine app_step (by rfl) (.tmp 108) (.tmp 111) (by rfl) _ ([] ++ O.take k ++ [x]) (O.drop k) DD (O.length - k) _ W1.heap.size (by rfl) (by rfl) Hb2.out (HDrq.out _ Bb2.out) (Nat.le_trans HSq.out Bb2.out.size) (by simp only [List.length_append, List.length_nil, List.length_take, List.length_cons]; omega) ?_; intro v3 w3 h3 g3 o3; have s3 := HS2.out _ (app_below Bb2.out Bb2.out.size g3 Nb2.out); have HR3 := Aside0.mk h3; have HB3 := Aside0.mk (app_below Bb2.out Bb2.out.size g3 Nb2.out); clear h3 g3 o3)
               | ((with_reducible show (if Region.wanted ⟨some 112, _, _, _, _, _⟩ _ = true then Oper.wp _ _ _ (wc2) _ _ else _)); refine app_step (by rfl) (.tmp 108) (.tmp 111) (by rfl) _ ([] ++ O.take k ++ [x]) (O.drop k) DD (O.length - k) _ W1.heap.size (by rfl) (by rfl) Hc2.out (HDrq.out _ Bc2.out) (Nat.le_trans HSq.out Bc2.out.size) (by simp only [List.length_append, List.length_nil, List.length_take, List.length_cons]; omega) ?_; intro v3 w3 h3 g3 o3; have s3 := HS2.out _ (app_below Bc2.out Bc2.out.size g3 Nc2.out); have HR3 := Aside0.mk h3; have HB3 := Aside0.mk (app_below Bc2.out Bc2.out.size g3 Nc2.out); clear h3 g3 o3))
             all_goals go_wp2_with fail
             all_goals go_round
             case measure => simp [intOf]; omega
             case measure => simp [intOf]; omega
             case measure => simp [intOf]; omega
             all_goals
              refine ⟨j + 1, true, by go_num, rfl, by omega, ⟨below_then HBq.out HBq.out.size HB3.out⟩, ⟨?_⟩, HBt⟩
              rw [HTk.out, List.filter_append, show [x].filter keep = [x] by simp [HKp.out], order_snoc, ← HOe.out, HIns.out]
              have hh := HR3.out
              rw [List.nil_append, List.append_assoc, List.singleton_append] at hh
              exact hh
           ·obtain rfl : k = O.length := by omega
            have hins : ins O x = O.take O.length ++ x :: O.drop O.length := ins_at O x O.length hk HLk.out (fun h => by omega)
            have HIns := Aside0.mk hins
            clear hins
            go_wp2_with fail
            go_quiet (fail)
            go_wp2_with fail
            obtain ⟨Wq, hWq⟩ : ∃ W, wr.drewN nq = W := ⟨_, rfl⟩
            have HBq : Aside0 (Below W1.heap.size W1 Wq) := ⟨by rw [← hWq]; exact pw_below_drewN HBk.out _⟩
            have HOq : Aside0 (Kd.R k141 141 Wq W1.heap.size (fun _ => True) (.slice A3 O.length c3) O) := ⟨by rw [← hWq]; exact Kd.R_drewN HOk.out _⟩
            have HXq : Aside0 (Wq.heap[g]? = some (.cells #[.string x.f0, .string x.f1] 141 (0, 0))) := ⟨by rw [← hWq]; exact HXk.out⟩
            rw [hWq]
            clear hWq u0
            obtain ⟨i0, hi0, _, hsz0, _⟩ := info_parts info141
            have hoc : O.length ≤ c3 := (Kd.R_reads' HOq.out).2.1
            have hcl : ∀ W : World, (Instr.slice 65 (.slice A3 O.length c3) none (some (.int .i64 (O.length : Int))) none).run Tryz.prog W = .ok (.slice A3 O.length c3) W := by
             intro W
             have := cut_to 65 141 .i64 Tryz.underlying65 hi0 A3 O.length c3 (O.length : Int) (by omega) (by omega) hoc W
             rw [Int.toNat_natCast] at this
             exact this
            obtain ⟨DD, hDD⟩ : ∃ D, D = (if c3 = O.length then A3 else Option.map (fun a => a.add (O.length * 2)) A3) := ⟨_, rfl⟩
            have hcd : ∀ W : World, (Instr.slice 65 (.slice A3 O.length c3) (some (.int .i64 (O.length : Int))) none none).run Tryz.prog W = .ok (.slice DD 0 (c3 - O.length)) W := by
             intro W
             have := cut_from 65 141 .i64 Tryz.underlying65 hi0 2 hsz0 A3 O.length c3 (O.length : Int) (by omega) (by omega) W
             rw [Int.toNat_natCast, ← hDD, Nat.sub_self] at this
             exact this
            have hTk : ∀ W, Below Wq.heap.size Wq W → Kd.C k141 W A3 O.length (O.take O.length) := fun W hb => take_C (Kd.R_reads' HOq.out).2.2 hb (Nat.le_refl _)
            have hDr : ∀ W, Below Wq.heap.size Wq W → Kd.C k141 W DD 0 (O.drop O.length) := fun W hb => by have hh := drop_C (Kd.R_reads' HOq.out).2.2 hb (Nat.le_refl _) hoc; rw [← hDD, Nat.sub_self] at hh; exact hh
            have hE : ∀ W : World, Wq.heap.size ≤ W.heap.size → Kd.R k141 141 (W.alloc (.cells #[] 141)) W1.heap.size (fun _ => True) (.slice (some ⟨W.heap.size, 0, none⟩) 0 0) [] := fun W hw => Kd.R_lower (Kd.R_mono (none_R W) (fun _ _ => trivial)) (Nat.le_trans HBq.out.size hw)
            have HTkq := Aside0.mk hTk
            have HDrq := Aside0.mk hDr
            have HEq := Aside0.mk hE
            have hsq : W1.heap.size ≤ Wq.heap.size := HBq.out.size
            have HSq := Aside0.mk hsq
            have cq0 : Wq.drew.cell? ⟨g, 0, none⟩ = some (.string x.f0) := (blk_cell HXq.out 0).trans rfl
            have cq1 : Wq.drew.cell? ⟨g, 1, none⟩ = some (.string x.f1) := (blk_cell HXq.out 1).trans rfl
            clear hTk hDr hE hDD hi0 hsz0 hsq hoc
            have BA : Aside0 (Below Wq.heap.size Wq (Wq.alloc (.cells #[] 141)).drew) := ⟨below_drew1 (below_alloc (Below.refl _ _) _)⟩
            have BB : Aside0 (Below Wq.heap.size Wq ((Wq.alloc (.cells #[] 141)).alloc (.cells #[.string x.f0, .string x.f1] 141)).drew) := ⟨below_drew1 (below_alloc (below_alloc (Below.refl _ _) _) _)⟩
            have BC1 : Aside0 (Below Wq.heap.size Wq (Wq.alloc (.cells #[.string x.f0, .string x.f1] 141))) := ⟨below_alloc (Below.refl _ _) _⟩
            have BC : Aside0 (Below Wq.heap.size Wq ((Wq.alloc (.cells #[.string x.f0, .string x.f1] 141)).alloc (.cells #[] 141)).drew) := ⟨below_drew1 (below_alloc BC1.out _)⟩
            have RA : Aside0 (Kd.R k141 141 (Wq.alloc (.cells #[] 141)).drew W1.heap.size (fun _ => True) (.slice (some ⟨Wq.heap.size, 0, none⟩) 0 0) []) := ⟨Kd.R_drew (HEq.out Wq (Nat.le_refl _))⟩
            have RB : Aside0 (Kd.R k141 141 ((Wq.alloc (.cells #[] 141)).alloc (.cells #[.string x.f0, .string x.f1] 141)).drew W1.heap.size (fun _ => True) (.slice (some ⟨Wq.heap.size, 0, none⟩) 0 0) []) := ⟨Kd.R_drew (Kd.R_alloc (HEq.out Wq (Nat.le_refl _)) _)⟩
            have RC : Aside0 (Kd.R k141 141 ((Wq.alloc (.cells #[.string x.f0, .string x.f1] 141)).alloc (.cells #[] 141)).drew W1.heap.size (fun _ => True) (.slice (some ⟨Wq.heap.size + 1, 0, none⟩) 0 0) []) := ⟨by have hh := HEq.out (Wq.alloc (.cells #[.string x.f0, .string x.f1] 141)) BC1.out.size; rw [show (Wq.alloc (.cells #[.string x.f0, .string x.f1] 141)).heap.size = Wq.heap.size + 1 from World.size_alloc _ _] at hh; exact Kd.R_drew hh⟩
            have LB : Aside0 (((Wq.alloc (.cells #[] 141)).alloc (.cells #[.string x.f0, .string x.f1] 141)).drew.heap[Wq.heap.size + 1]? = some (.cells #[.string x.f0, .string x.f1] 141 (0, 0))) := ⟨by rw [show Wq.heap.size + 1 = (Wq.alloc (.cells #[] 141)).heap.size from (World.size_alloc _ _).symm]; exact blk_new (Wq.alloc (.cells #[] 141)) _⟩
            have LC : Aside0 (((Wq.alloc (.cells #[.string x.f0, .string x.f1] 141)).alloc (.cells #[] 141)).drew.heap[Wq.heap.size]? = some (.cells #[.string x.f0, .string x.f1] 141 (0, 0))) := ⟨blk_alloc (blk_new Wq _) _⟩
            have hSq : ∀ W, Below Wq.heap.size Wq W → W.cell? ⟨g, 0, none⟩ = some (.string x.f0) ∧ W.cell? ⟨g, 1, none⟩ = some (.string x.f1) := fun W hb => ⟨(blk_cell ((hb.block _ (blk_lt HXq.out)).trans HXq.out) 0).trans rfl, (blk_cell ((hb.block _ (blk_lt HXq.out)).trans HXq.out) 1).trans rfl⟩
            have HS2 := Aside0.mk hSq
            have hnl : ∀ W : World, W.heap.size = Wq.heap.size → True := fun _ _ => trivial
            clear hSq hnl
            go_region_held3 (fun W' => W'.cell? ⟨g, 0, none⟩ = some (.string x.f0) ∧ W'.cell? ⟨g, 1, none⟩ = some (.string x.f1))
             (first | exact HS2.out _ BA.out | exact HS2.out _ BB.out | exact HS2.out _ BC.out | exact HS2.out _ BC1.out | exact ⟨cq0, cq1⟩ | assumption | exact box_alloc (by assumption) _)
             (first
              | ((with_reducible show (if Region.wanted ⟨some 105, _, _, _, _, _⟩ _ = true then Oper.wp _ _ _ ((Wq.alloc (.cells #[] 141)).drew) _ _ else _)); refine app_step (by rfl) (.tmp 101) (.tmp 104) (by rfl) (.slice (some ⟨Wq.heap.size, 0, none⟩) 0 0) [] (O.take O.length) A3 O.length c3 W1.heap.size (by rfl) (by rfl) RA.out (HTkq.out _ BA.out) (Nat.le_trans HSq.out BA.out.size) (by simp only [List.length_nil]; omega) ?_; intro va wa ha ga oa; have Ha := Aside0.mk ha; have Na := Aside0.mk (app_own (B := Wq.heap.size) BA.out.size (fun q hq => by cases hq; first | exact Nat.le_refl _ | exact Nat.le_succ _ | (rw [World.size_alloc]; omega)) oa); have Ba := Aside0.mk (app_below BA.out BA.out.size ga (fun q hq => by cases hq; first | exact Nat.le_refl _ | exact Nat.le_succ _ | (rw [World.size_alloc]; omega))); have sa := HS2.out _ Ba.out; have Ga := Aside0.mk ga; clear ha ga oa)
              | ((with_reducible show (if Region.wanted ⟨some 105, _, _, _, _, _⟩ _ = true then Oper.wp _ _ _ (((Wq.alloc (.cells #[] 141)).alloc (.cells #[.string x.f0, .string x.f1] 141)).drew) _ _ else _)); refine app_step (by rfl) (.tmp 101) (.tmp 104) (by rfl) (.slice (some ⟨Wq.heap.size, 0, none⟩) 0 0) [] (O.take O.length) A3 O.length c3 W1.heap.size (by rfl) (by rfl) RB.out (HTkq.out _ BB.out) (Nat.le_trans HSq.out BB.out.size) (by simp only [List.length_nil]; omega) ?_; intro vb wb hb gb ob; have Hb := Aside0.mk hb; have Nb := Aside0.mk (app_own (B := Wq.heap.size) BB.out.size (fun q hq => by cases hq; first | exact Nat.le_refl _ | exact Nat.le_succ _ | (rw [World.size_alloc]; omega)) ob); have Bb := Aside0.mk (app_below BB.out BB.out.size gb (fun q hq => by cases hq; first | exact Nat.le_refl _ | exact Nat.le_succ _ | (rw [World.size_alloc]; omega))); have sb := HS2.out _ Bb.out; have Gb := Aside0.mk gb; clear hb gb ob)
              | ((with_reducible show (if Region.wanted ⟨some 105, _, _, _, _, _⟩ _ = true then Oper.wp _ _ _ (((Wq.alloc (.cells #[.string x.f0, .string x.f1] 141)).alloc (.cells #[] 141)).drew) _ _ else _)); refine app_step (by rfl) (.tmp 101) (.tmp 104) (by rfl) (.slice (some ⟨Wq.heap.size + 1, 0, none⟩) 0 0) [] (O.take O.length) A3 O.length c3 W1.heap.size (by rfl) (by rfl) RC.out (HTkq.out _ BC.out) (Nat.le_trans HSq.out BC.out.size) (by simp only [List.length_nil]; omega) ?_; intro vc wc hc gc oc; have Hc := Aside0.mk hc; have Nc := Aside0.mk (app_own (B := Wq.heap.size) BC.out.size (fun q hq => by cases hq; first | exact Nat.le_refl _ | exact Nat.le_succ _ | (rw [World.size_alloc]; omega)) oc); have Bc := Aside0.mk (app_below BC.out BC.out.size gc (fun q hq => by cases hq; first | exact Nat.le_refl _ | exact Nat.le_succ _ | (rw [World.size_alloc]; omega))); have sc := HS2.out _ Bc.out; have Gc := Aside0.mk gc; clear hc gc oc)
              | ((with_reducible show (if Region.wanted ⟨some 108, _, _, _, _, _⟩ _ = true then Oper.wp _ _ _ (wa.alloc (.cells #[.string x.f0, .string x.f1] 141)) _ _ else _)); refine app_step (by rfl) (.tmp 105) (.tmp 107) (by rfl) _ ([] ++ O.take O.length) [x] _ _ _ W1.heap.size (by rfl) (by rfl) (Kd.R_alloc Ha.out _) (lit_C (blk_new wa _)) (Nat.le_trans HSq.out (below_alloc Ba.out _).size) (by simp only [List.length_append, List.length_nil, List.length_take]; omega) ?_; intro va2 wa2 ha2 ga2 oa2; have Ha2 := Aside0.mk ha2; have Na2 := Aside0.mk (app_own (B := Wq.heap.size) (below_alloc Ba.out _).size Na.out oa2); have Ba2 := Aside0.mk (app_below (below_alloc Ba.out _) (below_alloc Ba.out _).size ga2 Na.out); have sa2 := HS2.out _ Ba2.out; clear ha2 ga2 oa2)
              | ((with_reducible show (if Region.wanted ⟨some 108, _, _, _, _, _⟩ _ = true then Oper.wp _ _ _ (wb) _ _ else _)); refine app_step (by rfl) (.tmp 105) (.tmp 107) (by rfl) _ ([] ++ O.take O.length) [x] _ _ _ W1.heap.size (by rfl) (by rfl) Hb.out (lit_C ((Gb.out.block _ (blk_lt LB.out) (fun e => by simp [Value.ownBlock] at e)).trans LB.out)) (Nat.le_trans HSq.out Bb.out.size) (by simp only [List.length_append, List.length_nil, List.length_take]; omega) ?_; intro vb2 wb2 hb2 gb2 ob2; have Hb2 := Aside0.mk hb2; have Nb2 := Aside0.mk (app_own (B := Wq.heap.size) Bb.out.size Nb.out ob2); have Bb2 := Aside0.mk (app_below Bb.out Bb.out.size gb2 Nb.out); have sb2 := HS2.out _ Bb2.out; clear hb2 gb2 ob2)
              | ((with_reducible show (if Region.wanted ⟨some 108, _, _, _, _, _⟩ _ = true then Oper.wp _ _ _ (wc) _ _ else _)); refine app_step (by rfl) (.tmp 105) (.tmp 107) (by rfl) _ ([] ++ O.take O.length) [x] _ _ _ W1.heap.size (by rfl) (by rfl) Hc.out (lit_C ((Gc.out.block _ (blk_lt LC.out) (fun e => by simp [Value.ownBlock] at e)).trans LC.out)) (Nat.le_trans HSq.out Bc.out.size) (by simp only [List.length_append, List.length_nil, List.length_take]; omega) ?_; intro vc2 wc2 hc2 gc2 oc2; have Hc2 := Aside0.mk hc2; have Nc2 := Aside0.mk (app_own (B := Wq.heap.size) Bc.out.size Nc.out oc2); have Bc2 := Aside0.mk (app_below Bc.out Bc.out.size gc2 Nc.out); have sc2 := HS2.out _ Bc2.out; clear hc2 gc2 oc2)
              | ((with_reducible show (if Region.wanted ⟨some 112, _, _, _, _, _⟩ _ = true then Oper.wp _ _ _ (wa2) _ _ else _)); refine app_step (by rfl) (.tmp 108) (.tmp 111) (by rfl) _ ([] ++ O.take O.length ++ [x]) (O.drop O.length) DD 0 _ W1.heap.size (by rfl) (by rfl) Ha2.out (HDrq.out _ Ba2.out) (Nat.le_trans HSq.out Ba2.out.size) (by simp only [List.length_append, List.length_nil, List.length_take, List.length_cons]; omega) ?_; intro v3 w3 h3 g3 o3; have s3 := HS2.out _ (app_below Ba2.out Ba2.out.size g3 Na2.out); have HR3 := Aside0.mk h3; have HB3 := Aside0.mk (app_below Ba2.out Ba2.out.size g3 Na2.out); clear h3 g3 o3)
              | ((with_reducible show (if Region.wanted ⟨some 112, _, _, _, _, _⟩ _ = true then Oper.wp _ _ _ (wb2) _ _ else _)); refine app_step (by rfl) (.tmp 108) (.tmp 111) (by rfl) _ ([] ++ O.take O.length ++ [x]) (O.drop O.length) DD 0 _ W1.heap.size (by rfl) (by rfl) Hb2.out (HDrq.out _ Bb2.out) (Nat.le_trans HSq.out Bb2.out.size) (by simp only [List.length_append, List.length_nil, List.length_take, List.length_cons]; omega) ?_; intro v3 w3 h3 g3 o3; have s3 := HS2.out _ (app_below Bb2.out Bb2.out.size g3 Nb2.out); have HR3 := Aside0.mk h3; have HB3 := Aside0.mk (app_below Bb2.out Bb2.out.size g3 Nb2.out); clear h3 g3 o3)
              | ((with_reducible show (if Region.wanted ⟨some 112, _, _, _, _, _⟩ _ = true then Oper.wp _ _ _ (wc2) _ _ else _)); refine app_step (by rfl) (.tmp 108) (.tmp 111) (by rfl) _ ([] ++ O.take O.length ++ [x]) (O.drop O.length) DD 0 _ W1.heap.size (by rfl) (by rfl) Hc2.out (HDrq.out _ Bc2.out) (Nat.le_trans HSq.out Bc2.out.size) (by simp only [List.length_append, List.length_nil, List.length_take, List.length_cons]; omega) ?_; intro v3 w3 h3 g3 o3; have s3 := HS2.out _ (app_below Bc2.out Bc2.out.size g3 Nc2.out); have HR3 := Aside0.mk h3; have HB3 := Aside0.mk (app_below Bc2.out Bc2.out.size g3 Nc2.out); clear h3 g3 o3))
            all_goals go_wp2_with fail
            all_goals go_round
            case measure => simp [intOf]; omega
            case measure => simp [intOf]; omega
            case measure => simp [intOf]; omega
            all_goals
             refine ⟨j + 1, true, by go_num, rfl, by omega, ⟨below_then HBq.out HBq.out.size HB3.out⟩, ⟨?_⟩, HBt⟩
             rw [HTk.out, List.filter_append, show [x].filter keep = [x] by simp [HKp.out], order_snoc, ← HOe.out, HIns.out]
             have hh := HR3.out
             rw [List.nil_append, List.append_assoc, List.singleton_append] at hh
             exact hh
         | false =>
          have hbt : em = (l.take (j + 1)).any isMet := by rw [HTk.out, List.any_append, ← HMr.out, ← hem]; simp only [List.any_cons, List.any_nil, isMet, HKp.out, Bool.or_false, Bool.false_or, Bool.true_and]; by_cases hq : x.f0.toList = [95, 95, 110, 97, 109, 101, 95, 95] <;> simp [hq]
          have HBt := Aside0.mk hbt
          clear hbt
          go_wp2_with fail
          clear hWa hg u1 u0 hem
          go_loopw [17] (fun q wi => ∃ k : Nat, q = .int .i64 k ∧ k ≤ O.length ∧ Aside0 (Below W1.heap.size W1 wi) ∧ Aside0 (Kd.R k141 141 wi W1.heap.size (fun _ => True) (.slice A3 O.length c3) O) ∧ Aside0 (wi.heap[g]? = some (.cells #[.string x.f0, .string x.f1] 141 (0, 0))) ∧ Aside0 (∀ p, p < k → ∀ h : p < O.length, less O[p] x = true)) (fun q _ => O.length - (intOf q).toNat)
          case atStart => exact ⟨0, rfl, Nat.zero_le _, HBa, HOa, HXa, ⟨fun p hp => by omega⟩⟩
          case round =>
           obtain ⟨k, rfl, hk, HBk, HOk, HXk, HLk⟩ := hrel
           have u0 : wr.cell? ⟨g, 0, none⟩ = some (.string x.f0) := (blk_cell HXk.out 0).trans rfl
           by_cases hkt : k < O.length
           ·have hC := (Kd.R_reads' HOk.out).2.2
            obtain ⟨ad3, ea3, y0, y1⟩ := lab hC (Below.refl _ _) k hkt
            clear hC
            subst ea3
            obtain ⟨y, hy⟩ : ∃ y, y = O[k] := ⟨_, rfl⟩
            rw [← hy] at y0 y1
            have HY := Aside0.mk hy
            clear hy
            obtain ⟨lb, hlb⟩ : ∃ lb, Op.bytesLess y.f0.toList x.f0.toList = lb := ⟨_, rfl⟩
            cases lb with
            | true =>
             have HLb := Aside0.mk hlb
             go_wp2_with fail
             go_quiet (fail)
             go_wp2_with fail
             go_round
             case rel =>
              refine ⟨k + 1, by go_num, by omega, ⟨pw_below_drewN HBk.out _⟩, ⟨Kd.R_drewN HOk.out _⟩, HXk, ⟨fun p hp h => ?_⟩⟩
              by_cases hpk : p < k
              ·exact HLk.out p hpk h
              ·obtain rfl : p = k := by omega
               rw [← HY.out]; exact HLb.out
             case measure => simp [intOf]; omega
            | false =>
             have hins : ins O x = O.take k ++ x :: O.drop k := ins_at O x k hk HLk.out (fun h => by rw [← HY.out]; exact hlb)
             have HIns := Aside0.mk hins
             clear hins
             go_wp2_with fail
             go_quiet (fail)
             go_wp2_with fail
             obtain ⟨Wq, hWq⟩ : ∃ W, wr.drewN nq = W := ⟨_, rfl⟩
             have HBq : Aside0 (Below W1.heap.size W1 Wq) := ⟨by rw [← hWq]; exact pw_below_drewN HBk.out _⟩
             have HOq : Aside0 (Kd.R k141 141 Wq W1.heap.size (fun _ => True) (.slice (some ad3) O.length c3) O) := ⟨by rw [← hWq]; exact Kd.R_drewN HOk.out _⟩
             have HXq : Aside0 (Wq.heap[g]? = some (.cells #[.string x.f0, .string x.f1] 141 (0, 0))) := ⟨by rw [← hWq]; exact HXk.out⟩
             rw [hWq]
             clear hWq u0 y0 y1 hlb
             obtain ⟨i0, hi0, _, hsz0, _⟩ := info_parts info141
             have hoc : O.length ≤ c3 := (Kd.R_reads' HOq.out).2.1
             have hcl : ∀ W : World, (Instr.slice 65 (.slice (some ad3) O.length c3) none (some (.int .i64 (k : Int))) none).run Tryz.prog W = .ok (.slice (some ad3) k c3) W := by
              intro W
              have := cut_to 65 141 .i64 Tryz.underlying65 hi0 (some ad3) O.length c3 (k : Int) (by omega) (by omega) hoc W
              rw [Int.toNat_natCast] at this
              exact this
             obtain ⟨DD, hDD⟩ : ∃ D, D = (if c3 = k then (some ad3) else Option.map (fun a => a.add (k * 2)) (some ad3)) := ⟨_, rfl⟩
             have hcd : ∀ W : World, (Instr.slice 65 (.slice (some ad3) O.length c3) (some (.int .i64 (k : Int))) none none).run Tryz.prog W = .ok (.slice DD (O.length - k) (c3 - k)) W := by
              intro W
              have := cut_from 65 141 .i64 Tryz.underlying65 hi0 2 hsz0 (some ad3) O.length c3 (k : Int) (by omega) (by omega) W
              rw [Int.toNat_natCast, ← hDD] at this
              exact this
             have hTk : ∀ W, Below Wq.heap.size Wq W → Kd.C k141 W (some ad3) k (O.take k) := fun W hb => take_C (Kd.R_reads' HOq.out).2.2 hb hk
             have hDr : ∀ W, Below Wq.heap.size Wq W → Kd.C k141 W DD (O.length - k) (O.drop k) := fun W hb => by rw [hDD]; exact drop_C (Kd.R_reads' HOq.out).2.2 hb hk hoc
             have hE : ∀ W : World, Wq.heap.size ≤ W.heap.size → Kd.R k141 141 (W.alloc (.cells #[] 141)) W1.heap.size (fun _ => True) (.slice (some ⟨W.heap.size, 0, none⟩) 0 0) [] := fun W hw => Kd.R_lower (Kd.R_mono (none_R W) (fun _ _ => trivial)) (Nat.le_trans HBq.out.size hw)
             have HTkq := Aside0.mk hTk
             have HDrq := Aside0.mk hDr
             have HEq := Aside0.mk hE
             have hsq : W1.heap.size ≤ Wq.heap.size := HBq.out.size
             have HSq := Aside0.mk hsq
             have cq0 : Wq.drew.cell? ⟨g, 0, none⟩ = some (.string x.f0) := (blk_cell HXq.out 0).trans rfl
             have cq1 : Wq.drew.cell? ⟨g, 1, none⟩ = some (.string x.f1) := (blk_cell HXq.out 1).trans rfl
             clear hTk hDr hE hDD hi0 hsz0 hsq hoc
             have BA : Aside0 (Below Wq.heap.size Wq (Wq.alloc (.cells #[] 141)).drew) := ⟨below_drew1 (below_alloc (Below.refl _ _) _)⟩
             have BB : Aside0 (Below Wq.heap.size Wq ((Wq.alloc (.cells #[] 141)).alloc (.cells #[.string x.f0, .string x.f1] 141)).drew) := ⟨below_drew1 (below_alloc (below_alloc (Below.refl _ _) _) _)⟩
             have BC1 : Aside0 (Below Wq.heap.size Wq (Wq.alloc (.cells #[.string x.f0, .string x.f1] 141))) := ⟨below_alloc (Below.refl _ _) _⟩
             have BC : Aside0 (Below Wq.heap.size Wq ((Wq.alloc (.cells #[.string x.f0, .string x.f1] 141)).alloc (.cells #[] 141)).drew) := ⟨below_drew1 (below_alloc BC1.out _)⟩
             have RA : Aside0 (Kd.R k141 141 (Wq.alloc (.cells #[] 141)).drew W1.heap.size (fun _ => True) (.slice (some ⟨Wq.heap.size, 0, none⟩) 0 0) []) := ⟨Kd.R_drew (HEq.out Wq (Nat.le_refl _))⟩
             have RB : Aside0 (Kd.R k141 141 ((Wq.alloc (.cells #[] 141)).alloc (.cells #[.string x.f0, .string x.f1] 141)).drew W1.heap.size (fun _ => True) (.slice (some ⟨Wq.heap.size, 0, none⟩) 0 0) []) := ⟨Kd.R_drew (Kd.R_alloc (HEq.out Wq (Nat.le_refl _)) _)⟩
             have RC : Aside0 (Kd.R k141 141 ((Wq.alloc (.cells #[.string x.f0, .string x.f1] 141)).alloc (.cells #[] 141)).drew W1.heap.size (fun _ => True) (.slice (some ⟨Wq.heap.size + 1, 0, none⟩) 0 0) []) := ⟨by have hh := HEq.out (Wq.alloc (.cells #[.string x.f0, .string x.f1] 141)) BC1.out.size; rw [show (Wq.alloc (.cells #[.string x.f0, .string x.f1] 141)).heap.size = Wq.heap.size + 1 from World.size_alloc _ _] at hh; exact Kd.R_drew hh⟩
             have LB : Aside0 (((Wq.alloc (.cells #[] 141)).alloc (.cells #[.string x.f0, .string x.f1] 141)).drew.heap[Wq.heap.size + 1]? = some (.cells #[.string x.f0, .string x.f1] 141 (0, 0))) := ⟨by rw [show Wq.heap.size + 1 = (Wq.alloc (.cells #[] 141)).heap.size from (World.size_alloc _ _).symm]; exact blk_new (Wq.alloc (.cells #[] 141)) _⟩
             have LC : Aside0 (((Wq.alloc (.cells #[.string x.f0, .string x.f1] 141)).alloc (.cells #[] 141)).drew.heap[Wq.heap.size]? = some (.cells #[.string x.f0, .string x.f1] 141 (0, 0))) := ⟨blk_alloc (blk_new Wq _) _⟩
             have hSq : ∀ W, Below Wq.heap.size Wq W → W.cell? ⟨g, 0, none⟩ = some (.string x.f0) ∧ W.cell? ⟨g, 1, none⟩ = some (.string x.f1) := fun W hb => ⟨(blk_cell ((hb.block _ (blk_lt HXq.out)).trans HXq.out) 0).trans rfl, (blk_cell ((hb.block _ (blk_lt HXq.out)).trans HXq.out) 1).trans rfl⟩
             have HS2 := Aside0.mk hSq
             have hnl : ∀ W : World, W.heap.size = Wq.heap.size → True := fun _ _ => trivial
             clear hSq hnl
             go_region_held3 (fun W' => W'.cell? ⟨g, 0, none⟩ = some (.string x.f0) ∧ W'.cell? ⟨g, 1, none⟩ = some (.string x.f1))
              (first | exact HS2.out _ BA.out | exact HS2.out _ BB.out | exact HS2.out _ BC.out | exact HS2.out _ BC1.out | exact ⟨cq0, cq1⟩ | assumption | exact box_alloc (by assumption) _)
              (first
               | ((with_reducible show (if Region.wanted ⟨some 105, _, _, _, _, _⟩ _ = true then Oper.wp _ _ _ ((Wq.alloc (.cells #[] 141)).drew) _ _ else _)); refine app_step (by rfl) (.tmp 101) (.tmp 104) (by rfl) (.slice (some ⟨Wq.heap.size, 0, none⟩) 0 0) [] (O.take k) (some ad3) k c3 W1.heap.size (by rfl) (by rfl) RA.out (HTkq.out _ BA.out) (Nat.le_trans HSq.out BA.out.size) (by simp only [List.length_nil]; omega) ?_; intro va wa ha ga oa; have Ha := Aside0.mk ha; have Na := Aside0.mk (app_own (B := Wq.heap.size) BA.out.size (fun q hq => by cases hq; first | exact Nat.le_refl _ | exact Nat.le_succ _ | (rw [World.size_alloc]; omega)) oa); have Ba := Aside0.mk (app_below BA.out BA.out.size ga (fun q hq => by cases hq; first | exact Nat.le_refl _ | exact Nat.le_succ _ | (rw [World.size_alloc]; omega))); have sa := HS2.out _ Ba.out; have Ga := Aside0.mk ga; clear ha ga oa)
               | ((with_reducible show (if Region.wanted ⟨some 105, _, _, _, _, _⟩ _ = true then Oper.wp _ _ _ (((Wq.alloc (.cells #[] 141)).alloc (.cells #[.string x.f0, .string x.f1] 141)).drew) _ _ else _)); refine app_step (by rfl) (.tmp 101) (.tmp 104) (by rfl) (.slice (some ⟨Wq.heap.size, 0, none⟩) 0 0) [] (O.take k) (some ad3) k c3 W1.heap.size (by rfl) (by rfl) RB.out (HTkq.out _ BB.out) (Nat.le_trans HSq.out BB.out.size) (by simp only [List.length_nil]; omega) ?_; intro vb wb hb gb ob; have Hb := Aside0.mk hb; have Nb := Aside0.mk (app_own (B := Wq.heap.size) BB.out.size (fun q hq => by cases hq; first | exact Nat.le_refl _ | exact Nat.le_succ _ | (rw [World.size_alloc]; omega)) ob); have Bb := Aside0.mk (app_below BB.out BB.out.size gb (fun q hq => by cases hq; first | exact Nat.le_refl _ | exact Nat.le_succ _ | (rw [World.size_alloc]; omega))); have sb := HS2.out _ Bb.out; have Gb := Aside0.mk gb; clear hb gb ob)
               | ((with_reducible show (if Region.wanted ⟨some 105, _, _, _, _, _⟩ _ = true then Oper.wp _ _ _ (((Wq.alloc (.cells #[.string x.f0, .string x.f1] 141)).alloc (.cells #[] 141)).drew) _ _ else _)); refine app_step (by rfl) (.tmp 101) (.tmp 104) (by rfl) (.slice (some ⟨Wq.heap.size + 1, 0, none⟩) 0 0) [] (O.take k) (some ad3) k c3 W1.heap.size (by rfl) (by rfl) RC.out (HTkq.out _ BC.out) (Nat.le_trans HSq.out BC.out.size) (by simp only [List.length_nil]; omega) ?_; intro vc wc hc gc oc; have Hc := Aside0.mk hc; have Nc := Aside0.mk (app_own (B := Wq.heap.size) BC.out.size (fun q hq => by cases hq; first | exact Nat.le_refl _ | exact Nat.le_succ _ | (rw [World.size_alloc]; omega)) oc); have Bc := Aside0.mk (app_below BC.out BC.out.size gc (fun q hq => by cases hq; first | exact Nat.le_refl _ | exact Nat.le_succ _ | (rw [World.size_alloc]; omega))); have sc := HS2.out _ Bc.out; have Gc := Aside0.mk gc; clear hc gc oc)
               | ((with_reducible show (if Region.wanted ⟨some 108, _, _, _, _, _⟩ _ = true then Oper.wp _ _ _ (wa.alloc (.cells #[.string x.f0, .string x.f1] 141)) _ _ else _)); refine app_step (by rfl) (.tmp 105) (.tmp 107) (by rfl) _ ([] ++ O.take k) [x] _ _ _ W1.heap.size (by rfl) (by rfl) (Kd.R_alloc Ha.out _) (lit_C (blk_new wa _)) (Nat.le_trans HSq.out (below_alloc Ba.out _).size) (by simp only [List.length_append, List.length_nil, List.length_take]; omega) ?_; intro va2 wa2 ha2 ga2 oa2; have Ha2 := Aside0.mk ha2; have Na2 := Aside0.mk (app_own (B := Wq.heap.size) (below_alloc Ba.out _).size Na.out oa2); have Ba2 := Aside0.mk (app_below (below_alloc Ba.out _) (below_alloc Ba.out _).size ga2 Na.out); have sa2 := HS2.out _ Ba2.out; clear ha2 ga2 oa2)
               | ((with_reducible show (if Region.wanted ⟨some 108, _, _, _, _, _⟩ _ = true then Oper.wp _ _ _ (wb) _ _ else _)); refine app_step (by rfl) (.tmp 105) (.tmp 107) (by rfl) _ ([] ++ O.take k) [x] _ _ _ W1.heap.size (by rfl) (by rfl) Hb.out (lit_C ((Gb.out.block _ (blk_lt LB.out) (fun e => by simp [Value.ownBlock] at e)).trans LB.out)) (Nat.le_trans HSq.out Bb.out.size) (by simp only [List.length_append, List.length_nil, List.length_take]; omega) ?_; intro vb2 wb2 hb2 gb2 ob2; have Hb2 := Aside0.mk hb2; have Nb2 := Aside0.mk (app_own (B := Wq.heap.size) Bb.out.size Nb.out ob2); have Bb2 := Aside0.mk (app_below Bb.out Bb.out.size gb2 Nb.out); have sb2 := HS2.out _ Bb2.out; clear hb2 gb2 ob2)
               | ((with_reducible show (if Region.wanted ⟨some 108, _, _, _, _, _⟩ _ = true then Oper.wp _ _ _ (wc) _ _ else _)); refine app_step (by rfl) (.tmp 105) (.tmp 107) (by rfl) _ ([] ++ O.take k) [x] _ _ _ W1.heap.size (by rfl) (by rfl) Hc.out (lit_C ((Gc.out.block _ (blk_lt LC.out) (fun e => by simp [Value.ownBlock] at e)).trans LC.out)) (Nat.le_trans HSq.out Bc.out.size) (by simp only [List.length_append, List.length_nil, List.length_take]; omega) ?_; intro vc2 wc2 hc2 gc2 oc2; have Hc2 := Aside0.mk hc2; have Nc2 := Aside0.mk (app_own (B := Wq.heap.size) Bc.out.size Nc.out oc2); have Bc2 := Aside0.mk (app_below Bc.out Bc.out.size gc2 Nc.out); have sc2 := HS2.out _ Bc2.out; clear hc2 gc2 oc2)
               | ((with_reducible show (if Region.wanted ⟨some 112, _, _, _, _, _⟩ _ = true then Oper.wp _ _ _ (wa2) _ _ else _)); refine app_step (by rfl) (.tmp 108) (.tmp 111) (by rfl) _ ([] ++ O.take k ++ [x]) (O.drop k) DD (O.length - k) _ W1.heap.size (by rfl) (by rfl) Ha2.out (HDrq.out _ Ba2.out) (Nat.le_trans HSq.out Ba2.out.size) (by simp only [List.length_append, List.length_nil, List.length_take, List.length_cons]; omega) ?_; intro v3 w3 h3 g3 o3; have s3 := HS2.out _ (app_below Ba2.out Ba2.out.size g3 Na2.out); have HR3 := Aside0.mk h3; have HB3 := Aside0.mk (app_below Ba2.out Ba2.out.size g3 Na2.out); clear h3 g3 o3)
               | ((with_reducible show (if Region.wanted ⟨some 112, _, _, _, _, _⟩ _ = true then Oper.wp _ _ _ (wb2) _ _ else _)); refine app_step (by rfl) (.tmp 108) (.tmp 111) (by rfl) _ ([] ++ O.take k ++ [x]) (O.drop k) DD (O.length - k) _ W1.heap.size (by rfl) (by rfl) Hb2.out (HDrq.out _ Bb2.out) (Nat.le_trans HSq.out Bb2.out.size) (by simp only [List.length_append, List.length_nil, List.length_take, List.length_cons]; omega) ?_; intro v3 w3 h3 g3 o3; have s3 := HS2.out _ (app_below Bb2.out Bb2.out.size g3 Nb2.out); have HR3 := Aside0.mk h3; have HB3 := Aside0.mk (app_below Bb2.out Bb2.out.size g3 Nb2.out); clear h3 g3 o3)
               | ((with_reducible show (if Region.wanted ⟨some 112, _, _, _, _, _⟩ _ = true then Oper.wp _ _ _ (wc2) _ _ else _)); refine app_step (by rfl) (.tmp 108) (.tmp 111) (by rfl) _ ([] ++ O.take k ++ [x]) (O.drop k) DD (O.length - k) _ W1.heap.size (by rfl) (by rfl) Hc2.out (HDrq.out _ Bc2.out) (Nat.le_trans HSq.out Bc2.out.size) (by simp only [List.length_append, List.length_nil, List.length_take, List.length_cons]; omega) ?_; intro v3 w3 h3 g3 o3; have s3 := HS2.out _ (app_below Bc2.out Bc2.out.size g3 Nc2.out); have HR3 := Aside0.mk h3; have HB3 := Aside0.mk (app_below Bc2.out Bc2.out.size g3 Nc2.out); clear h3 g3 o3))
             all_goals go_wp2_with fail
             all_goals go_round
             case measure => simp [intOf]; omega
             case measure => simp [intOf]; omega
             case measure => simp [intOf]; omega
             all_goals
              refine ⟨j + 1, em, by go_num, rfl, by omega, ⟨below_then HBq.out HBq.out.size HB3.out⟩, ⟨?_⟩, HBt⟩
              rw [HTk.out, List.filter_append, show [x].filter keep = [x] by simp [HKp.out], order_snoc, ← HOe.out, HIns.out]
              have hh := HR3.out
              rw [List.nil_append, List.append_assoc, List.singleton_append] at hh
              exact hh
           ·obtain rfl : k = O.length := by omega
            have hins : ins O x = O.take O.length ++ x :: O.drop O.length := ins_at O x O.length hk HLk.out (fun h => by omega)
            have HIns := Aside0.mk hins
            clear hins
            go_wp2_with fail
            go_quiet (fail)
            go_wp2_with fail
            obtain ⟨Wq, hWq⟩ : ∃ W, wr.drewN nq = W := ⟨_, rfl⟩
            have HBq : Aside0 (Below W1.heap.size W1 Wq) := ⟨by rw [← hWq]; exact pw_below_drewN HBk.out _⟩
            have HOq : Aside0 (Kd.R k141 141 Wq W1.heap.size (fun _ => True) (.slice A3 O.length c3) O) := ⟨by rw [← hWq]; exact Kd.R_drewN HOk.out _⟩
            have HXq : Aside0 (Wq.heap[g]? = some (.cells #[.string x.f0, .string x.f1] 141 (0, 0))) := ⟨by rw [← hWq]; exact HXk.out⟩
            rw [hWq]
            clear hWq u0
            obtain ⟨i0, hi0, _, hsz0, _⟩ := info_parts info141
            have hoc : O.length ≤ c3 := (Kd.R_reads' HOq.out).2.1
            have hcl : ∀ W : World, (Instr.slice 65 (.slice A3 O.length c3) none (some (.int .i64 (O.length : Int))) none).run Tryz.prog W = .ok (.slice A3 O.length c3) W := by
             intro W
             have := cut_to 65 141 .i64 Tryz.underlying65 hi0 A3 O.length c3 (O.length : Int) (by omega) (by omega) hoc W
             rw [Int.toNat_natCast] at this
             exact this
            obtain ⟨DD, hDD⟩ : ∃ D, D = (if c3 = O.length then A3 else Option.map (fun a => a.add (O.length * 2)) A3) := ⟨_, rfl⟩
            have hcd : ∀ W : World, (Instr.slice 65 (.slice A3 O.length c3) (some (.int .i64 (O.length : Int))) none none).run Tryz.prog W = .ok (.slice DD 0 (c3 - O.length)) W := by
             intro W
             have := cut_from 65 141 .i64 Tryz.underlying65 hi0 2 hsz0 A3 O.length c3 (O.length : Int) (by omega) (by omega) W
             rw [Int.toNat_natCast, ← hDD, Nat.sub_self] at this
             exact this
            have hTk : ∀ W, Below Wq.heap.size Wq W → Kd.C k141 W A3 O.length (O.take O.length) := fun W hb => take_C (Kd.R_reads' HOq.out).2.2 hb (Nat.le_refl _)
            have hDr : ∀ W, Below Wq.heap.size Wq W → Kd.C k141 W DD 0 (O.drop O.length) := fun W hb => by have hh := drop_C (Kd.R_reads' HOq.out).2.2 hb (Nat.le_refl _) hoc; rw [← hDD, Nat.sub_self] at hh; exact hh
            have hE : ∀ W : World, Wq.heap.size ≤ W.heap.size → Kd.R k141 141 (W.alloc (.cells #[] 141)) W1.heap.size (fun _ => True) (.slice (some ⟨W.heap.size, 0, none⟩) 0 0) [] := fun W hw => Kd.R_lower (Kd.R_mono (none_R W) (fun _ _ => trivial)) (Nat.le_trans HBq.out.size hw)
            have HTkq := Aside0.mk hTk
            have HDrq := Aside0.mk hDr
            have HEq := Aside0.mk hE
            have hsq : W1.heap.size ≤ Wq.heap.size := HBq.out.size
            have HSq := Aside0.mk hsq
            have cq0 : Wq.drew.cell? ⟨g, 0, none⟩ = some (.string x.f0) := (blk_cell HXq.out 0).trans rfl
            have cq1 : Wq.drew.cell? ⟨g, 1, none⟩ = some (.string x.f1) := (blk_cell HXq.out 1).trans rfl
            clear hTk hDr hE hDD hi0 hsz0 hsq hoc
            have BA : Aside0 (Below Wq.heap.size Wq (Wq.alloc (.cells #[] 141)).drew) := ⟨below_drew1 (below_alloc (Below.refl _ _) _)⟩
            have BB : Aside0 (Below Wq.heap.size Wq ((Wq.alloc (.cells #[] 141)).alloc (.cells #[.string x.f0, .string x.f1] 141)).drew) := ⟨below_drew1 (below_alloc (below_alloc (Below.refl _ _) _) _)⟩
            have BC1 : Aside0 (Below Wq.heap.size Wq (Wq.alloc (.cells #[.string x.f0, .string x.f1] 141))) := ⟨below_alloc (Below.refl _ _) _⟩
            have BC : Aside0 (Below Wq.heap.size Wq ((Wq.alloc (.cells #[.string x.f0, .string x.f1] 141)).alloc (.cells #[] 141)).drew) := ⟨below_drew1 (below_alloc BC1.out _)⟩
            have RA : Aside0 (Kd.R k141 141 (Wq.alloc (.cells #[] 141)).drew W1.heap.size (fun _ => True) (.slice (some ⟨Wq.heap.size, 0, none⟩) 0 0) []) := ⟨Kd.R_drew (HEq.out Wq (Nat.le_refl _))⟩
            have RB : Aside0 (Kd.R k141 141 ((Wq.alloc (.cells #[] 141)).alloc (.cells #[.string x.f0, .string x.f1] 141)).drew W1.heap.size (fun _ => True) (.slice (some ⟨Wq.heap.size, 0, none⟩) 0 0) []) := ⟨Kd.R_drew (Kd.R_alloc (HEq.out Wq (Nat.le_refl _)) _)⟩
            have RC : Aside0 (Kd.R k141 141 ((Wq.alloc (.cells #[.string x.f0, .string x.f1] 141)).alloc (.cells #[] 141)).drew W1.heap.size (fun _ => True) (.slice (some ⟨Wq.heap.size + 1, 0, none⟩) 0 0) []) := ⟨by have hh := HEq.out (Wq.alloc (.cells #[.string x.f0, .string x.f1] 141)) BC1.out.size; rw [show (Wq.alloc (.cells #[.string x.f0, .string x.f1] 141)).heap.size = Wq.heap.size + 1 from World.size_alloc _ _] at hh; exact Kd.R_drew hh⟩
            have LB : Aside0 (((Wq.alloc (.cells #[] 141)).alloc (.cells #[.string x.f0, .string x.f1] 141)).drew.heap[Wq.heap.size + 1]? = some (.cells #[.string x.f0, .string x.f1] 141 (0, 0))) := ⟨by rw [show Wq.heap.size + 1 = (Wq.alloc (.cells #[] 141)).heap.size from (World.size_alloc _ _).symm]; exact blk_new (Wq.alloc (.cells #[] 141)) _⟩
            have LC : Aside0 (((Wq.alloc (.cells #[.string x.f0, .string x.f1] 141)).alloc (.cells #[] 141)).drew.heap[Wq.heap.size]? = some (.cells #[.string x.f0, .string x.f1] 141 (0, 0))) := ⟨blk_alloc (blk_new Wq _) _⟩
            have hSq : ∀ W, Below Wq.heap.size Wq W → W.cell? ⟨g, 0, none⟩ = some (.string x.f0) ∧ W.cell? ⟨g, 1, none⟩ = some (.string x.f1) := fun W hb => ⟨(blk_cell ((hb.block _ (blk_lt HXq.out)).trans HXq.out) 0).trans rfl, (blk_cell ((hb.block _ (blk_lt HXq.out)).trans HXq.out) 1).trans rfl⟩
            have HS2 := Aside0.mk hSq
            have hnl : ∀ W : World, W.heap.size = Wq.heap.size → True := fun _ _ => trivial
            clear hSq hnl
            go_region_held3 (fun W' => W'.cell? ⟨g, 0, none⟩ = some (.string x.f0) ∧ W'.cell? ⟨g, 1, none⟩ = some (.string x.f1))
             (first | exact HS2.out _ BA.out | exact HS2.out _ BB.out | exact HS2.out _ BC.out | exact HS2.out _ BC1.out | exact ⟨cq0, cq1⟩ | assumption | exact box_alloc (by assumption) _)
             (first
              | ((with_reducible show (if Region.wanted ⟨some 105, _, _, _, _, _⟩ _ = true then Oper.wp _ _ _ ((Wq.alloc (.cells #[] 141)).drew) _ _ else _)); refine app_step (by rfl) (.tmp 101) (.tmp 104) (by rfl) (.slice (some ⟨Wq.heap.size, 0, none⟩) 0 0) [] (O.take O.length) A3 O.length c3 W1.heap.size (by rfl) (by rfl) RA.out (HTkq.out _ BA.out) (Nat.le_trans HSq.out BA.out.size) (by simp only [List.length_nil]; omega) ?_; intro va wa ha ga oa; have Ha := Aside0.mk ha; have Na := Aside0.mk (app_own (B := Wq.heap.size) BA.out.size (fun q hq => by cases hq; first | exact Nat.le_refl _ | exact Nat.le_succ _ | (rw [World.size_alloc]; omega)) oa); have Ba := Aside0.mk (app_below BA.out BA.out.size ga (fun q hq => by cases hq; first | exact Nat.le_refl _ | exact Nat.le_succ _ | (rw [World.size_alloc]; omega))); have sa := HS2.out _ Ba.out; have Ga := Aside0.mk ga; clear ha ga oa)
              | ((with_reducible show (if Region.wanted ⟨some 105, _, _, _, _, _⟩ _ = true then Oper.wp _ _ _ (((Wq.alloc (.cells #[] 141)).alloc (.cells #[.string x.f0, .string x.f1] 141)).drew) _ _ else _)); refine app_step (by rfl) (.tmp 101) (.tmp 104) (by rfl) (.slice (some ⟨Wq.heap.size, 0, none⟩) 0 0) [] (O.take O.length) A3 O.length c3 W1.heap.size (by rfl) (by rfl) RB.out (HTkq.out _ BB.out) (Nat.le_trans HSq.out BB.out.size) (by simp only [List.length_nil]; omega) ?_; intro vb wb hb gb ob; have Hb := Aside0.mk hb; have Nb := Aside0.mk (app_own (B := Wq.heap.size) BB.out.size (fun q hq => by cases hq; first | exact Nat.le_refl _ | exact Nat.le_succ _ | (rw [World.size_alloc]; omega)) ob); have Bb := Aside0.mk (app_below BB.out BB.out.size gb (fun q hq => by cases hq; first | exact Nat.le_refl _ | exact Nat.le_succ _ | (rw [World.size_alloc]; omega))); have sb := HS2.out _ Bb.out; have Gb := Aside0.mk gb; clear hb gb ob)
              | ((with_reducible show (if Region.wanted ⟨some 105, _, _, _, _, _⟩ _ = true then Oper.wp _ _ _ (((Wq.alloc (.cells #[.string x.f0, .string x.f1] 141)).alloc (.cells #[] 141)).drew) _ _ else _)); refine app_step (by rfl) (.tmp 101) (.tmp 104) (by rfl) (.slice (some ⟨Wq.heap.size + 1, 0, none⟩) 0 0) [] (O.take O.length) A3 O.length c3 W1.heap.size (by rfl) (by rfl) RC.out (HTkq.out _ BC.out) (Nat.le_trans HSq.out BC.out.size) (by simp only [List.length_nil]; omega) ?_; intro vc wc hc gc oc; have Hc := Aside0.mk hc; have Nc := Aside0.mk (app_own (B := Wq.heap.size) BC.out.size (fun q hq => by cases hq; first | exact Nat.le_refl _ | exact Nat.le_succ _ | (rw [World.size_alloc]; omega)) oc); have Bc := Aside0.mk (app_below BC.out BC.out.size gc (fun q hq => by cases hq; first | exact Nat.le_refl _ | exact Nat.le_succ _ | (rw [World.size_alloc]; omega))); have sc := HS2.out _ Bc.out; have Gc := Aside0.mk gc; clear hc gc oc)
              | ((with_reducible show (if Region.wanted ⟨some 108, _, _, _, _, _⟩ _ = true then Oper.wp _ _ _ (wa.alloc (.cells #[.string x.f0, .string x.f1] 141)) _ _ else _)); refine app_step (by rfl) (.tmp 105) (.tmp 107) (by rfl) _ ([] ++ O.take O.length) [x] _ _ _ W1.heap.size (by rfl) (by rfl) (Kd.R_alloc Ha.out _) (lit_C (blk_new wa _)) (Nat.le_trans HSq.out (below_alloc Ba.out _).size) (by simp only [List.length_append, List.length_nil, List.length_take]; omega) ?_; intro va2 wa2 ha2 ga2 oa2; have Ha2 := Aside0.mk ha2; have Na2 := Aside0.mk (app_own (B := Wq.heap.size) (below_alloc Ba.out _).size Na.out oa2); have Ba2 := Aside0.mk (app_below (below_alloc Ba.out _) (below_alloc Ba.out _).size ga2 Na.out); have sa2 := HS2.out _ Ba2.out; clear ha2 ga2 oa2)
              | ((with_reducible show (if Region.wanted ⟨some 108, _, _, _, _, _⟩ _ = true then Oper.wp _ _ _ (wb) _ _ else _)); refine app_step (by rfl) (.tmp 105) (.tmp 107) (by rfl) _ ([] ++ O.take O.length) [x] _ _ _ W1.heap.size (by rfl) (by rfl) Hb.out (lit_C ((Gb.out.block _ (blk_lt LB.out) (fun e => by simp [Value.ownBlock] at e)).trans LB.out)) (Nat.le_trans HSq.out Bb.out.size) (by simp only [List.length_append, List.length_nil, List.length_take]; omega) ?_; intro vb2 wb2 hb2 gb2 ob2; have Hb2 := Aside0.mk hb2; have Nb2 := Aside0.mk (app_own (B := Wq.heap.size) Bb.out.size Nb.out ob2); have Bb2 := Aside0.mk (app_below Bb.out Bb.out.size gb2 Nb.out); have sb2 := HS2.out _ Bb2.out; clear hb2 gb2 ob2)
              | ((with_reducible show (if Region.wanted ⟨some 108, _, _, _, _, _⟩ _ = true then Oper.wp _ _ _ (wc) _ _ else _)); refine app_step (by rfl) (.tmp 105) (.tmp 107) (by rfl) _ ([] ++ O.take O.length) [x] _ _ _ W1.heap.size (by rfl) (by rfl) Hc.out (lit_C ((Gc.out.block _ (blk_lt LC.out) (fun e => by simp [Value.ownBlock] at e)).trans LC.out)) (Nat.le_trans HSq.out Bc.out.size) (by simp only [List.length_append, List.length_nil, List.length_take]; omega) ?_; intro vc2 wc2 hc2 gc2 oc2; have Hc2 := Aside0.mk hc2; have Nc2 := Aside0.mk (app_own (B := Wq.heap.size) Bc.out.size Nc.out oc2); have Bc2 := Aside0.mk (app_below Bc.out Bc.out.size gc2 Nc.out); have sc2 := HS2.out _ Bc2.out; clear hc2 gc2 oc2)
              | ((with_reducible show (if Region.wanted ⟨some 112, _, _, _, _, _⟩ _ = true then Oper.wp _ _ _ (wa2) _ _ else _)); refine app_step (by rfl) (.tmp 108) (.tmp 111) (by rfl) _ ([] ++ O.take O.length ++ [x]) (O.drop O.length) DD 0 _ W1.heap.size (by rfl) (by rfl) Ha2.out (HDrq.out _ Ba2.out) (Nat.le_trans HSq.out Ba2.out.size) (by simp only [List.length_append, List.length_nil, List.length_take, List.length_cons]; omega) ?_; intro v3 w3 h3 g3 o3; have s3 := HS2.out _ (app_below Ba2.out Ba2.out.size g3 Na2.out); have HR3 := Aside0.mk h3; have HB3 := Aside0.mk (app_below Ba2.out Ba2.out.size g3 Na2.out); clear h3 g3 o3)
              | ((with_reducible show (if Region.wanted ⟨some 112, _, _, _, _, _⟩ _ = true then Oper.wp _ _ _ (wb2) _ _ else _)); refine app_step (by rfl) (.tmp 108) (.tmp 111) (by rfl) _ ([] ++ O.take O.length ++ [x]) (O.drop O.length) DD 0 _ W1.heap.size (by rfl) (by rfl) Hb2.out (HDrq.out _ Bb2.out) (Nat.le_trans HSq.out Bb2.out.size) (by simp only [List.length_append, List.length_nil, List.length_take, List.length_cons]; omega) ?_; intro v3 w3 h3 g3 o3; have s3 := HS2.out _ (app_below Bb2.out Bb2.out.size g3 Nb2.out); have HR3 := Aside0.mk h3; have HB3 := Aside0.mk (app_below Bb2.out Bb2.out.size g3 Nb2.out); clear h3 g3 o3)
              | ((with_reducible show (if Region.wanted ⟨some 112, _, _, _, _, _⟩ _ = true then Oper.wp _ _ _ (wc2) _ _ else _)); refine app_step (by rfl) (.tmp 108) (.tmp 111) (by rfl) _ ([] ++ O.take O.length ++ [x]) (O.drop O.length) DD 0 _ W1.heap.size (by rfl) (by rfl) Hc2.out (HDrq.out _ Bc2.out) (Nat.le_trans HSq.out Bc2.out.size) (by simp only [List.length_append, List.length_nil, List.length_take, List.length_cons]; omega) ?_; intro v3 w3 h3 g3 o3; have s3 := HS2.out _ (app_below Bc2.out Bc2.out.size g3 Nc2.out); have HR3 := Aside0.mk h3; have HB3 := Aside0.mk (app_below Bc2.out Bc2.out.size g3 Nc2.out); clear h3 g3 o3))
            all_goals go_wp2_with fail
            all_goals go_round
            case measure => simp [intOf]; omega
            case measure => simp [intOf]; omega
            case measure => simp [intOf]; omega
            all_goals
             refine ⟨j + 1, em, by go_num, rfl, by omega, ⟨below_then HBq.out HBq.out.size HB3.out⟩, ⟨?_⟩, HBt⟩
             rw [HTk.out, List.filter_append, show [x].filter keep = [x] by simp [HKp.out], order_snoc, ← HOe.out, HIns.out]
             have hh := HR3.out
             rw [List.nil_append, List.append_assoc, List.singleton_append] at hh
             exact hh
       ·obtain rfl : j = l.length := by omega
        have hmr := HMr.out
        have hor := HOr.out
        rw [List.take_of_length_le (Nat.le_refl _)] at hmr hor
        cases b with
        | true =>
         have HQ := Aside0.mk (can_good h16 HFn.out HTn.out hmr.symm)
         have HO := Aside0.mk hor
         clear hmr hor
         go_wp2_with fail
         go_ret3
         refine ⟨_, by rw [HQ.out]; rfl, ?_, below_then HB1.out HB1.out.size HBr.out⟩
         rw [HQ.out]
         exact Kd.R_lower HO.out HB1.out.size
        | false =>
         have HQ := Aside0.mk (can_none h16 HFn.out HTn.out hmr.symm)
         clear hmr hor
         go_wp2_with fail
         go_ret3
         exact HLv.out wr 46 0 HBr.out HQ.out
end SpC
open Classical in
noncomputable def spec_Canon.f (l0 : List Lb) : Option (List Lb × Int × Int) := if Fit l0 then some (can l0) else none
theorem spec_Canon.calls (A0 : Option Addr) (c0 : Nat) (l0 : List Lb) (r1 : List Lb) (r2 : Int) (r3 : Int) (w : World) (hr0 : Kd.C k141 w A0 l0.length l0) (hc0 : l0.length ≤ c0) (h : spec_Canon.f l0 = some (r1, r2, r3)) :
  Calls Tryz.prog 37 #[.slice A0 l0.length c0] w fun e w' => ∃ v0_ : Value, e = .returned (.tuple #[v0_, .int .i64 r2, .int .i64 r3]) ∧ Kd.R k141 141 w' w.heap.size (fun _ => True) v0_ r1 ∧ Below w.heap.size w w' := by
 unfold spec_Canon.f at h
 split at h
 ·next hf =>
  have he : can l0 = (r1, r2, r3) := Option.some.inj h
  refine (SpC.walk A0 c0 l0 w hr0 hc0 hf).mono ?_
  rintro e w' ⟨v, hv, hR, hb⟩
  rw [he] at hv hR
  exact ⟨v, hv, hR, hb⟩
 ·cases h
end Go.Proofs.YtikbfjnbhogihaaGreatDoor.M
