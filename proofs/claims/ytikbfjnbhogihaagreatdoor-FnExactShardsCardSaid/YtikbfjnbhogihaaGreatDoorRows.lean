/-
  NARROWER THAN 'FOR EVERY INPUT', by the rows' own cells (each row's printed sentence says how): FnExactStateOK: laid · FnExactCountOf: laid · FnExactShards: laid · FnExactTick: laid · FnExactSetLimit: laid · FnExactAdmit: laid · FnAdmit: laid · FnIdle: laid · FnExactApplyRecs: laid.
  DERIVED. THE GIVEN ROWS OF THIS SEAT. 9 by the template 'for every input the law returns true; each argument reads behind the call as it read before'; 0 by the template 'total and deterministic' (their statements: YtikbfjnbhogihaaGreatDoorTotals.lean).
  GIVEN WITH THE SEED: the statements are not yours to turn. If you find one false, say at which input.
  Laid BY PROGRAM, IN A SANDBOX (cutbox-rows.mjs): the forced cells as the released guide's own fill.sh prints them over the translation a516f659290e349d… (all of the seat's roots in one cut). By AI agents, Wed Nov 11 2026. No macro, syntax, notation, axiom, sorry.
-/
import Derived.Test.YtikbfjnbhogihaaGreatDoorChecked
import GoSem.PinnedTables
import GoSem.Claim
import GoSem.ClaimJoined
import GoSem.ClaimMapViews
import Derived.JoinedTies
import Derived.KernelRfl
namespace Go.Proofs.YtikbfjnbhogihaaGreatDoor
/- THE CELL 'sum', in the pinned program and in every row, IS THE sha256 OF THE DUMP (.gsa) THAT YtikbfjnbhogihaaGreatDoorProg.lean LOADS. Nothing in Lean hashes anything: it is a label: what it is worth is what the hold of that sum in a sandbox is worth. -/
noncomputable def Tryz.pinned : Pinned := { name := "ytikbfjnbhogihaagreatdoor", sum := "a516f659290e349dfb1867720dfe27db83239c84607c18fc3c8f45375b435a0e", checked := Tryz.checked }
namespace Rows
def none {H : Type} : Left H := { results := [], args := [] }

/- WHAT THE LISTED PACKAGE-LEVEL VARIABLES READ AS WHEN THE CALL BEGINS. Each datum BY PROGRAM (the guide's laid-datum.mjs) off the statement by which the dump's own 'gosem.cut.vars' lays the variable. In a bare row this is a premise. The card (YtikbfjnbhogihaaGreatDoorCards.lean) ties it to the program's text. -/
def laid_unicode_utf8_acceptRanges {H : Type} : DataW H := .agg [.agg [.lit (.int .u8 128), .lit (.int .u8 191)], .agg [.lit (.int .u8 160), .lit (.int .u8 191)], .agg [.lit (.int .u8 128), .lit (.int .u8 159)], .agg [.lit (.int .u8 144), .lit (.int .u8 191)], .agg [.lit (.int .u8 128), .lit (.int .u8 143)], .agg [.lit (.int .u8 0), .lit (.int .u8 0)], .agg [.lit (.int .u8 0), .lit (.int .u8 0)], .agg [.lit (.int .u8 0), .lit (.int .u8 0)], .agg [.lit (.int .u8 0), .lit (.int .u8 0)], .agg [.lit (.int .u8 0), .lit (.int .u8 0)], .agg [.lit (.int .u8 0), .lit (.int .u8 0)], .agg [.lit (.int .u8 0), .lit (.int .u8 0)], .agg [.lit (.int .u8 0), .lit (.int .u8 0)], .agg [.lit (.int .u8 0), .lit (.int .u8 0)], .agg [.lit (.int .u8 0), .lit (.int .u8 0)], .agg [.lit (.int .u8 0), .lit (.int .u8 0)]]
/-- One of Go's own tables, pinned by name: the form's constant. -/
def laid_unicode_utf8_first : DataW Unit := Go.Pinned.utf8First

/-- 'laws.FnExactStateOK': WHATEVER THE INPUT: true; the input reads as it did. -/
def fnExactStateOKSpec : ChangeSpec := { name := "fnExactStateOK", fn := fun _ => fun
  | [d1, d2] => { results := [.lit (.bool true)], args := [d1, d2] }
  | _ => none }
def fnExactStateOKRow : OpenClaim := { program := "ytikbfjnbhogihaagreatdoor", sum := "a516f659290e349dfb1867720dfe27db83239c84607c18fc3c8f45375b435a0e", func := "loop.example/s02176/laws.FnExactStateOK", spec := "fnExactStateOK", inPlace := ["internal/bytealg.abigen_runtime_cmpstring", "internal/abi.NoEscape", "internal/bytealg.MakeNoZero"], unfollowed := true, recurses := true, named := ["unicode/utf8.first", "unicode/utf8.acceptRanges"], apart := false, laid := [("unicode/utf8.acceptRanges", laid_unicode_utf8_acceptRanges), ("unicode/utf8.first", laid_unicode_utf8_first)] }
def FnExactStateOKSaid : Prop := fnExactStateOKRow.holds Tryz.pinned (OpenSpec.ofChange fnExactStateOKSpec)

/-- ITS FALSE NEIGHBOUR: 'it returns false'. Refute it at one input. -/
def fnExactStateOKWrong : ChangeSpec := { name := "fnExactStateOK", fn := fun _ => fun
  | [d1, d2] => { results := [.lit (.bool false)], args := [d1, d2] }
  | _ => none }
def FnExactStateOKWrongFalsely : Prop := fnExactStateOKRow.holds Tryz.pinned (OpenSpec.ofChange fnExactStateOKWrong)

/-- 'laws.FnExactCountOf': WHATEVER THE INPUT: true; the input reads as it did. -/
def fnExactCountOfSpec : ChangeSpec := { name := "fnExactCountOf", fn := fun _ => fun
  | [d1, d2, d3, d4] => { results := [.lit (.bool true)], args := [d1, d2, d3, d4] }
  | _ => none }
def fnExactCountOfRow : OpenClaim := { program := "ytikbfjnbhogihaagreatdoor", sum := "a516f659290e349dfb1867720dfe27db83239c84607c18fc3c8f45375b435a0e", func := "loop.example/s02176/laws.FnExactCountOf", spec := "fnExactCountOf", inPlace := ["internal/bytealg.abigen_runtime_cmpstring", "internal/abi.NoEscape", "internal/bytealg.MakeNoZero"], unfollowed := true, recurses := true, named := ["unicode/utf8.first", "unicode/utf8.acceptRanges"], apart := false, laid := [("unicode/utf8.acceptRanges", laid_unicode_utf8_acceptRanges), ("unicode/utf8.first", laid_unicode_utf8_first)] }
def FnExactCountOfSaid : Prop := fnExactCountOfRow.holds Tryz.pinned (OpenSpec.ofChange fnExactCountOfSpec)

/-- ITS FALSE NEIGHBOUR: 'it returns false'. Refute it at one input. -/
def fnExactCountOfWrong : ChangeSpec := { name := "fnExactCountOf", fn := fun _ => fun
  | [d1, d2, d3, d4] => { results := [.lit (.bool false)], args := [d1, d2, d3, d4] }
  | _ => none }
def FnExactCountOfWrongFalsely : Prop := fnExactCountOfRow.holds Tryz.pinned (OpenSpec.ofChange fnExactCountOfWrong)

/-- 'laws.FnExactShards': WHATEVER THE INPUT: true; the input reads as it did. -/
def fnExactShardsSpec : ChangeSpec := { name := "fnExactShards", fn := fun _ => fun
  | [d1, d2, d3] => { results := [.lit (.bool true)], args := [d1, d2, d3] }
  | _ => none }
def fnExactShardsRow : OpenClaim := { program := "ytikbfjnbhogihaagreatdoor", sum := "a516f659290e349dfb1867720dfe27db83239c84607c18fc3c8f45375b435a0e", func := "loop.example/s02176/laws.FnExactShards", spec := "fnExactShards", inPlace := ["internal/bytealg.abigen_runtime_cmpstring", "internal/abi.NoEscape", "internal/bytealg.MakeNoZero"], unfollowed := true, recurses := true, named := ["unicode/utf8.first", "unicode/utf8.acceptRanges"], apart := false, laid := [("unicode/utf8.acceptRanges", laid_unicode_utf8_acceptRanges), ("unicode/utf8.first", laid_unicode_utf8_first)] }
def FnExactShardsSaid : Prop := fnExactShardsRow.holds Tryz.pinned (OpenSpec.ofChange fnExactShardsSpec)

/-- ITS FALSE NEIGHBOUR: 'it returns false'. Refute it at one input. -/
def fnExactShardsWrong : ChangeSpec := { name := "fnExactShards", fn := fun _ => fun
  | [d1, d2, d3] => { results := [.lit (.bool false)], args := [d1, d2, d3] }
  | _ => none }
def FnExactShardsWrongFalsely : Prop := fnExactShardsRow.holds Tryz.pinned (OpenSpec.ofChange fnExactShardsWrong)

/-- 'laws.FnExactTick': WHATEVER THE INPUT: true; the input reads as it did. -/
def fnExactTickSpec : ChangeSpec := { name := "fnExactTick", fn := fun _ => fun
  | [d1, d2, d3] => { results := [.lit (.bool true)], args := [d1, d2, d3] }
  | _ => none }
def fnExactTickRow : OpenClaim := { program := "ytikbfjnbhogihaagreatdoor", sum := "a516f659290e349dfb1867720dfe27db83239c84607c18fc3c8f45375b435a0e", func := "loop.example/s02176/laws.FnExactTick", spec := "fnExactTick", inPlace := ["internal/bytealg.abigen_runtime_cmpstring", "internal/abi.NoEscape", "internal/bytealg.MakeNoZero"], unfollowed := true, recurses := true, named := ["unicode/utf8.first", "unicode/utf8.acceptRanges"], apart := false, laid := [("unicode/utf8.acceptRanges", laid_unicode_utf8_acceptRanges), ("unicode/utf8.first", laid_unicode_utf8_first)] }
def FnExactTickSaid : Prop := fnExactTickRow.holds Tryz.pinned (OpenSpec.ofChange fnExactTickSpec)

/-- ITS FALSE NEIGHBOUR: 'it returns false'. Refute it at one input. -/
def fnExactTickWrong : ChangeSpec := { name := "fnExactTick", fn := fun _ => fun
  | [d1, d2, d3] => { results := [.lit (.bool false)], args := [d1, d2, d3] }
  | _ => none }
def FnExactTickWrongFalsely : Prop := fnExactTickRow.holds Tryz.pinned (OpenSpec.ofChange fnExactTickWrong)

/-- 'laws.FnExactSetLimit': WHATEVER THE INPUT: true; the input reads as it did. -/
def fnExactSetLimitSpec : ChangeSpec := { name := "fnExactSetLimit", fn := fun _ => fun
  | [d1, d2, d3, d4, d5] => { results := [.lit (.bool true)], args := [d1, d2, d3, d4, d5] }
  | _ => none }
def fnExactSetLimitRow : OpenClaim := { program := "ytikbfjnbhogihaagreatdoor", sum := "a516f659290e349dfb1867720dfe27db83239c84607c18fc3c8f45375b435a0e", func := "loop.example/s02176/laws.FnExactSetLimit", spec := "fnExactSetLimit", inPlace := ["internal/bytealg.abigen_runtime_cmpstring", "internal/abi.NoEscape", "internal/bytealg.MakeNoZero"], unfollowed := true, recurses := true, named := ["unicode/utf8.first", "unicode/utf8.acceptRanges"], apart := false, laid := [("unicode/utf8.acceptRanges", laid_unicode_utf8_acceptRanges), ("unicode/utf8.first", laid_unicode_utf8_first)] }
def FnExactSetLimitSaid : Prop := fnExactSetLimitRow.holds Tryz.pinned (OpenSpec.ofChange fnExactSetLimitSpec)

/-- ITS FALSE NEIGHBOUR: 'it returns false'. Refute it at one input. -/
def fnExactSetLimitWrong : ChangeSpec := { name := "fnExactSetLimit", fn := fun _ => fun
  | [d1, d2, d3, d4, d5] => { results := [.lit (.bool false)], args := [d1, d2, d3, d4, d5] }
  | _ => none }
def FnExactSetLimitWrongFalsely : Prop := fnExactSetLimitRow.holds Tryz.pinned (OpenSpec.ofChange fnExactSetLimitWrong)

/-- 'laws.FnExactAdmit': WHATEVER THE INPUT: true; the input reads as it did. -/
def fnExactAdmitSpec : ChangeSpec := { name := "fnExactAdmit", fn := fun _ => fun
  | [d1, d2, d3, d4] => { results := [.lit (.bool true)], args := [d1, d2, d3, d4] }
  | _ => none }
def fnExactAdmitRow : OpenClaim := { program := "ytikbfjnbhogihaagreatdoor", sum := "a516f659290e349dfb1867720dfe27db83239c84607c18fc3c8f45375b435a0e", func := "loop.example/s02176/laws.FnExactAdmit", spec := "fnExactAdmit", inPlace := ["internal/bytealg.abigen_runtime_cmpstring", "internal/abi.NoEscape", "internal/bytealg.MakeNoZero"], unfollowed := true, recurses := true, named := ["unicode/utf8.first", "unicode/utf8.acceptRanges"], apart := false, laid := [("unicode/utf8.acceptRanges", laid_unicode_utf8_acceptRanges), ("unicode/utf8.first", laid_unicode_utf8_first)] }
def FnExactAdmitSaid : Prop := fnExactAdmitRow.holds Tryz.pinned (OpenSpec.ofChange fnExactAdmitSpec)

/-- ITS FALSE NEIGHBOUR: 'it returns false'. Refute it at one input. -/
def fnExactAdmitWrong : ChangeSpec := { name := "fnExactAdmit", fn := fun _ => fun
  | [d1, d2, d3, d4] => { results := [.lit (.bool false)], args := [d1, d2, d3, d4] }
  | _ => none }
def FnExactAdmitWrongFalsely : Prop := fnExactAdmitRow.holds Tryz.pinned (OpenSpec.ofChange fnExactAdmitWrong)

/-- 'laws.FnAdmit': WHATEVER THE INPUT: true; the input reads as it did. -/
def fnAdmitSpec : ChangeSpec := { name := "fnAdmit", fn := fun _ => fun
  | [d] => { results := [.lit (.bool true)], args := [d] }
  | _ => none }
def fnAdmitRow : OpenClaim := { program := "ytikbfjnbhogihaagreatdoor", sum := "a516f659290e349dfb1867720dfe27db83239c84607c18fc3c8f45375b435a0e", func := "loop.example/s02176/laws.FnAdmit", spec := "fnAdmit", inPlace := ["internal/bytealg.abigen_runtime_cmpstring", "internal/abi.NoEscape", "internal/bytealg.MakeNoZero"], unfollowed := true, recurses := true, named := ["unicode/utf8.first", "unicode/utf8.acceptRanges"], apart := false, laid := [("unicode/utf8.acceptRanges", laid_unicode_utf8_acceptRanges), ("unicode/utf8.first", laid_unicode_utf8_first)] }
def FnAdmitSaid : Prop := fnAdmitRow.holds Tryz.pinned (OpenSpec.ofChange fnAdmitSpec)

/-- ITS FALSE NEIGHBOUR: 'it returns false'. Refute it at one input. -/
def fnAdmitWrong : ChangeSpec := { name := "fnAdmit", fn := fun _ => fun
  | [d] => { results := [.lit (.bool false)], args := [d] }
  | _ => none }
def FnAdmitWrongFalsely : Prop := fnAdmitRow.holds Tryz.pinned (OpenSpec.ofChange fnAdmitWrong)

/-- 'laws.FnIdle': WHATEVER THE INPUT: true; the input reads as it did. -/
def fnIdleSpec : ChangeSpec := { name := "fnIdle", fn := fun _ => fun
  | [d1, d2] => { results := [.lit (.bool true)], args := [d1, d2] }
  | _ => none }
def fnIdleRow : OpenClaim := { program := "ytikbfjnbhogihaagreatdoor", sum := "a516f659290e349dfb1867720dfe27db83239c84607c18fc3c8f45375b435a0e", func := "loop.example/s02176/laws.FnIdle", spec := "fnIdle", inPlace := ["internal/bytealg.abigen_runtime_cmpstring", "internal/abi.NoEscape", "internal/bytealg.MakeNoZero"], unfollowed := true, recurses := true, named := ["unicode/utf8.first", "unicode/utf8.acceptRanges"], apart := false, laid := [("unicode/utf8.acceptRanges", laid_unicode_utf8_acceptRanges), ("unicode/utf8.first", laid_unicode_utf8_first)] }
def FnIdleSaid : Prop := fnIdleRow.holds Tryz.pinned (OpenSpec.ofChange fnIdleSpec)

/-- ITS FALSE NEIGHBOUR: 'it returns false'. Refute it at one input. -/
def fnIdleWrong : ChangeSpec := { name := "fnIdle", fn := fun _ => fun
  | [d1, d2] => { results := [.lit (.bool false)], args := [d1, d2] }
  | _ => none }
def FnIdleWrongFalsely : Prop := fnIdleRow.holds Tryz.pinned (OpenSpec.ofChange fnIdleWrong)

/-- 'laws.FnExactApplyRecs': WHATEVER THE INPUT: true; the input reads as it did. -/
def fnExactApplyRecsSpec : ChangeSpec := { name := "fnExactApplyRecs", fn := fun _ => fun
  | [d1, d2, d3] => { results := [.lit (.bool true)], args := [d1, d2, d3] }
  | _ => none }
def fnExactApplyRecsRow : OpenClaim := { program := "ytikbfjnbhogihaagreatdoor", sum := "a516f659290e349dfb1867720dfe27db83239c84607c18fc3c8f45375b435a0e", func := "loop.example/s02176/laws.FnExactApplyRecs", spec := "fnExactApplyRecs", inPlace := ["internal/bytealg.abigen_runtime_cmpstring", "internal/abi.NoEscape", "internal/bytealg.MakeNoZero"], unfollowed := true, recurses := true, named := ["unicode/utf8.first", "unicode/utf8.acceptRanges"], apart := false, laid := [("unicode/utf8.acceptRanges", laid_unicode_utf8_acceptRanges), ("unicode/utf8.first", laid_unicode_utf8_first)] }
def FnExactApplyRecsSaid : Prop := fnExactApplyRecsRow.holds Tryz.pinned (OpenSpec.ofChange fnExactApplyRecsSpec)

/-- ITS FALSE NEIGHBOUR: 'it returns false'. Refute it at one input. -/
def fnExactApplyRecsWrong : ChangeSpec := { name := "fnExactApplyRecs", fn := fun _ => fun
  | [d1, d2, d3] => { results := [.lit (.bool false)], args := [d1, d2, d3] }
  | _ => none }
def FnExactApplyRecsWrongFalsely : Prop := fnExactApplyRecsRow.holds Tryz.pinned (OpenSpec.ofChange fnExactApplyRecsWrong)

/- THE SECOND FORM. 'bulk': how many values and letters a reading holds, each counted each time it is reached (what is shared counts as often as it is met; a slice's spare places count too). A statement '..UptoSaid' is the law's where the arguments, and the package variables that the reading takes, are together of bulk at most 1048576: NARROWER than '..Said'. Prove '..Said' where nothing that the law and all that it calls make is longer than what came in: it says more and counts as full. Else prove '..UptoSaid'. A law counts once. -/
mutual
def uptoBulk {H : Type} : DataW H → Nat
  | .lit (.string bytes) => bytes.length + 1
  | .lit _ => 1
  | .nil => 1
  | .ptr d => uptoBulk d + 1
  | .slice elems spare => uptoBulkAll elems + uptoBulkAll spare + 1
  | .agg parts => uptoBulkAll parts + 1
  | .iface _ d => uptoBulk d + 1
  | .map entries => uptoBulkEntries entries + 1
  | .held _ => 1
def uptoBulkAll {H : Type} : List (DataW H) → Nat
  | [] => 0
  | d :: r => uptoBulk d + uptoBulkAll r
def uptoBulkEntries {H : Type} : List (Lit × DataW H) → Nat
  | [] => 0
  | x :: r => uptoBulkEntry x + uptoBulkEntries r
def uptoBulkEntry {H : Type} : Lit × DataW H → Nat
  | (.string bytes, d) => bytes.length + uptoBulk d + 1
  | (_, d) => uptoBulk d + 1
 end
def uptoSmall : (H : Type) → List (DataW H) → Bool := fun _ ds => decide (uptoBulkAll ds ≤ 1048576)
def OpenSpec.upto (s : _root_.Go.ChangeSpec) : _root_.Go.OpenSpec := { _root_.Go.OpenSpec.ofChange s with cond := some uptoSmall }

/-- 'laws.FnExactStateOK', WHERE WHAT IT READS IS OF BULK AT MOST 1048576: true; the input reads as it did. -/
def fnExactStateOKUptoRow : OpenClaim := { program := "ytikbfjnbhogihaagreatdoor", sum := "a516f659290e349dfb1867720dfe27db83239c84607c18fc3c8f45375b435a0e", func := "loop.example/s02176/laws.FnExactStateOK", spec := "fnExactStateOK", inPlace := ["internal/bytealg.abigen_runtime_cmpstring", "internal/abi.NoEscape", "internal/bytealg.MakeNoZero"], unfollowed := true, recurses := true, named := ["unicode/utf8.first", "unicode/utf8.acceptRanges"], apart := false, laid := [("unicode/utf8.acceptRanges", laid_unicode_utf8_acceptRanges), ("unicode/utf8.first", laid_unicode_utf8_first)], narrowed := true }
def FnExactStateOKUptoSaid : Prop := fnExactStateOKUptoRow.holds Tryz.pinned (OpenSpec.upto fnExactStateOKSpec)

/-- 'laws.FnExactCountOf', WHERE WHAT IT READS IS OF BULK AT MOST 1048576: true; the input reads as it did. -/
def fnExactCountOfUptoRow : OpenClaim := { program := "ytikbfjnbhogihaagreatdoor", sum := "a516f659290e349dfb1867720dfe27db83239c84607c18fc3c8f45375b435a0e", func := "loop.example/s02176/laws.FnExactCountOf", spec := "fnExactCountOf", inPlace := ["internal/bytealg.abigen_runtime_cmpstring", "internal/abi.NoEscape", "internal/bytealg.MakeNoZero"], unfollowed := true, recurses := true, named := ["unicode/utf8.first", "unicode/utf8.acceptRanges"], apart := false, laid := [("unicode/utf8.acceptRanges", laid_unicode_utf8_acceptRanges), ("unicode/utf8.first", laid_unicode_utf8_first)], narrowed := true }
def FnExactCountOfUptoSaid : Prop := fnExactCountOfUptoRow.holds Tryz.pinned (OpenSpec.upto fnExactCountOfSpec)

/-- 'laws.FnExactShards', WHERE WHAT IT READS IS OF BULK AT MOST 1048576: true; the input reads as it did. -/
def fnExactShardsUptoRow : OpenClaim := { program := "ytikbfjnbhogihaagreatdoor", sum := "a516f659290e349dfb1867720dfe27db83239c84607c18fc3c8f45375b435a0e", func := "loop.example/s02176/laws.FnExactShards", spec := "fnExactShards", inPlace := ["internal/bytealg.abigen_runtime_cmpstring", "internal/abi.NoEscape", "internal/bytealg.MakeNoZero"], unfollowed := true, recurses := true, named := ["unicode/utf8.first", "unicode/utf8.acceptRanges"], apart := false, laid := [("unicode/utf8.acceptRanges", laid_unicode_utf8_acceptRanges), ("unicode/utf8.first", laid_unicode_utf8_first)], narrowed := true }
def FnExactShardsUptoSaid : Prop := fnExactShardsUptoRow.holds Tryz.pinned (OpenSpec.upto fnExactShardsSpec)

/-- 'laws.FnExactTick', WHERE WHAT IT READS IS OF BULK AT MOST 1048576: true; the input reads as it did. -/
def fnExactTickUptoRow : OpenClaim := { program := "ytikbfjnbhogihaagreatdoor", sum := "a516f659290e349dfb1867720dfe27db83239c84607c18fc3c8f45375b435a0e", func := "loop.example/s02176/laws.FnExactTick", spec := "fnExactTick", inPlace := ["internal/bytealg.abigen_runtime_cmpstring", "internal/abi.NoEscape", "internal/bytealg.MakeNoZero"], unfollowed := true, recurses := true, named := ["unicode/utf8.first", "unicode/utf8.acceptRanges"], apart := false, laid := [("unicode/utf8.acceptRanges", laid_unicode_utf8_acceptRanges), ("unicode/utf8.first", laid_unicode_utf8_first)], narrowed := true }
def FnExactTickUptoSaid : Prop := fnExactTickUptoRow.holds Tryz.pinned (OpenSpec.upto fnExactTickSpec)

/-- 'laws.FnExactSetLimit', WHERE WHAT IT READS IS OF BULK AT MOST 1048576: true; the input reads as it did. -/
def fnExactSetLimitUptoRow : OpenClaim := { program := "ytikbfjnbhogihaagreatdoor", sum := "a516f659290e349dfb1867720dfe27db83239c84607c18fc3c8f45375b435a0e", func := "loop.example/s02176/laws.FnExactSetLimit", spec := "fnExactSetLimit", inPlace := ["internal/bytealg.abigen_runtime_cmpstring", "internal/abi.NoEscape", "internal/bytealg.MakeNoZero"], unfollowed := true, recurses := true, named := ["unicode/utf8.first", "unicode/utf8.acceptRanges"], apart := false, laid := [("unicode/utf8.acceptRanges", laid_unicode_utf8_acceptRanges), ("unicode/utf8.first", laid_unicode_utf8_first)], narrowed := true }
def FnExactSetLimitUptoSaid : Prop := fnExactSetLimitUptoRow.holds Tryz.pinned (OpenSpec.upto fnExactSetLimitSpec)

/-- 'laws.FnExactAdmit', WHERE WHAT IT READS IS OF BULK AT MOST 1048576: true; the input reads as it did. -/
def fnExactAdmitUptoRow : OpenClaim := { program := "ytikbfjnbhogihaagreatdoor", sum := "a516f659290e349dfb1867720dfe27db83239c84607c18fc3c8f45375b435a0e", func := "loop.example/s02176/laws.FnExactAdmit", spec := "fnExactAdmit", inPlace := ["internal/bytealg.abigen_runtime_cmpstring", "internal/abi.NoEscape", "internal/bytealg.MakeNoZero"], unfollowed := true, recurses := true, named := ["unicode/utf8.first", "unicode/utf8.acceptRanges"], apart := false, laid := [("unicode/utf8.acceptRanges", laid_unicode_utf8_acceptRanges), ("unicode/utf8.first", laid_unicode_utf8_first)], narrowed := true }
def FnExactAdmitUptoSaid : Prop := fnExactAdmitUptoRow.holds Tryz.pinned (OpenSpec.upto fnExactAdmitSpec)

/-- 'laws.FnAdmit', WHERE WHAT IT READS IS OF BULK AT MOST 1048576: true; the input reads as it did. -/
def fnAdmitUptoRow : OpenClaim := { program := "ytikbfjnbhogihaagreatdoor", sum := "a516f659290e349dfb1867720dfe27db83239c84607c18fc3c8f45375b435a0e", func := "loop.example/s02176/laws.FnAdmit", spec := "fnAdmit", inPlace := ["internal/bytealg.abigen_runtime_cmpstring", "internal/abi.NoEscape", "internal/bytealg.MakeNoZero"], unfollowed := true, recurses := true, named := ["unicode/utf8.first", "unicode/utf8.acceptRanges"], apart := false, laid := [("unicode/utf8.acceptRanges", laid_unicode_utf8_acceptRanges), ("unicode/utf8.first", laid_unicode_utf8_first)], narrowed := true }
def FnAdmitUptoSaid : Prop := fnAdmitUptoRow.holds Tryz.pinned (OpenSpec.upto fnAdmitSpec)

/-- 'laws.FnIdle', WHERE WHAT IT READS IS OF BULK AT MOST 1048576: true; the input reads as it did. -/
def fnIdleUptoRow : OpenClaim := { program := "ytikbfjnbhogihaagreatdoor", sum := "a516f659290e349dfb1867720dfe27db83239c84607c18fc3c8f45375b435a0e", func := "loop.example/s02176/laws.FnIdle", spec := "fnIdle", inPlace := ["internal/bytealg.abigen_runtime_cmpstring", "internal/abi.NoEscape", "internal/bytealg.MakeNoZero"], unfollowed := true, recurses := true, named := ["unicode/utf8.first", "unicode/utf8.acceptRanges"], apart := false, laid := [("unicode/utf8.acceptRanges", laid_unicode_utf8_acceptRanges), ("unicode/utf8.first", laid_unicode_utf8_first)], narrowed := true }
def FnIdleUptoSaid : Prop := fnIdleUptoRow.holds Tryz.pinned (OpenSpec.upto fnIdleSpec)

/-- 'laws.FnExactApplyRecs', WHERE WHAT IT READS IS OF BULK AT MOST 1048576: true; the input reads as it did. -/
def fnExactApplyRecsUptoRow : OpenClaim := { program := "ytikbfjnbhogihaagreatdoor", sum := "a516f659290e349dfb1867720dfe27db83239c84607c18fc3c8f45375b435a0e", func := "loop.example/s02176/laws.FnExactApplyRecs", spec := "fnExactApplyRecs", inPlace := ["internal/bytealg.abigen_runtime_cmpstring", "internal/abi.NoEscape", "internal/bytealg.MakeNoZero"], unfollowed := true, recurses := true, named := ["unicode/utf8.first", "unicode/utf8.acceptRanges"], apart := false, laid := [("unicode/utf8.acceptRanges", laid_unicode_utf8_acceptRanges), ("unicode/utf8.first", laid_unicode_utf8_first)], narrowed := true }
def FnExactApplyRecsUptoSaid : Prop := fnExactApplyRecsUptoRow.holds Tryz.pinned (OpenSpec.upto fnExactApplyRecsSpec)

end Rows
end Go.Proofs.YtikbfjnbhogihaaGreatDoor
