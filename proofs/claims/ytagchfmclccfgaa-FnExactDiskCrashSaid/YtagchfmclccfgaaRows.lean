/-
  No cell of these rows narrows 'for every input' (looked for: loops, veiled, ifaces, maps, wideKeys, modest, calm, conditions, laid).
  DERIVED. THE GIVEN ROWS OF THIS SEAT. 10 by the template 'for every input the law returns true; each argument reads behind the call as it read before'; 0 by the template 'total and deterministic' (their statements: YtagchfmclccfgaaTotals.lean).
  GIVEN WITH THE SEED: the statements are not yours to turn. If you find one false, say at which input.
  Laid BY PROGRAM, IN A SANDBOX (cutbox-rows.mjs): the forced cells as the released guide's own fill.sh prints them over the translation 33444cd7bd8dea2c… (all of the seat's roots in one cut). By AI agents, Wed Nov 11 2026. No macro, syntax, notation, axiom, sorry.
-/
import Derived.Test.YtagchfmclccfgaaChecked
import GoSem.Claim
import GoSem.ClaimJoined
import GoSem.ClaimMapViews
import Derived.JoinedTies
import Derived.KernelRfl
namespace Go.Proofs.Ytagchfmclccfgaa
/- THE CELL 'sum', in the pinned program and in every row, IS THE sha256 OF THE DUMP (.gsa) THAT YtagchfmclccfgaaProg.lean LOADS. Nothing in Lean hashes anything: it is a label: what it is worth is what the hold of that sum in a sandbox is worth. -/
noncomputable def Try.pinned : Pinned := { name := "ytagchfmclccfgaa", sum := "33444cd7bd8dea2c5f4c5106e45aae4a1c6d44a832db1c867bebc6f3a1b66143", checked := Try.checked }
namespace Rows
def none {H : Type} : Left H := { results := [], args := [] }

/-- 'laws.FnExactConstants': WHATEVER THE INPUT: true; the input reads as it did. -/
def fnExactConstantsSpec : ChangeSpec := { name := "fnExactConstants", fn := fun _ => fun
  | [] => { results := [.lit (.bool true)], args := [] }
  | _ => none }
def fnExactConstantsRow : OpenClaim := { program := "ytagchfmclccfgaa", sum := "33444cd7bd8dea2c5f4c5106e45aae4a1c6d44a832db1c867bebc6f3a1b66143", func := "loop.example/s02176/laws.FnExactConstants", spec := "fnExactConstants", apart := false }
def FnExactConstantsSaid : Prop := fnExactConstantsRow.holds Try.pinned (OpenSpec.ofChange fnExactConstantsSpec)

/-- ITS FALSE NEIGHBOUR: 'it returns false'. Refute it at one input. -/
def fnExactConstantsWrong : ChangeSpec := { name := "fnExactConstants", fn := fun _ => fun
  | [] => { results := [.lit (.bool false)], args := [] }
  | _ => none }
def FnExactConstantsWrongFalsely : Prop := fnExactConstantsRow.holds Try.pinned (OpenSpec.ofChange fnExactConstantsWrong)

/-- 'laws.FnExactHash64': WHATEVER THE INPUT: true; the input reads as it did. -/
def fnExactHash64Spec : ChangeSpec := { name := "fnExactHash64", fn := fun _ => fun
  | [d] => { results := [.lit (.bool true)], args := [d] }
  | _ => none }
def fnExactHash64Row : OpenClaim := { program := "ytagchfmclccfgaa", sum := "33444cd7bd8dea2c5f4c5106e45aae4a1c6d44a832db1c867bebc6f3a1b66143", func := "loop.example/s02176/laws.FnExactHash64", spec := "fnExactHash64", apart := false }
def FnExactHash64Said : Prop := fnExactHash64Row.holds Try.pinned (OpenSpec.ofChange fnExactHash64Spec)

/-- ITS FALSE NEIGHBOUR: 'it returns false'. Refute it at one input. -/
def fnExactHash64Wrong : ChangeSpec := { name := "fnExactHash64", fn := fun _ => fun
  | [d] => { results := [.lit (.bool false)], args := [d] }
  | _ => none }
def FnExactHash64WrongFalsely : Prop := fnExactHash64Row.holds Try.pinned (OpenSpec.ofChange fnExactHash64Wrong)

/-- 'laws.FnExactConfigOK': WHATEVER THE INPUT: true; the input reads as it did. -/
def fnExactConfigOKSpec : ChangeSpec := { name := "fnExactConfigOK", fn := fun _ => fun
  | [d] => { results := [.lit (.bool true)], args := [d] }
  | _ => none }
def fnExactConfigOKRow : OpenClaim := { program := "ytagchfmclccfgaa", sum := "33444cd7bd8dea2c5f4c5106e45aae4a1c6d44a832db1c867bebc6f3a1b66143", func := "loop.example/s02176/laws.FnExactConfigOK", spec := "fnExactConfigOK", apart := false }
def FnExactConfigOKSaid : Prop := fnExactConfigOKRow.holds Try.pinned (OpenSpec.ofChange fnExactConfigOKSpec)

/-- ITS FALSE NEIGHBOUR: 'it returns false'. Refute it at one input. -/
def fnExactConfigOKWrong : ChangeSpec := { name := "fnExactConfigOK", fn := fun _ => fun
  | [d] => { results := [.lit (.bool false)], args := [d] }
  | _ => none }
def FnExactConfigOKWrongFalsely : Prop := fnExactConfigOKRow.holds Try.pinned (OpenSpec.ofChange fnExactConfigOKWrong)

/-- 'laws.FnExactSegmentName': WHATEVER THE INPUT: true; the input reads as it did. -/
def fnExactSegmentNameSpec : ChangeSpec := { name := "fnExactSegmentName", fn := fun _ => fun
  | [d] => { results := [.lit (.bool true)], args := [d] }
  | _ => none }
def fnExactSegmentNameRow : OpenClaim := { program := "ytagchfmclccfgaa", sum := "33444cd7bd8dea2c5f4c5106e45aae4a1c6d44a832db1c867bebc6f3a1b66143", func := "loop.example/s02176/laws.FnExactSegmentName", spec := "fnExactSegmentName", apart := false }
def FnExactSegmentNameSaid : Prop := fnExactSegmentNameRow.holds Try.pinned (OpenSpec.ofChange fnExactSegmentNameSpec)

/-- ITS FALSE NEIGHBOUR: 'it returns false'. Refute it at one input. -/
def fnExactSegmentNameWrong : ChangeSpec := { name := "fnExactSegmentName", fn := fun _ => fun
  | [d] => { results := [.lit (.bool false)], args := [d] }
  | _ => none }
def FnExactSegmentNameWrongFalsely : Prop := fnExactSegmentNameRow.holds Try.pinned (OpenSpec.ofChange fnExactSegmentNameWrong)

/-- 'laws.FnExactCrc32c': WHATEVER THE INPUT: true; the input reads as it did. -/
def fnExactCrc32cSpec : ChangeSpec := { name := "fnExactCrc32c", fn := fun _ => fun
  | [d] => { results := [.lit (.bool true)], args := [d] }
  | _ => none }
def fnExactCrc32cRow : OpenClaim := { program := "ytagchfmclccfgaa", sum := "33444cd7bd8dea2c5f4c5106e45aae4a1c6d44a832db1c867bebc6f3a1b66143", func := "loop.example/s02176/laws.FnExactCrc32c", spec := "fnExactCrc32c", apart := false }
def FnExactCrc32cSaid : Prop := fnExactCrc32cRow.holds Try.pinned (OpenSpec.ofChange fnExactCrc32cSpec)

/-- ITS FALSE NEIGHBOUR: 'it returns false'. Refute it at one input. -/
def fnExactCrc32cWrong : ChangeSpec := { name := "fnExactCrc32c", fn := fun _ => fun
  | [d] => { results := [.lit (.bool false)], args := [d] }
  | _ => none }
def FnExactCrc32cWrongFalsely : Prop := fnExactCrc32cRow.holds Try.pinned (OpenSpec.ofChange fnExactCrc32cWrong)

/-- 'laws.FnExactFrame': WHATEVER THE INPUT: true; the input reads as it did. -/
def fnExactFrameSpec : ChangeSpec := { name := "fnExactFrame", fn := fun _ => fun
  | [d] => { results := [.lit (.bool true)], args := [d] }
  | _ => none }
def fnExactFrameRow : OpenClaim := { program := "ytagchfmclccfgaa", sum := "33444cd7bd8dea2c5f4c5106e45aae4a1c6d44a832db1c867bebc6f3a1b66143", func := "loop.example/s02176/laws.FnExactFrame", spec := "fnExactFrame", apart := false }
def FnExactFrameSaid : Prop := fnExactFrameRow.holds Try.pinned (OpenSpec.ofChange fnExactFrameSpec)

/-- ITS FALSE NEIGHBOUR: 'it returns false'. Refute it at one input. -/
def fnExactFrameWrong : ChangeSpec := { name := "fnExactFrame", fn := fun _ => fun
  | [d] => { results := [.lit (.bool false)], args := [d] }
  | _ => none }
def FnExactFrameWrongFalsely : Prop := fnExactFrameRow.holds Try.pinned (OpenSpec.ofChange fnExactFrameWrong)

/-- 'laws.FnExactDiskValid': WHATEVER THE INPUT: true; the input reads as it did. -/
def fnExactDiskValidSpec : ChangeSpec := { name := "fnExactDiskValid", fn := fun _ => fun
  | [d] => { results := [.lit (.bool true)], args := [d] }
  | _ => none }
def fnExactDiskValidRow : OpenClaim := { program := "ytagchfmclccfgaa", sum := "33444cd7bd8dea2c5f4c5106e45aae4a1c6d44a832db1c867bebc6f3a1b66143", func := "loop.example/s02176/laws.FnExactDiskValid", spec := "fnExactDiskValid", apart := false }
def FnExactDiskValidSaid : Prop := fnExactDiskValidRow.holds Try.pinned (OpenSpec.ofChange fnExactDiskValidSpec)

/-- ITS FALSE NEIGHBOUR: 'it returns false'. Refute it at one input. -/
def fnExactDiskValidWrong : ChangeSpec := { name := "fnExactDiskValid", fn := fun _ => fun
  | [d] => { results := [.lit (.bool false)], args := [d] }
  | _ => none }
def FnExactDiskValidWrongFalsely : Prop := fnExactDiskValidRow.holds Try.pinned (OpenSpec.ofChange fnExactDiskValidWrong)

/-- 'laws.FnExactScan': WHATEVER THE INPUT: true; the input reads as it did. -/
def fnExactScanSpec : ChangeSpec := { name := "fnExactScan", fn := fun _ => fun
  | [d] => { results := [.lit (.bool true)], args := [d] }
  | _ => none }
def fnExactScanRow : OpenClaim := { program := "ytagchfmclccfgaa", sum := "33444cd7bd8dea2c5f4c5106e45aae4a1c6d44a832db1c867bebc6f3a1b66143", func := "loop.example/s02176/laws.FnExactScan", spec := "fnExactScan", unfollowed := true, recurses := true, apart := false }
def FnExactScanSaid : Prop := fnExactScanRow.holds Try.pinned (OpenSpec.ofChange fnExactScanSpec)

/-- ITS FALSE NEIGHBOUR: 'it returns false'. Refute it at one input. -/
def fnExactScanWrong : ChangeSpec := { name := "fnExactScan", fn := fun _ => fun
  | [d] => { results := [.lit (.bool false)], args := [d] }
  | _ => none }
def FnExactScanWrongFalsely : Prop := fnExactScanRow.holds Try.pinned (OpenSpec.ofChange fnExactScanWrong)

/-- 'laws.FnExactDiskRead': WHATEVER THE INPUT: true; the input reads as it did. -/
def fnExactDiskReadSpec : ChangeSpec := { name := "fnExactDiskRead", fn := fun _ => fun
  | [d1, d2] => { results := [.lit (.bool true)], args := [d1, d2] }
  | _ => none }
def fnExactDiskReadRow : OpenClaim := { program := "ytagchfmclccfgaa", sum := "33444cd7bd8dea2c5f4c5106e45aae4a1c6d44a832db1c867bebc6f3a1b66143", func := "loop.example/s02176/laws.FnExactDiskRead", spec := "fnExactDiskRead", inPlace := ["internal/bytealg.abigen_runtime_cmpstring"], unfollowed := true, recurses := true, apart := false }
def FnExactDiskReadSaid : Prop := fnExactDiskReadRow.holds Try.pinned (OpenSpec.ofChange fnExactDiskReadSpec)

/-- ITS FALSE NEIGHBOUR: 'it returns false'. Refute it at one input. -/
def fnExactDiskReadWrong : ChangeSpec := { name := "fnExactDiskRead", fn := fun _ => fun
  | [d1, d2] => { results := [.lit (.bool false)], args := [d1, d2] }
  | _ => none }
def FnExactDiskReadWrongFalsely : Prop := fnExactDiskReadRow.holds Try.pinned (OpenSpec.ofChange fnExactDiskReadWrong)

/-- 'laws.FnExactDiskCrash': WHATEVER THE INPUT: true; the input reads as it did. -/
def fnExactDiskCrashSpec : ChangeSpec := { name := "fnExactDiskCrash", fn := fun _ => fun
  | [d1, d2] => { results := [.lit (.bool true)], args := [d1, d2] }
  | _ => none }
def fnExactDiskCrashRow : OpenClaim := { program := "ytagchfmclccfgaa", sum := "33444cd7bd8dea2c5f4c5106e45aae4a1c6d44a832db1c867bebc6f3a1b66143", func := "loop.example/s02176/laws.FnExactDiskCrash", spec := "fnExactDiskCrash", apart := false }
def FnExactDiskCrashSaid : Prop := fnExactDiskCrashRow.holds Try.pinned (OpenSpec.ofChange fnExactDiskCrashSpec)

/-- ITS FALSE NEIGHBOUR: 'it returns false'. Refute it at one input. -/
def fnExactDiskCrashWrong : ChangeSpec := { name := "fnExactDiskCrash", fn := fun _ => fun
  | [d1, d2] => { results := [.lit (.bool false)], args := [d1, d2] }
  | _ => none }
def FnExactDiskCrashWrongFalsely : Prop := fnExactDiskCrashRow.holds Try.pinned (OpenSpec.ofChange fnExactDiskCrashWrong)

/- THE SECOND FORM. 'bulk': how many values and letters a reading holds, each counted each time it is reached (what is shared counts as often as it is met; a slice's spare places count too). A statement '..UptoSaid' is the law's where the arguments, and the package variables that the reading takes, are together of bulk at most 1048576: NARROWER than '..Said'. Prove '..Said' where nothing that the law and all that it calls make is longer than what came in: it says more and counts as full. Else prove '..UptoSaid'. A law counts once. -/
mutual
def uptoBulk {H : Type} : DataW H → Nat
  | .lit (.string bytes) => bytes.length + 1
  | .lit _ => 1
  | .nil => 1
  | .ptr d => uptoBulk d + 1
  | .slice elems spare => uptoBulkAll elems + uptoBulkAll spare + 1
  | .agg parts => uptoBulkAll parts + 1
  | .iface _ d => uptoBulk d + 1
  | .map entries => uptoBulkEntries entries + 1
  | .held _ => 1
def uptoBulkAll {H : Type} : List (DataW H) → Nat
  | [] => 0
  | d :: r => uptoBulk d + uptoBulkAll r
def uptoBulkEntries {H : Type} : List (Lit × DataW H) → Nat
  | [] => 0
  | x :: r => uptoBulkEntry x + uptoBulkEntries r
def uptoBulkEntry {H : Type} : Lit × DataW H → Nat
  | (.string bytes, d) => bytes.length + uptoBulk d + 1
  | (_, d) => uptoBulk d + 1
 end
def uptoSmall : (H : Type) → List (DataW H) → Bool := fun _ ds => decide (uptoBulkAll ds ≤ 1048576)
def OpenSpec.upto (s : _root_.Go.ChangeSpec) : _root_.Go.OpenSpec := { _root_.Go.OpenSpec.ofChange s with cond := some uptoSmall }

/-- 'laws.FnExactConstants', WHERE WHAT IT READS IS OF BULK AT MOST 1048576: true; the input reads as it did. -/
def fnExactConstantsUptoRow : OpenClaim := { program := "ytagchfmclccfgaa", sum := "33444cd7bd8dea2c5f4c5106e45aae4a1c6d44a832db1c867bebc6f3a1b66143", func := "loop.example/s02176/laws.FnExactConstants", spec := "fnExactConstants", apart := false, narrowed := true }
def FnExactConstantsUptoSaid : Prop := fnExactConstantsUptoRow.holds Try.pinned (OpenSpec.upto fnExactConstantsSpec)

/-- 'laws.FnExactHash64', WHERE WHAT IT READS IS OF BULK AT MOST 1048576: true; the input reads as it did. -/
def fnExactHash64UptoRow : OpenClaim := { program := "ytagchfmclccfgaa", sum := "33444cd7bd8dea2c5f4c5106e45aae4a1c6d44a832db1c867bebc6f3a1b66143", func := "loop.example/s02176/laws.FnExactHash64", spec := "fnExactHash64", apart := false, narrowed := true }
def FnExactHash64UptoSaid : Prop := fnExactHash64UptoRow.holds Try.pinned (OpenSpec.upto fnExactHash64Spec)

/-- 'laws.FnExactConfigOK', WHERE WHAT IT READS IS OF BULK AT MOST 1048576: true; the input reads as it did. -/
def fnExactConfigOKUptoRow : OpenClaim := { program := "ytagchfmclccfgaa", sum := "33444cd7bd8dea2c5f4c5106e45aae4a1c6d44a832db1c867bebc6f3a1b66143", func := "loop.example/s02176/laws.FnExactConfigOK", spec := "fnExactConfigOK", apart := false, narrowed := true }
def FnExactConfigOKUptoSaid : Prop := fnExactConfigOKUptoRow.holds Try.pinned (OpenSpec.upto fnExactConfigOKSpec)

/-- 'laws.FnExactSegmentName', WHERE WHAT IT READS IS OF BULK AT MOST 1048576: true; the input reads as it did. -/
def fnExactSegmentNameUptoRow : OpenClaim := { program := "ytagchfmclccfgaa", sum := "33444cd7bd8dea2c5f4c5106e45aae4a1c6d44a832db1c867bebc6f3a1b66143", func := "loop.example/s02176/laws.FnExactSegmentName", spec := "fnExactSegmentName", apart := false, narrowed := true }
def FnExactSegmentNameUptoSaid : Prop := fnExactSegmentNameUptoRow.holds Try.pinned (OpenSpec.upto fnExactSegmentNameSpec)

/-- 'laws.FnExactCrc32c', WHERE WHAT IT READS IS OF BULK AT MOST 1048576: true; the input reads as it did. -/
def fnExactCrc32cUptoRow : OpenClaim := { program := "ytagchfmclccfgaa", sum := "33444cd7bd8dea2c5f4c5106e45aae4a1c6d44a832db1c867bebc6f3a1b66143", func := "loop.example/s02176/laws.FnExactCrc32c", spec := "fnExactCrc32c", apart := false, narrowed := true }
def FnExactCrc32cUptoSaid : Prop := fnExactCrc32cUptoRow.holds Try.pinned (OpenSpec.upto fnExactCrc32cSpec)

/-- 'laws.FnExactFrame', WHERE WHAT IT READS IS OF BULK AT MOST 1048576: true; the input reads as it did. -/
def fnExactFrameUptoRow : OpenClaim := { program := "ytagchfmclccfgaa", sum := "33444cd7bd8dea2c5f4c5106e45aae4a1c6d44a832db1c867bebc6f3a1b66143", func := "loop.example/s02176/laws.FnExactFrame", spec := "fnExactFrame", apart := false, narrowed := true }
def FnExactFrameUptoSaid : Prop := fnExactFrameUptoRow.holds Try.pinned (OpenSpec.upto fnExactFrameSpec)

/-- 'laws.FnExactDiskValid', WHERE WHAT IT READS IS OF BULK AT MOST 1048576: true; the input reads as it did. -/
def fnExactDiskValidUptoRow : OpenClaim := { program := "ytagchfmclccfgaa", sum := "33444cd7bd8dea2c5f4c5106e45aae4a1c6d44a832db1c867bebc6f3a1b66143", func := "loop.example/s02176/laws.FnExactDiskValid", spec := "fnExactDiskValid", apart := false, narrowed := true }
def FnExactDiskValidUptoSaid : Prop := fnExactDiskValidUptoRow.holds Try.pinned (OpenSpec.upto fnExactDiskValidSpec)

/-- 'laws.FnExactScan', WHERE WHAT IT READS IS OF BULK AT MOST 1048576: true; the input reads as it did. -/
def fnExactScanUptoRow : OpenClaim := { program := "ytagchfmclccfgaa", sum := "33444cd7bd8dea2c5f4c5106e45aae4a1c6d44a832db1c867bebc6f3a1b66143", func := "loop.example/s02176/laws.FnExactScan", spec := "fnExactScan", unfollowed := true, recurses := true, apart := false, narrowed := true }
def FnExactScanUptoSaid : Prop := fnExactScanUptoRow.holds Try.pinned (OpenSpec.upto fnExactScanSpec)

/-- 'laws.FnExactDiskRead', WHERE WHAT IT READS IS OF BULK AT MOST 1048576: true; the input reads as it did. -/
def fnExactDiskReadUptoRow : OpenClaim := { program := "ytagchfmclccfgaa", sum := "33444cd7bd8dea2c5f4c5106e45aae4a1c6d44a832db1c867bebc6f3a1b66143", func := "loop.example/s02176/laws.FnExactDiskRead", spec := "fnExactDiskRead", inPlace := ["internal/bytealg.abigen_runtime_cmpstring"], unfollowed := true, recurses := true, apart := false, narrowed := true }
def FnExactDiskReadUptoSaid : Prop := fnExactDiskReadUptoRow.holds Try.pinned (OpenSpec.upto fnExactDiskReadSpec)

/-- 'laws.FnExactDiskCrash', WHERE WHAT IT READS IS OF BULK AT MOST 1048576: true; the input reads as it did. -/
def fnExactDiskCrashUptoRow : OpenClaim := { program := "ytagchfmclccfgaa", sum := "33444cd7bd8dea2c5f4c5106e45aae4a1c6d44a832db1c867bebc6f3a1b66143", func := "loop.example/s02176/laws.FnExactDiskCrash", spec := "fnExactDiskCrash", apart := false, narrowed := true }
def FnExactDiskCrashUptoSaid : Prop := fnExactDiskCrashUptoRow.holds Try.pinned (OpenSpec.upto fnExactDiskCrashSpec)

end Rows
end Go.Proofs.Ytagchfmclccfgaa
