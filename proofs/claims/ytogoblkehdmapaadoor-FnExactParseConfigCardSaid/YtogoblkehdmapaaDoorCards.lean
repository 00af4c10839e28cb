/-
  DERIVED. GIVEN WITH THE SEED: THE CARDS: each row of YtogoblkehdmapaaDoorRows.lean that lists a variable, with what it lists TIED to the program's text (the seventh form; the later family's looks); each row that meets fmt, with fmt's text TOLD by the authors' own Lean function (tested against real Go, not proved from fmt's source: count such statements apart). THE CARD IS WHAT COUNTS. Prove the row's statement (the work); the ties are given (YtogoblkehdmapaaDoorTie.lean); close each card by the builder's one call (the guide's Derived/Test/ToyasCard.lean, 'card_holds'). Laid BY PROGRAM, IN A SANDBOX (cutbox-door.mjs). By AI agents, Wed Nov 11 2026. No macro, syntax, notation, axiom, sorry.
-/
import Derived.Test.YtogoblkehdmapaaDoorRows
import GoSem.ClaimSeven
namespace Go.Proofs.YtogoblkehdmapaaDoor
namespace Rows

/-- THE TIED CARD OF 'laws.FnExactEncodeBatch'. -/
def fnExactEncodeBatchCard : Claim7 := { stood := { row := fnExactEncodeBatchRow, standIns := [], harness := (true, "b0c6afd8b674e1b1b2524ffea3fa3a7e8ed31ca86370d1086ba749801782dabd"), looks := true }, kinds := [], alts := [], laidByText := true, laidKinds := [.called], laidTests := true, laidLooks := .later }
def FnExactEncodeBatchCardSaid : Prop := Claim7.holds Tryd.pinned (.plain (OpenSpec.ofChange fnExactEncodeBatchSpec)) fnExactEncodeBatchCard

/-- THE TIED CARD OF 'laws.FnExactDecodeBatch'. -/
def fnExactDecodeBatchCard : Claim7 := { stood := { row := fnExactDecodeBatchRow, standIns := [], harness := (true, "b0c6afd8b674e1b1b2524ffea3fa3a7e8ed31ca86370d1086ba749801782dabd"), looks := true }, kinds := [], alts := [], laidByText := true, laidKinds := [.called], laidTests := true, laidLooks := .later }
def FnExactDecodeBatchCardSaid : Prop := Claim7.holds Tryd.pinned (.plain (OpenSpec.ofChange fnExactDecodeBatchSpec)) fnExactDecodeBatchCard

/-- THE TIED CARD OF 'laws.FnExactParseConfig'. -/
def fnExactParseConfigCard : Claim7 := { stood := { row := fnExactParseConfigRow, standIns := [], harness := (true, "b0c6afd8b674e1b1b2524ffea3fa3a7e8ed31ca86370d1086ba749801782dabd"), looks := true }, kinds := [], alts := [], laidByText := true, laidKinds := [.data, .data, .data, .data, .sentinel, .sentinel, .pinned], laidTests := true, laidLooks := .later }
def FnExactParseConfigCardSaid : Prop := Claim7.holds Tryd.pinned (.plain (OpenSpec.ofChange fnExactParseConfigSpec)) fnExactParseConfigCard

/-- THE SECOND FORM's CARD OF 'laws.FnExactEncodeBatch'. -/
def fnExactEncodeBatchUptoCard : Claim7 := { stood := { row := fnExactEncodeBatchUptoRow, standIns := [], harness := (true, "b0c6afd8b674e1b1b2524ffea3fa3a7e8ed31ca86370d1086ba749801782dabd"), looks := true }, kinds := [], alts := [], laidByText := true, laidKinds := [.called], laidTests := true, laidLooks := .later }
def FnExactEncodeBatchUptoCardSaid : Prop := Claim7.holds Tryd.pinned (.plain (OpenSpec.upto fnExactEncodeBatchSpec)) fnExactEncodeBatchUptoCard

/-- THE SECOND FORM's CARD OF 'laws.FnExactDecodeBatch'. -/
def fnExactDecodeBatchUptoCard : Claim7 := { stood := { row := fnExactDecodeBatchUptoRow, standIns := [], harness := (true, "b0c6afd8b674e1b1b2524ffea3fa3a7e8ed31ca86370d1086ba749801782dabd"), looks := true }, kinds := [], alts := [], laidByText := true, laidKinds := [.called], laidTests := true, laidLooks := .later }
def FnExactDecodeBatchUptoCardSaid : Prop := Claim7.holds Tryd.pinned (.plain (OpenSpec.upto fnExactDecodeBatchSpec)) fnExactDecodeBatchUptoCard

/-- THE SECOND FORM's CARD OF 'laws.FnExactParseConfig'. -/
def fnExactParseConfigUptoCard : Claim7 := { stood := { row := fnExactParseConfigUptoRow, standIns := [], harness := (true, "b0c6afd8b674e1b1b2524ffea3fa3a7e8ed31ca86370d1086ba749801782dabd"), looks := true }, kinds := [], alts := [], laidByText := true, laidKinds := [.data, .data, .data, .data, .sentinel, .sentinel, .pinned], laidTests := true, laidLooks := .later }
def FnExactParseConfigUptoCardSaid : Prop := Claim7.holds Tryd.pinned (.plain (OpenSpec.upto fnExactParseConfigSpec)) fnExactParseConfigUptoCard
end Rows
end Go.Proofs.YtogoblkehdmapaaDoor
