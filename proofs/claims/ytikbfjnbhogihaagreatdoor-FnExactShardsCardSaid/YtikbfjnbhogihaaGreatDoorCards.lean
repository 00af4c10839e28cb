/-
  DERIVED. GIVEN WITH THE SEED: THE CARDS: each row of YtikbfjnbhogihaaGreatDoorRows.lean that lists a variable, with what it lists TIED to the program's text (the seventh form; the later family's looks); each row that meets fmt, with fmt's text TOLD by the authors' own Lean function (tested against real Go, not proved from fmt's source: count such statements apart). THE CARD IS WHAT COUNTS. Prove the row's statement (the work); the ties are given (YtikbfjnbhogihaaGreatDoorTie.lean); close each card by the builder's one call (the guide's Derived/Test/ToyasCard.lean, 'card_holds'). Laid BY PROGRAM, IN A SANDBOX (cutbox-door.mjs). By AI agents, Wed Nov 11 2026. No macro, syntax, notation, axiom, sorry.
-/
import Derived.Test.YtikbfjnbhogihaaGreatDoorRows
import GoSem.ClaimSeven
namespace Go.Proofs.YtikbfjnbhogihaaGreatDoor
namespace Rows

/-- THE TIED CARD OF 'laws.FnExactStateOK'. -/
def fnExactStateOKCard : Claim7 := { stood := { row := fnExactStateOKRow, standIns := [], harness := (true, "904f35e2e84e3cc550db4b7c8c1adc7c069d87e982d3d6f6fa5d9c40dd1a0ec8"), looks := true }, kinds := [], alts := [], laidByText := true, laidKinds := [.data, .pinned], laidTests := true, laidLooks := .later }
def FnExactStateOKCardSaid : Prop := Claim7.holds Tryz.pinned (.plain (OpenSpec.ofChange fnExactStateOKSpec)) fnExactStateOKCard

/-- THE TIED CARD OF 'laws.FnExactCountOf'. -/
def fnExactCountOfCard : Claim7 := { stood := { row := fnExactCountOfRow, standIns := [], harness := (true, "904f35e2e84e3cc550db4b7c8c1adc7c069d87e982d3d6f6fa5d9c40dd1a0ec8"), looks := true }, kinds := [], alts := [], laidByText := true, laidKinds := [.data, .pinned], laidTests := true, laidLooks := .later }
def FnExactCountOfCardSaid : Prop := Claim7.holds Tryz.pinned (.plain (OpenSpec.ofChange fnExactCountOfSpec)) fnExactCountOfCard

/-- THE TIED CARD OF 'laws.FnExactShards'. -/
def fnExactShardsCard : Claim7 := { stood := { row := fnExactShardsRow, standIns := [], harness := (true, "904f35e2e84e3cc550db4b7c8c1adc7c069d87e982d3d6f6fa5d9c40dd1a0ec8"), looks := true }, kinds := [], alts := [], laidByText := true, laidKinds := [.data, .pinned], laidTests := true, laidLooks := .later }
def FnExactShardsCardSaid : Prop := Claim7.holds Tryz.pinned (.plain (OpenSpec.ofChange fnExactShardsSpec)) fnExactShardsCard

/-- THE TIED CARD OF 'laws.FnExactTick'. -/
def fnExactTickCard : Claim7 := { stood := { row := fnExactTickRow, standIns := [], harness := (true, "904f35e2e84e3cc550db4b7c8c1adc7c069d87e982d3d6f6fa5d9c40dd1a0ec8"), looks := true }, kinds := [], alts := [], laidByText := true, laidKinds := [.data, .pinned], laidTests := true, laidLooks := .later }
def FnExactTickCardSaid : Prop := Claim7.holds Tryz.pinned (.plain (OpenSpec.ofChange fnExactTickSpec)) fnExactTickCard

/-- THE TIED CARD OF 'laws.FnExactSetLimit'. -/
def fnExactSetLimitCard : Claim7 := { stood := { row := fnExactSetLimitRow, standIns := [], harness := (true, "904f35e2e84e3cc550db4b7c8c1adc7c069d87e982d3d6f6fa5d9c40dd1a0ec8"), looks := true }, kinds := [], alts := [], laidByText := true, laidKinds := [.data, .pinned], laidTests := true, laidLooks := .later }
def FnExactSetLimitCardSaid : Prop := Claim7.holds Tryz.pinned (.plain (OpenSpec.ofChange fnExactSetLimitSpec)) fnExactSetLimitCard

/-- THE TIED CARD OF 'laws.FnExactAdmit'. -/
def fnExactAdmitCard : Claim7 := { stood := { row := fnExactAdmitRow, standIns := [], harness := (true, "904f35e2e84e3cc550db4b7c8c1adc7c069d87e982d3d6f6fa5d9c40dd1a0ec8"), looks := true }, kinds := [], alts := [], laidByText := true, laidKinds := [.data, .pinned], laidTests := true, laidLooks := .later }
def FnExactAdmitCardSaid : Prop := Claim7.holds Tryz.pinned (.plain (OpenSpec.ofChange fnExactAdmitSpec)) fnExactAdmitCard

/-- THE TIED CARD OF 'laws.FnAdmit'. -/
def fnAdmitCard : Claim7 := { stood := { row := fnAdmitRow, standIns := [], harness := (true, "904f35e2e84e3cc550db4b7c8c1adc7c069d87e982d3d6f6fa5d9c40dd1a0ec8"), looks := true }, kinds := [], alts := [], laidByText := true, laidKinds := [.data, .pinned], laidTests := true, laidLooks := .later }
def FnAdmitCardSaid : Prop := Claim7.holds Tryz.pinned (.plain (OpenSpec.ofChange fnAdmitSpec)) fnAdmitCard

/-- THE TIED CARD OF 'laws.FnIdle'. -/
def fnIdleCard : Claim7 := { stood := { row := fnIdleRow, standIns := [], harness := (true, "904f35e2e84e3cc550db4b7c8c1adc7c069d87e982d3d6f6fa5d9c40dd1a0ec8"), looks := true }, kinds := [], alts := [], laidByText := true, laidKinds := [.data, .pinned], laidTests := true, laidLooks := .later }
def FnIdleCardSaid : Prop := Claim7.holds Tryz.pinned (.plain (OpenSpec.ofChange fnIdleSpec)) fnIdleCard

/-- THE TIED CARD OF 'laws.FnExactApplyRecs'. -/
def fnExactApplyRecsCard : Claim7 := { stood := { row := fnExactApplyRecsRow, standIns := [], harness := (true, "904f35e2e84e3cc550db4b7c8c1adc7c069d87e982d3d6f6fa5d9c40dd1a0ec8"), looks := true }, kinds := [], alts := [], laidByText := true, laidKinds := [.data, .pinned], laidTests := true, laidLooks := .later }
def FnExactApplyRecsCardSaid : Prop := Claim7.holds Tryz.pinned (.plain (OpenSpec.ofChange fnExactApplyRecsSpec)) fnExactApplyRecsCard

/-- THE SECOND FORM's CARD OF 'laws.FnExactStateOK'. -/
def fnExactStateOKUptoCard : Claim7 := { stood := { row := fnExactStateOKUptoRow, standIns := [], harness := (true, "904f35e2e84e3cc550db4b7c8c1adc7c069d87e982d3d6f6fa5d9c40dd1a0ec8"), looks := true }, kinds := [], alts := [], laidByText := true, laidKinds := [.data, .pinned], laidTests := true, laidLooks := .later }
def FnExactStateOKUptoCardSaid : Prop := Claim7.holds Tryz.pinned (.plain (OpenSpec.upto fnExactStateOKSpec)) fnExactStateOKUptoCard

/-- THE SECOND FORM's CARD OF 'laws.FnExactCountOf'. -/
def fnExactCountOfUptoCard : Claim7 := { stood := { row := fnExactCountOfUptoRow, standIns := [], harness := (true, "904f35e2e84e3cc550db4b7c8c1adc7c069d87e982d3d6f6fa5d9c40dd1a0ec8"), looks := true }, kinds := [], alts := [], laidByText := true, laidKinds := [.data, .pinned], laidTests := true, laidLooks := .later }
def FnExactCountOfUptoCardSaid : Prop := Claim7.holds Tryz.pinned (.plain (OpenSpec.upto fnExactCountOfSpec)) fnExactCountOfUptoCard

/-- THE SECOND FORM's CARD OF 'laws.FnExactShards'. -/
def fnExactShardsUptoCard : Claim7 := { stood := { row := fnExactShardsUptoRow, standIns := [], harness := (true, "904f35e2e84e3cc550db4b7c8c1adc7c069d87e982d3d6f6fa5d9c40dd1a0ec8"), looks := true }, kinds := [], alts := [], laidByText := true, laidKinds := [.data, .pinned], laidTests := true, laidLooks := .later }
def FnExactShardsUptoCardSaid : Prop := Claim7.holds Tryz.pinned (.plain (OpenSpec.upto fnExactShardsSpec)) fnExactShardsUptoCard

/-- THE SECOND FORM's CARD OF 'laws.FnExactTick'. -/
def fnExactTickUptoCard : Claim7 := { stood := { row := fnExactTickUptoRow, standIns := [], harness := (true, "904f35e2e84e3cc550db4b7c8c1adc7c069d87e982d3d6f6fa5d9c40dd1a0ec8"), looks := true }, kinds := [], alts := [], laidByText := true, laidKinds := [.data, .pinned], laidTests := true, laidLooks := .later }
def FnExactTickUptoCardSaid : Prop := Claim7.holds Tryz.pinned (.plain (OpenSpec.upto fnExactTickSpec)) fnExactTickUptoCard

/-- THE SECOND FORM's CARD OF 'laws.FnExactSetLimit'. -/
def fnExactSetLimitUptoCard : Claim7 := { stood := { row := fnExactSetLimitUptoRow, standIns := [], harness := (true, "904f35e2e84e3cc550db4b7c8c1adc7c069d87e982d3d6f6fa5d9c40dd1a0ec8"), looks := true }, kinds := [], alts := [], laidByText := true, laidKinds := [.data, .pinned], laidTests := true, laidLooks := .later }
def FnExactSetLimitUptoCardSaid : Prop := Claim7.holds Tryz.pinned (.plain (OpenSpec.upto fnExactSetLimitSpec)) fnExactSetLimitUptoCard

/-- THE SECOND FORM's CARD OF 'laws.FnExactAdmit'. -/
def fnExactAdmitUptoCard : Claim7 := { stood := { row := fnExactAdmitUptoRow, standIns := [], harness := (true, "904f35e2e84e3cc550db4b7c8c1adc7c069d87e982d3d6f6fa5d9c40dd1a0ec8"), looks := true }, kinds := [], alts := [], laidByText := true, laidKinds := [.data, .pinned], laidTests := true, laidLooks := .later }
def FnExactAdmitUptoCardSaid : Prop := Claim7.holds Tryz.pinned (.plain (OpenSpec.upto fnExactAdmitSpec)) fnExactAdmitUptoCard

/-- THE SECOND FORM's CARD OF 'laws.FnAdmit'. -/
def fnAdmitUptoCard : Claim7 := { stood := { row := fnAdmitUptoRow, standIns := [], harness := (true, "904f35e2e84e3cc550db4b7c8c1adc7c069d87e982d3d6f6fa5d9c40dd1a0ec8"), looks := true }, kinds := [], alts := [], laidByText := true, laidKinds := [.data, .pinned], laidTests := true, laidLooks := .later }
def FnAdmitUptoCardSaid : Prop := Claim7.holds Tryz.pinned (.plain (OpenSpec.upto fnAdmitSpec)) fnAdmitUptoCard

/-- THE SECOND FORM's CARD OF 'laws.FnIdle'. -/
def fnIdleUptoCard : Claim7 := { stood := { row := fnIdleUptoRow, standIns := [], harness := (true, "904f35e2e84e3cc550db4b7c8c1adc7c069d87e982d3d6f6fa5d9c40dd1a0ec8"), looks := true }, kinds := [], alts := [], laidByText := true, laidKinds := [.data, .pinned], laidTests := true, laidLooks := .later }
def FnIdleUptoCardSaid : Prop := Claim7.holds Tryz.pinned (.plain (OpenSpec.upto fnIdleSpec)) fnIdleUptoCard

/-- THE SECOND FORM's CARD OF 'laws.FnExactApplyRecs'. -/
def fnExactApplyRecsUptoCard : Claim7 := { stood := { row := fnExactApplyRecsUptoRow, standIns := [], harness := (true, "904f35e2e84e3cc550db4b7c8c1adc7c069d87e982d3d6f6fa5d9c40dd1a0ec8"), looks := true }, kinds := [], alts := [], laidByText := true, laidKinds := [.data, .pinned], laidTests := true, laidLooks := .later }
def FnExactApplyRecsUptoCardSaid : Prop := Claim7.holds Tryz.pinned (.plain (OpenSpec.upto fnExactApplyRecsSpec)) fnExactApplyRecsUptoCard
end Rows
end Go.Proofs.YtikbfjnbhogihaaGreatDoor
