/-
  DERIVED. GIVEN WITH THE SEED: THE CARDS: each row of YtdfgfhnbcifheaaDoorRows.lean that lists a variable, with what it lists TIED to the program's text (the seventh form; the later family's looks); each row that meets fmt, with fmt's text TOLD by the authors' own Lean function (tested against real Go, not proved from fmt's source: count such statements apart). THE CARD IS WHAT COUNTS. Prove the row's statement (the work); the ties are given (YtdfgfhnbcifheaaDoorTie.lean); close each card by the builder's one call (the guide's Derived/Test/ToyasCard.lean, 'card_holds'). Laid BY PROGRAM, IN A SANDBOX (cutbox-door.mjs). By AI agents, Wed Nov 11 2026. No macro, syntax, notation, axiom, sorry.
-/
import Derived.Test.YtdfgfhnbcifheaaDoorRows
import GoSem.ClaimSeven
namespace Go.Proofs.YtdfgfhnbcifheaaDoor
namespace Rows

/-- THE TIED CARD OF 'laws.FnExactCanon'. -/
def fnExactCanonCard : Claim7 := { stood := { row := fnExactCanonRow, standIns := [], harness := (true, "26cafb8fee39c968881f881691e2a63dc8003deb51ed12963d1c1083d7af1d5b"), looks := false }, kinds := [], alts := [], laidByText := true, laidKinds := [.data, .pinned], laidTests := true, laidLooks := .later }
def FnExactCanonCardSaid : Prop := Claim7.holds Tryd.pinned (.plain (OpenSpec.ofChange fnExactCanonSpec)) fnExactCanonCard

/-- THE TIED CARD OF 'laws.FnExactEncodeKey'. -/
def fnExactEncodeKeyCard : Claim7 := { stood := { row := fnExactEncodeKeyRow, standIns := [], harness := (true, "26cafb8fee39c968881f881691e2a63dc8003deb51ed12963d1c1083d7af1d5b"), looks := false }, kinds := [], alts := [], laidByText := true, laidKinds := [.data, .pinned], laidTests := true, laidLooks := .later }
def FnExactEncodeKeyCardSaid : Prop := Claim7.holds Tryd.pinned (.plain (OpenSpec.ofChange fnExactEncodeKeySpec)) fnExactEncodeKeyCard

/-- THE TIED CARD OF 'laws.FnExactMetric'. -/
def fnExactMetricCard : Claim7 := { stood := { row := fnExactMetricRow, standIns := [], harness := (true, "26cafb8fee39c968881f881691e2a63dc8003deb51ed12963d1c1083d7af1d5b"), looks := false }, kinds := [], alts := [], laidByText := true, laidKinds := [.data, .pinned], laidTests := true, laidLooks := .later }
def FnExactMetricCardSaid : Prop := Claim7.holds Tryd.pinned (.plain (OpenSpec.ofChange fnExactMetricSpec)) fnExactMetricCard

/-- THE TIED CARD OF 'laws.FnKey'. -/
def fnKeyCard : Claim7 := { stood := { row := fnKeyRow, standIns := [], harness := (true, "26cafb8fee39c968881f881691e2a63dc8003deb51ed12963d1c1083d7af1d5b"), looks := false }, kinds := [], alts := [], laidByText := true, laidKinds := [.data, .pinned], laidTests := true, laidLooks := .later }
def FnKeyCardSaid : Prop := Claim7.holds Tryd.pinned (.plain (OpenSpec.ofChange fnKeySpec)) fnKeyCard

/-- THE TIED CARD OF 'laws.FnExactDecodeKey'. -/
def fnExactDecodeKeyCard : Claim7 := { stood := { row := fnExactDecodeKeyRow, standIns := [], harness := (true, "26cafb8fee39c968881f881691e2a63dc8003deb51ed12963d1c1083d7af1d5b"), looks := false }, kinds := [], alts := [], laidByText := true, laidKinds := [.data, .pinned], laidTests := true, laidLooks := .later }
def FnExactDecodeKeyCardSaid : Prop := Claim7.holds Tryd.pinned (.plain (OpenSpec.ofChange fnExactDecodeKeySpec)) fnExactDecodeKeyCard

/-- THE SECOND FORM's CARD OF 'laws.FnExactCanon'. -/
def fnExactCanonUptoCard : Claim7 := { stood := { row := fnExactCanonUptoRow, standIns := [], harness := (true, "26cafb8fee39c968881f881691e2a63dc8003deb51ed12963d1c1083d7af1d5b"), looks := false }, kinds := [], alts := [], laidByText := true, laidKinds := [.data, .pinned], laidTests := true, laidLooks := .later }
def FnExactCanonUptoCardSaid : Prop := Claim7.holds Tryd.pinned (.plain (OpenSpec.upto fnExactCanonSpec)) fnExactCanonUptoCard

/-- THE SECOND FORM's CARD OF 'laws.FnExactEncodeKey'. -/
def fnExactEncodeKeyUptoCard : Claim7 := { stood := { row := fnExactEncodeKeyUptoRow, standIns := [], harness := (true, "26cafb8fee39c968881f881691e2a63dc8003deb51ed12963d1c1083d7af1d5b"), looks := false }, kinds := [], alts := [], laidByText := true, laidKinds := [.data, .pinned], laidTests := true, laidLooks := .later }
def FnExactEncodeKeyUptoCardSaid : Prop := Claim7.holds Tryd.pinned (.plain (OpenSpec.upto fnExactEncodeKeySpec)) fnExactEncodeKeyUptoCard

/-- THE SECOND FORM's CARD OF 'laws.FnExactMetric'. -/
def fnExactMetricUptoCard : Claim7 := { stood := { row := fnExactMetricUptoRow, standIns := [], harness := (true, "26cafb8fee39c968881f881691e2a63dc8003deb51ed12963d1c1083d7af1d5b"), looks := false }, kinds := [], alts := [], laidByText := true, laidKinds := [.data, .pinned], laidTests := true, laidLooks := .later }
def FnExactMetricUptoCardSaid : Prop := Claim7.holds Tryd.pinned (.plain (OpenSpec.upto fnExactMetricSpec)) fnExactMetricUptoCard

/-- THE SECOND FORM's CARD OF 'laws.FnKey'. -/
def fnKeyUptoCard : Claim7 := { stood := { row := fnKeyUptoRow, standIns := [], harness := (true, "26cafb8fee39c968881f881691e2a63dc8003deb51ed12963d1c1083d7af1d5b"), looks := false }, kinds := [], alts := [], laidByText := true, laidKinds := [.data, .pinned], laidTests := true, laidLooks := .later }
def FnKeyUptoCardSaid : Prop := Claim7.holds Tryd.pinned (.plain (OpenSpec.upto fnKeySpec)) fnKeyUptoCard

/-- THE SECOND FORM's CARD OF 'laws.FnExactDecodeKey'. -/
def fnExactDecodeKeyUptoCard : Claim7 := { stood := { row := fnExactDecodeKeyUptoRow, standIns := [], harness := (true, "26cafb8fee39c968881f881691e2a63dc8003deb51ed12963d1c1083d7af1d5b"), looks := false }, kinds := [], alts := [], laidByText := true, laidKinds := [.data, .pinned], laidTests := true, laidLooks := .later }
def FnExactDecodeKeyUptoCardSaid : Prop := Claim7.holds Tryd.pinned (.plain (OpenSpec.upto fnExactDecodeKeySpec)) fnExactDecodeKeyUptoCard
end Rows
end Go.Proofs.YtdfgfhnbcifheaaDoor
