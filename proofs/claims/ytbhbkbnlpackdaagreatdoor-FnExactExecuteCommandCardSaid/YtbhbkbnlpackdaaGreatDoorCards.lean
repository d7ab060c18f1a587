/-
  DERIVED. GIVEN WITH THE SEED: THE CARDS: each row of YtbhbkbnlpackdaaGreatDoorRows.lean that lists a variable, with what it lists TIED to the program's text (the seventh form; the later family's looks); each row that meets fmt, with fmt's text TOLD by the authors' own Lean function (tested against real Go, not proved from fmt's source: count such statements apart). THE CARD IS WHAT COUNTS. Prove the row's statement (the work); the ties are given (YtbhbkbnlpackdaaGreatDoorTie.lean); close each card by the builder's one call (the guide's Derived/Test/ToyasCard.lean, 'card_holds'). Laid BY PROGRAM, IN A SANDBOX (cutbox-door.mjs). By AI agents, Wed Nov 11 2026. No macro, syntax, notation, axiom, sorry.
-/
import Derived.Test.YtbhbkbnlpackdaaGreatDoorRows
import GoSem.ClaimSeven
namespace Go.Proofs.YtbhbkbnlpackdaaGreatDoor
namespace Rows

/-- THE TIED CARD OF 'laws.FnExactRunScript'. -/
def fnExactRunScriptCard : Claim7 := { stood := { row := fnExactRunScriptRow, standIns := [], harness := (true, "e69d8a48c780b40496d595eed2601c0a13daa21c4bc6dfb8dafc19a052f3c680"), looks := true }, kinds := [], alts := [], laidByText := true, laidKinds := [.data, .data, .data, .data, .sentinel, .sentinel, .pinned], laidTests := true, laidLooks := .later }
def FnExactRunScriptCardSaid : Prop := Claim7.holds Tryz.pinned (.plain (OpenSpec.ofChange fnExactRunScriptSpec)) fnExactRunScriptCard

/-- THE TIED CARD OF 'laws.FnExactReplayLog'. -/
def fnExactReplayLogCard : Claim7 := { stood := { row := fnExactReplayLogRow, standIns := [], harness := (true, "e69d8a48c780b40496d595eed2601c0a13daa21c4bc6dfb8dafc19a052f3c680"), looks := true }, kinds := [], alts := [], laidByText := true, laidKinds := [.data, .data, .data, .data, .sentinel, .sentinel, .pinned], laidTests := true, laidLooks := .later }
def FnExactReplayLogCardSaid : Prop := Claim7.holds Tryz.pinned (.plain (OpenSpec.ofChange fnExactReplayLogSpec)) fnExactReplayLogCard

/-- THE TIED CARD OF 'laws.FnExactExecuteCommand'. -/
def fnExactExecuteCommandCard : Claim7 := { stood := { row := fnExactExecuteCommandRow, standIns := [], harness := (true, "e69d8a48c780b40496d595eed2601c0a13daa21c4bc6dfb8dafc19a052f3c680"), looks := true }, kinds := [], alts := [], laidByText := true, laidKinds := [.data, .data, .data, .data, .sentinel, .sentinel, .pinned], laidTests := true, laidLooks := .later }
def FnExactExecuteCommandCardSaid : Prop := Claim7.holds Tryz.pinned (.plain (OpenSpec.ofChange fnExactExecuteCommandSpec)) fnExactExecuteCommandCard

/-- THE SECOND FORM's CARD OF 'laws.FnExactRunScript'. -/
def fnExactRunScriptUptoCard : Claim7 := { stood := { row := fnExactRunScriptUptoRow, standIns := [], harness := (true, "e69d8a48c780b40496d595eed2601c0a13daa21c4bc6dfb8dafc19a052f3c680"), looks := true }, kinds := [], alts := [], laidByText := true, laidKinds := [.data, .data, .data, .data, .sentinel, .sentinel, .pinned], laidTests := true, laidLooks := .later }
def FnExactRunScriptUptoCardSaid : Prop := Claim7.holds Tryz.pinned (.plain (OpenSpec.upto fnExactRunScriptSpec)) fnExactRunScriptUptoCard

/-- THE SECOND FORM's CARD OF 'laws.FnExactReplayLog'. -/
def fnExactReplayLogUptoCard : Claim7 := { stood := { row := fnExactReplayLogUptoRow, standIns := [], harness := (true, "e69d8a48c780b40496d595eed2601c0a13daa21c4bc6dfb8dafc19a052f3c680"), looks := true }, kinds := [], alts := [], laidByText := true, laidKinds := [.data, .data, .data, .data, .sentinel, .sentinel, .pinned], laidTests := true, laidLooks := .later }
def FnExactReplayLogUptoCardSaid : Prop := Claim7.holds Tryz.pinned (.plain (OpenSpec.upto fnExactReplayLogSpec)) fnExactReplayLogUptoCard

/-- THE SECOND FORM's CARD OF 'laws.FnExactExecuteCommand'. -/
def fnExactExecuteCommandUptoCard : Claim7 := { stood := { row := fnExactExecuteCommandUptoRow, standIns := [], harness := (true, "e69d8a48c780b40496d595eed2601c0a13daa21c4bc6dfb8dafc19a052f3c680"), looks := true }, kinds := [], alts := [], laidByText := true, laidKinds := [.data, .data, .data, .data, .sentinel, .sentinel, .pinned], laidTests := true, laidLooks := .later }
def FnExactExecuteCommandUptoCardSaid : Prop := Claim7.holds Tryz.pinned (.plain (OpenSpec.upto fnExactExecuteCommandSpec)) fnExactExecuteCommandUptoCard
end Rows
end Go.Proofs.YtbhbkbnlpackdaaGreatDoor
