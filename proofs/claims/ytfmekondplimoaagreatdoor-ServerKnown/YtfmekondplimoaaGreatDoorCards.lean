/-
  DERIVED. GIVEN WITH THE SEED: THE CARDS: each row of YtfmekondplimoaaGreatDoorRows.lean that lists a variable, with what it lists TIED to the program's text (the seventh form; the later family's looks); each row that meets fmt, with fmt's text TOLD by the authors' own Lean function (tested against real Go, not proved from fmt's source: count such statements apart). THE CARD IS WHAT COUNTS. Prove the row's statement (the work); the ties are given (YtfmekondplimoaaGreatDoorTie.lean); close each card by the builder's one call (the guide's Derived/Test/ToyasCard.lean, 'card_holds'). Laid BY PROGRAM, IN A SANDBOX (cutbox-door.mjs). By AI agents, Wed Nov 11 2026. No macro, syntax, notation, axiom, sorry.
-/
import Derived.Test.YtfmekondplimoaaGreatDoorRows
import GoSem.ClaimSeven
namespace Go.Proofs.YtfmekondplimoaaGreatDoor
namespace Rows

/-- THE TIED CARD OF 'cisternlaw27.ServerKnown'. -/
def serverKnownCard : Claim7 := { stood := { row := serverKnownRow, standIns := [], harness := (true, "762dab8aa6c78a142db57e5175440df392f35db2677dc6a18436980a0d1373f8"), looks := true }, kinds := [], alts := [], laidByText := true, laidKinds := [.data, .pinned], laidTests := true, laidLooks := .later }
def ServerKnownCardSaid : Prop := Claim7.holds Tryz.pinned (.plain (OpenSpec.ofChange serverKnownSpec)) serverKnownCard

/-- THE SECOND FORM's CARD OF 'cisternlaw27.ServerKnown'. -/
def serverKnownUptoCard : Claim7 := { stood := { row := serverKnownUptoRow, standIns := [], harness := (true, "762dab8aa6c78a142db57e5175440df392f35db2677dc6a18436980a0d1373f8"), looks := true }, kinds := [], alts := [], laidByText := true, laidKinds := [.data, .pinned], laidTests := true, laidLooks := .later }
def ServerKnownUptoCardSaid : Prop := Claim7.holds Tryz.pinned (.plain (OpenSpec.upto serverKnownSpec)) serverKnownUptoCard
end Rows
end Go.Proofs.YtfmekondplimoaaGreatDoor
