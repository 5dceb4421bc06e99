/-
  DERIVED. GIVEN WITH THE SEED: THE CARDS: each row of YtflanpmacjdlaaaGreatDoorRows.lean that lists a variable, with what it lists TIED to the program's text (the seventh form; the later family's looks); each row that meets fmt, with fmt's text TOLD by the authors' own Lean function (tested against real Go, not proved from fmt's source: count such statements apart). THE CARD IS WHAT COUNTS. Prove the row's statement (the work); the ties are given (YtflanpmacjdlaaaGreatDoorTie.lean); close each card by the builder's one call (the guide's Derived/Test/ToyasCard.lean, 'card_holds'). Laid BY PROGRAM, IN A SANDBOX (cutbox-door.mjs). By AI agents, Wed Nov 11 2026. No macro, syntax, notation, axiom, sorry.
-/
import Derived.Test.YtflanpmacjdlaaaGreatDoorRows
import GoSem.ClaimSeven
namespace Go.Proofs.YtflanpmacjdlaaaGreatDoor
namespace Rows

/-- THE TIED CARD OF 'cisternlaw17.PoolKnown'. -/
def poolKnownCard : Claim7 := { stood := { row := poolKnownRow, standIns := [], harness := (true, "8f813b9d9fd03714e80f4c3f4db4bc08b2ce498389024fbcf18037d74f984902"), looks := true }, kinds := [], alts := [], laidByText := true, laidKinds := [.data, .pinned], laidTests := true, laidLooks := .later }
def PoolKnownCardSaid : Prop := Claim7.holds Tryz.pinned (.plain (OpenSpec.ofChange poolKnownSpec)) poolKnownCard

/-- THE TIED CARD OF 'cisternlaw19.VolumeKnown'. -/
def volumeKnownCard : Claim7 := { stood := { row := volumeKnownRow, standIns := [], harness := (true, "8f813b9d9fd03714e80f4c3f4db4bc08b2ce498389024fbcf18037d74f984902"), looks := true }, kinds := [], alts := [], laidByText := true, laidKinds := [.data, .pinned], laidTests := true, laidLooks := .later }
def VolumeKnownCardSaid : Prop := Claim7.holds Tryz.pinned (.plain (OpenSpec.ofChange volumeKnownSpec)) volumeKnownCard

/-- THE TIED CARD OF 'cisternlaw31.AuditKnown'. -/
def auditKnownCard : Claim7 := { stood := { row := auditKnownRow, standIns := [], harness := (true, "8f813b9d9fd03714e80f4c3f4db4bc08b2ce498389024fbcf18037d74f984902"), looks := true }, kinds := [], alts := [], laidByText := true, laidKinds := [.data, .pinned], laidTests := true, laidLooks := .later }
def AuditKnownCardSaid : Prop := Claim7.holds Tryz.pinned (.plain (OpenSpec.ofChange auditKnownSpec)) auditKnownCard

/-- THE SECOND FORM's CARD OF 'cisternlaw17.PoolKnown'. -/
def poolKnownUptoCard : Claim7 := { stood := { row := poolKnownUptoRow, standIns := [], harness := (true, "8f813b9d9fd03714e80f4c3f4db4bc08b2ce498389024fbcf18037d74f984902"), looks := true }, kinds := [], alts := [], laidByText := true, laidKinds := [.data, .pinned], laidTests := true, laidLooks := .later }
def PoolKnownUptoCardSaid : Prop := Claim7.holds Tryz.pinned (.plain (OpenSpec.upto poolKnownSpec)) poolKnownUptoCard

/-- THE SECOND FORM's CARD OF 'cisternlaw19.VolumeKnown'. -/
def volumeKnownUptoCard : Claim7 := { stood := { row := volumeKnownUptoRow, standIns := [], harness := (true, "8f813b9d9fd03714e80f4c3f4db4bc08b2ce498389024fbcf18037d74f984902"), looks := true }, kinds := [], alts := [], laidByText := true, laidKinds := [.data, .pinned], laidTests := true, laidLooks := .later }
def VolumeKnownUptoCardSaid : Prop := Claim7.holds Tryz.pinned (.plain (OpenSpec.upto volumeKnownSpec)) volumeKnownUptoCard

/-- THE SECOND FORM's CARD OF 'cisternlaw31.AuditKnown'. -/
def auditKnownUptoCard : Claim7 := { stood := { row := auditKnownUptoRow, standIns := [], harness := (true, "8f813b9d9fd03714e80f4c3f4db4bc08b2ce498389024fbcf18037d74f984902"), looks := true }, kinds := [], alts := [], laidByText := true, laidKinds := [.data, .pinned], laidTests := true, laidLooks := .later }
def AuditKnownUptoCardSaid : Prop := Claim7.holds Tryz.pinned (.plain (OpenSpec.upto auditKnownSpec)) auditKnownUptoCard
end Rows
end Go.Proofs.YtflanpmacjdlaaaGreatDoor
