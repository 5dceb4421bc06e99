/-
  NARROWER THAN 'FOR EVERY INPUT', by the rows' own cells (each row's printed sentence says how): PoolKnown: laid · VolumeKnown: laid · AuditKnown: laid.
  DERIVED. THE GIVEN ROWS OF THIS SEAT. 3 by the template 'for every input the law returns true; each argument reads behind the call as it read before'; 0 by the template 'total and deterministic' (their statements: YtflanpmacjdlaaaGreatDoorTotals.lean).
  GIVEN WITH THE SEED: the statements are not yours to turn. If you find one false, say at which input.
  Laid BY PROGRAM, IN A SANDBOX (cutbox-rows.mjs): the forced cells as the released guide's own fill.sh prints them over the translation c8cb84aa1f725518… (all of the seat's roots in one cut). By AI agents, Wed Nov 11 2026. No macro, syntax, notation, axiom, sorry.
-/
import Derived.Test.YtflanpmacjdlaaaGreatDoorChecked
import GoSem.PinnedTables
import GoSem.Claim
import GoSem.ClaimJoined
import GoSem.ClaimMapViews
import Derived.JoinedTies
import Derived.KernelRfl
namespace Go.Proofs.YtflanpmacjdlaaaGreatDoor
/- THE CELL 'sum', in the pinned program and in every row, IS THE sha256 OF THE DUMP (.gsa) THAT YtflanpmacjdlaaaGreatDoorProg.lean LOADS. Nothing in Lean hashes anything: it is a label: what it is worth is what the hold of that sum in a sandbox is worth. -/
noncomputable def Tryz.pinned : Pinned := { name := "ytflanpmacjdlaaagreatdoor", sum := "c8cb84aa1f7255186ada9e9dfb9a43ad9365842ca510a8c903cb32571355903a", checked := Tryz.checked }
namespace Rows
def none {H : Type} : Left H := { results := [], args := [] }

/- WHAT THE LISTED PACKAGE-LEVEL VARIABLES READ AS WHEN THE CALL BEGINS. Each datum BY PROGRAM (the guide's laid-datum.mjs) off the statement by which the dump's own 'gosem.cut.vars' lays the variable. In a bare row this is a premise. The card (YtflanpmacjdlaaaGreatDoorCards.lean) ties it to the program's text. -/
def laid_unicode_utf8_acceptRanges {H : Type} : DataW H := .agg [.agg [.lit (.int .u8 128), .lit (.int .u8 191)], .agg [.lit (.int .u8 160), .lit (.int .u8 191)], .agg [.lit (.int .u8 128), .lit (.int .u8 159)], .agg [.lit (.int .u8 144), .lit (.int .u8 191)], .agg [.lit (.int .u8 128), .lit (.int .u8 143)], .agg [.lit (.int .u8 0), .lit (.int .u8 0)], .agg [.lit (.int .u8 0), .lit (.int .u8 0)], .agg [.lit (.int .u8 0), .lit (.int .u8 0)], .agg [.lit (.int .u8 0), .lit (.int .u8 0)], .agg [.lit (.int .u8 0), .lit (.int .u8 0)], .agg [.lit (.int .u8 0), .lit (.int .u8 0)], .agg [.lit (.int .u8 0), .lit (.int .u8 0)], .agg [.lit (.int .u8 0), .lit (.int .u8 0)], .agg [.lit (.int .u8 0), .lit (.int .u8 0)], .agg [.lit (.int .u8 0), .lit (.int .u8 0)], .agg [.lit (.int .u8 0), .lit (.int .u8 0)]]
/-- One of Go's own tables, pinned by name: the form's constant. -/
def laid_unicode_utf8_first : DataW Unit := Go.Pinned.utf8First

/-- 'cisternlaw17.PoolKnown': WHATEVER THE INPUT: true; the input reads as it did. -/
def poolKnownSpec : ChangeSpec := { name := "poolKnown", fn := fun _ => fun
  | [] => { results := [.lit (.bool true)], args := [] }
  | _ => none }
def poolKnownRow : OpenClaim := { program := "ytflanpmacjdlaaagreatdoor", sum := "c8cb84aa1f7255186ada9e9dfb9a43ad9365842ca510a8c903cb32571355903a", func := "cistern/cisternlaw17.PoolKnown", spec := "poolKnown", inPlace := ["internal/bytealg.abigen_runtime_cmpstring", "slices.overlaps[uint64]", "internal/bytealg.MakeNoZero"], unfollowed := true, recurses := true, named := ["unicode/utf8.first", "unicode/utf8.acceptRanges"], apart := false, laid := [("unicode/utf8.acceptRanges", laid_unicode_utf8_acceptRanges), ("unicode/utf8.first", laid_unicode_utf8_first)] }
def PoolKnownSaid : Prop := poolKnownRow.holds Tryz.pinned (OpenSpec.ofChange poolKnownSpec)

/-- ITS FALSE NEIGHBOUR: 'it returns false'. Refute it at one input. -/
def poolKnownWrong : ChangeSpec := { name := "poolKnown", fn := fun _ => fun
  | [] => { results := [.lit (.bool false)], args := [] }
  | _ => none }
def PoolKnownWrongFalsely : Prop := poolKnownRow.holds Tryz.pinned (OpenSpec.ofChange poolKnownWrong)

/-- 'cisternlaw19.VolumeKnown': WHATEVER THE INPUT: true; the input reads as it did. -/
def volumeKnownSpec : ChangeSpec := { name := "volumeKnown", fn := fun _ => fun
  | [] => { results := [.lit (.bool true)], args := [] }
  | _ => none }
def volumeKnownRow : OpenClaim := { program := "ytflanpmacjdlaaagreatdoor", sum := "c8cb84aa1f7255186ada9e9dfb9a43ad9365842ca510a8c903cb32571355903a", func := "cistern/cisternlaw19.VolumeKnown", spec := "volumeKnown", inPlace := ["internal/bytealg.abigen_runtime_cmpstring", "slices.overlaps[uint64]", "internal/bytealg.MakeNoZero"], unfollowed := true, recurses := true, named := ["unicode/utf8.first", "unicode/utf8.acceptRanges"], apart := false, laid := [("unicode/utf8.acceptRanges", laid_unicode_utf8_acceptRanges), ("unicode/utf8.first", laid_unicode_utf8_first)] }
def VolumeKnownSaid : Prop := volumeKnownRow.holds Tryz.pinned (OpenSpec.ofChange volumeKnownSpec)

/-- ITS FALSE NEIGHBOUR: 'it returns false'. Refute it at one input. -/
def volumeKnownWrong : ChangeSpec := { name := "volumeKnown", fn := fun _ => fun
  | [] => { results := [.lit (.bool false)], args := [] }
  | _ => none }
def VolumeKnownWrongFalsely : Prop := volumeKnownRow.holds Tryz.pinned (OpenSpec.ofChange volumeKnownWrong)

/-- 'cisternlaw31.AuditKnown': WHATEVER THE INPUT: true; the input reads as it did. -/
def auditKnownSpec : ChangeSpec := { name := "auditKnown", fn := fun _ => fun
  | [] => { results := [.lit (.bool true)], args := [] }
  | _ => none }
def auditKnownRow : OpenClaim := { program := "ytflanpmacjdlaaagreatdoor", sum := "c8cb84aa1f7255186ada9e9dfb9a43ad9365842ca510a8c903cb32571355903a", func := "cistern/cisternlaw31.AuditKnown", spec := "auditKnown", inPlace := ["internal/bytealg.abigen_runtime_cmpstring", "slices.overlaps[uint64]"], unfollowed := true, recurses := true, named := ["unicode/utf8.first", "unicode/utf8.acceptRanges"], apart := false, laid := [("unicode/utf8.acceptRanges", laid_unicode_utf8_acceptRanges), ("unicode/utf8.first", laid_unicode_utf8_first)] }
def AuditKnownSaid : Prop := auditKnownRow.holds Tryz.pinned (OpenSpec.ofChange auditKnownSpec)

/-- ITS FALSE NEIGHBOUR: 'it returns false'. Refute it at one input. -/
def auditKnownWrong : ChangeSpec := { name := "auditKnown", fn := fun _ => fun
  | [] => { results := [.lit (.bool false)], args := [] }
  | _ => none }
def AuditKnownWrongFalsely : Prop := auditKnownRow.holds Tryz.pinned (OpenSpec.ofChange auditKnownWrong)

/- THE SECOND FORM. 'bulk': how many values and letters a reading holds, each counted each time it is reached (what is shared counts as often as it is met; a slice's spare places count too). A statement '..UptoSaid' is the law's where the arguments, and the package variables that the reading takes, are together of bulk at most 1048576: NARROWER than '..Said'. Prove '..Said' where nothing that the law and all that it calls make is longer than what came in: it says more and counts as full. Else prove '..UptoSaid'. A law counts once. -/
mutual
def uptoBulk {H : Type} : DataW H → Nat
  | .lit (.string bytes) => bytes.length + 1
  | .lit _ => 1
  | .nil => 1
  | .ptr d => uptoBulk d + 1
  | .slice elems spare => uptoBulkAll elems + uptoBulkAll spare + 1
  | .agg parts => uptoBulkAll parts + 1
  | .iface _ d => uptoBulk d + 1
  | .map entries => uptoBulkEntries entries + 1
  | .held _ => 1
def uptoBulkAll {H : Type} : List (DataW H) → Nat
  | [] => 0
  | d :: r => uptoBulk d + uptoBulkAll r
def uptoBulkEntries {H : Type} : List (Lit × DataW H) → Nat
  | [] => 0
  | x :: r => uptoBulkEntry x + uptoBulkEntries r
def uptoBulkEntry {H : Type} : Lit × DataW H → Nat
  | (.string bytes, d) => bytes.length + uptoBulk d + 1
  | (_, d) => uptoBulk d + 1
 end
def uptoSmall : (H : Type) → List (DataW H) → Bool := fun _ ds => decide (uptoBulkAll ds ≤ 1048576)
def OpenSpec.upto (s : _root_.Go.ChangeSpec) : _root_.Go.OpenSpec := { _root_.Go.OpenSpec.ofChange s with cond := some uptoSmall }

/-- 'cisternlaw17.PoolKnown', WHERE WHAT IT READS IS OF BULK AT MOST 1048576: true; the input reads as it did. -/
def poolKnownUptoRow : OpenClaim := { program := "ytflanpmacjdlaaagreatdoor", sum := "c8cb84aa1f7255186ada9e9dfb9a43ad9365842ca510a8c903cb32571355903a", func := "cistern/cisternlaw17.PoolKnown", spec := "poolKnown", inPlace := ["internal/bytealg.abigen_runtime_cmpstring", "slices.overlaps[uint64]", "internal/bytealg.MakeNoZero"], unfollowed := true, recurses := true, named := ["unicode/utf8.first", "unicode/utf8.acceptRanges"], apart := false, laid := [("unicode/utf8.acceptRanges", laid_unicode_utf8_acceptRanges), ("unicode/utf8.first", laid_unicode_utf8_first)], narrowed := true }
def PoolKnownUptoSaid : Prop := poolKnownUptoRow.holds Tryz.pinned (OpenSpec.upto poolKnownSpec)

/-- 'cisternlaw19.VolumeKnown', WHERE WHAT IT READS IS OF BULK AT MOST 1048576: true; the input reads as it did. -/
def volumeKnownUptoRow : OpenClaim := { program := "ytflanpmacjdlaaagreatdoor", sum := "c8cb84aa1f7255186ada9e9dfb9a43ad9365842ca510a8c903cb32571355903a", func := "cistern/cisternlaw19.VolumeKnown", spec := "volumeKnown", inPlace := ["internal/bytealg.abigen_runtime_cmpstring", "slices.overlaps[uint64]", "internal/bytealg.MakeNoZero"], unfollowed := true, recurses := true, named := ["unicode/utf8.first", "unicode/utf8.acceptRanges"], apart := false, laid := [("unicode/utf8.acceptRanges", laid_unicode_utf8_acceptRanges), ("unicode/utf8.first", laid_unicode_utf8_first)], narrowed := true }
def VolumeKnownUptoSaid : Prop := volumeKnownUptoRow.holds Tryz.pinned (OpenSpec.upto volumeKnownSpec)

/-- 'cisternlaw31.AuditKnown', WHERE WHAT IT READS IS OF BULK AT MOST 1048576: true; the input reads as it did. -/
def auditKnownUptoRow : OpenClaim := { program := "ytflanpmacjdlaaagreatdoor", sum := "c8cb84aa1f7255186ada9e9dfb9a43ad9365842ca510a8c903cb32571355903a", func := "cistern/cisternlaw31.AuditKnown", spec := "auditKnown", inPlace := ["internal/bytealg.abigen_runtime_cmpstring", "slices.overlaps[uint64]"], unfollowed := true, recurses := true, named := ["unicode/utf8.first", "unicode/utf8.acceptRanges"], apart := false, laid := [("unicode/utf8.acceptRanges", laid_unicode_utf8_acceptRanges), ("unicode/utf8.first", laid_unicode_utf8_first)], narrowed := true }
def AuditKnownUptoSaid : Prop := auditKnownUptoRow.holds Tryz.pinned (OpenSpec.upto auditKnownSpec)

end Rows
end Go.Proofs.YtflanpmacjdlaaaGreatDoor
