/- Closed facts of the row of AuditKnown, each by the kernel. Conditions: none. -/
import Derived.Test.YtflanpmacjdlaaaGreatDoorCards
import Derived.Test.YtflanpmacjdlaaaGreatDoorTie
import Derived.ProofKit
import Derived.SevenTiedAt
namespace Go.Proofs.YtflanpmacjdlaaaGreatDoor
set_option maxRecDepth 100000
theorem auditKnown_named : Tryz.pinned.checked.prog.funcNamed Rows.auditKnownRow.func = some 5 := by kernel_rfl
theorem auditKnown_f1 : Rows.auditKnownRow.wf (OpenSpec.ofChange Rows.auditKnownSpec) = true := by kernel_rfl
theorem auditKnown_f2 : laidOutB Tryz.pinned.checked.prog = true := by kernel_rfl
theorem auditKnown_f3 : mapsRowed Tryz.pinned.checked.prog = true := by kernel_rfl
theorem auditKnown_f5 : namedTie Tryz.pinned.checked.prog Rows.auditKnownRow.named Rows.auditKnownSpec.vars = true := by kernel_rfl
theorem auditKnown_f7 : (Tryz.pinned.checked.prog.stops == []) = true := by kernel_rfl
theorem auditKnown_f9 : (Tryz.pinned.checked.prog.stopKnobs == []) = true := by kernel_rfl
theorem auditKnown_f10 : (Rows.auditKnownRow.inPlace == Tryz.pinned.checked.prog.inPlace 5) = true := by kernel_rfl
theorem auditKnown_f11 : (Rows.auditKnownRow.unfollowed == Tryz.pinned.checked.prog.unfollowed 5) = true := by kernel_rfl
theorem auditKnown_f12 : (Rows.auditKnownRow.recurses == Tryz.pinned.checked.prog.recurses 5) = true := by kernel_rfl
theorem auditKnown_f13 : (Rows.auditKnownRow.named == Tryz.pinned.checked.prog.varsNamed 5) = true := by kernel_rfl
theorem auditKnown_f23 : (Rows.auditKnownRow.plainKeys == Tryz.pinned.checked.prog.plainKeys) = true := by kernel_rfl
theorem auditKnown_f25 : Tryz.pinned.checked.prog.stopsHeard = true := by kernel_rfl
theorem auditKnown_f26 : Tryz.pinned.checked.prog.mayEnter = true := by kernel_rfl
theorem auditKnown_f27 : (Rows.auditKnownRow.lifted == Tryz.pinned.checked.prog.liftsFinal) = true := by kernel_rfl
theorem auditKnown_f28 : (Tryz.pinned.checked.prog.make == some Rows.auditKnownRow.make) = true := by kernel_rfl
theorem auditKnown_goes : false = Rows.auditKnownRow.goesBy Tryz.pinned.checked.prog := by kernel_rfl
theorem auditKnown_wfText : Rows.auditKnownRow.wfByText (OpenSpec.ofChange Rows.auditKnownSpec) = true := by kernel_rfl
theorem auditKnown_main : Tryz.pinned.checked.prog.mainIs = some (true, "8f813b9d9fd03714e80f4c3f4db4bc08b2ce498389024fbcf18037d74f984902".toList) := by kernel_rfl
theorem auditKnown_looks : true = Tryz.pinned.checked.prog.looks [] := by kernel_rfl
theorem auditKnown_and {a b : Bool} (h : a = true) (k : b = true) : (a && b) = true := by rw [h, k]; rfl
theorem auditKnown_joined : joinedFacts Tryz.pinned.checked.prog 5 Tryz.f5 Rows.auditKnownSpec Rows.auditKnownRow = true := by
  unfold joinedFacts
  exact auditKnown_and (auditKnown_and (auditKnown_and (auditKnown_and (auditKnown_and (auditKnown_and (auditKnown_and (auditKnown_and (auditKnown_and (auditKnown_and (auditKnown_and (auditKnown_and (auditKnown_and (auditKnown_and (auditKnown_and (auditKnown_and (auditKnown_and (auditKnown_and (auditKnown_and (auditKnown_and (auditKnown_and (auditKnown_and (auditKnown_and (auditKnown_and (auditKnown_and (auditKnown_and (auditKnown_and (auditKnown_and (auditKnown_and (auditKnown_and (auditKnown_and auditKnown_f1 auditKnown_f2) auditKnown_f3) (by kernel_rfl)) auditKnown_f5) (by kernel_rfl)) auditKnown_f7) (by kernel_rfl)) auditKnown_f9) auditKnown_f10) auditKnown_f11) auditKnown_f12) auditKnown_f13) (by kernel_rfl)) (by kernel_rfl)) (by kernel_rfl)) (by kernel_rfl)) (by kernel_rfl)) (by kernel_rfl)) (by kernel_rfl)) (by kernel_rfl)) (by kernel_rfl)) auditKnown_f23) (by kernel_rfl)) auditKnown_f25) auditKnown_f26) auditKnown_f27) auditKnown_f28) (by kernel_rfl)) (by kernel_rfl)) (by kernel_rfl)) (by kernel_rfl)
end Go.Proofs.YtflanpmacjdlaaaGreatDoor
