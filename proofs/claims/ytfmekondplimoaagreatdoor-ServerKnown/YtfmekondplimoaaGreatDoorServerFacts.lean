/- Closed facts of the row of ServerKnown, each by the kernel. Conditions: none. -/
import Derived.Test.YtfmekondplimoaaGreatDoorCards
import Derived.Test.YtfmekondplimoaaGreatDoorTie
import Derived.ProofKit
import Derived.SevenTiedAt
namespace Go.Proofs.YtfmekondplimoaaGreatDoor
set_option maxRecDepth 100000
theorem serverKnown_named : Tryz.pinned.checked.prog.funcNamed Rows.serverKnownRow.func = some 3 := by kernel_rfl
theorem serverKnown_f1 : Rows.serverKnownRow.wf (OpenSpec.ofChange Rows.serverKnownSpec) = true := by kernel_rfl
theorem serverKnown_f2 : laidOutB Tryz.pinned.checked.prog = true := by kernel_rfl
theorem serverKnown_f3 : mapsRowed Tryz.pinned.checked.prog = true := by kernel_rfl
theorem serverKnown_f5 : namedTie Tryz.pinned.checked.prog Rows.serverKnownRow.named Rows.serverKnownSpec.vars = true := by kernel_rfl
theorem serverKnown_f7 : (Tryz.pinned.checked.prog.stops == []) = true := by kernel_rfl
theorem serverKnown_f9 : (Tryz.pinned.checked.prog.stopKnobs == []) = true := by kernel_rfl
theorem serverKnown_f10 : (Rows.serverKnownRow.inPlace == Tryz.pinned.checked.prog.inPlace 3) = true := by kernel_rfl
theorem serverKnown_f11 : (Rows.serverKnownRow.unfollowed == Tryz.pinned.checked.prog.unfollowed 3) = true := by kernel_rfl
theorem serverKnown_f12 : (Rows.serverKnownRow.recurses == Tryz.pinned.checked.prog.recurses 3) = true := by kernel_rfl
theorem serverKnown_f13 : (Rows.serverKnownRow.named == Tryz.pinned.checked.prog.varsNamed 3) = true := by kernel_rfl
theorem serverKnown_f23 : (Rows.serverKnownRow.plainKeys == Tryz.pinned.checked.prog.plainKeys) = true := by kernel_rfl
theorem serverKnown_f25 : Tryz.pinned.checked.prog.stopsHeard = true := by kernel_rfl
theorem serverKnown_f26 : Tryz.pinned.checked.prog.mayEnter = true := by kernel_rfl
theorem serverKnown_f27 : (Rows.serverKnownRow.lifted == Tryz.pinned.checked.prog.liftsFinal) = true := by kernel_rfl
theorem serverKnown_f28 : (Tryz.pinned.checked.prog.make == some Rows.serverKnownRow.make) = true := by kernel_rfl
theorem goesBy_none (P : Program) (c : OpenClaim) (hs : c.start = .entering) (h : (P.funcs.toList.any Func.goes) = false) : false = c.goesBy P := by
  have hall : ∀ g : Nat, (P.funcs[g]?).any Func.goes = false := by
    intro g
    cases hg : P.funcs[g]? with
    | none => rfl
    | some fn =>
      have := List.any_eq_false.1 h fn (Array.mem_toList_iff.2 (Array.mem_of_getElem? hg))
      simpa using this
  have hany : P.funcs.any Func.goes = false := by rw [← Array.any_toList]; exact h
  have hgo : ∀ f, P.goes f = false := by
    intro f
    unfold Program.goes
    rw [hany, Bool.and_false, Bool.or_false, List.any_eq_false]
    intro g _
    rw [hall g]; decide
  unfold OpenClaim.goesBy
  rw [hs]
  unfold Program.goesAt Program.goesFrom
  rw [Bool.or_false]
  cases P.funcNamed c.func with
  | none => rfl
  | some f => exact (hgo f).symm
theorem serverKnown_noGo : (Tryz.pinned.checked.prog.funcs.toList.any Func.goes) = false := by kernel_rfl
theorem serverKnown_goes : false = Rows.serverKnownRow.goesBy Tryz.pinned.checked.prog := goesBy_none _ _ rfl serverKnown_noGo
theorem serverKnown_wfText : Rows.serverKnownRow.wfByText (OpenSpec.ofChange Rows.serverKnownSpec) = true := by kernel_rfl
theorem serverKnown_main : Tryz.pinned.checked.prog.mainIs = some (true, "762dab8aa6c78a142db57e5175440df392f35db2677dc6a18436980a0d1373f8".toList) := by kernel_rfl
theorem serverKnown_looks : true = Tryz.pinned.checked.prog.looks [] := by kernel_rfl
theorem serverKnown_and {a b : Bool} (h : a = true) (k : b = true) : (a && b) = true := by rw [h, k]; rfl
theorem serverKnown_joined : joinedFacts Tryz.pinned.checked.prog 3 Tryz.f3 Rows.serverKnownSpec Rows.serverKnownRow = true := by
  unfold joinedFacts
  exact serverKnown_and (serverKnown_and (serverKnown_and (serverKnown_and (serverKnown_and (serverKnown_and (serverKnown_and (serverKnown_and (serverKnown_and (serverKnown_and (serverKnown_and (serverKnown_and (serverKnown_and (serverKnown_and (serverKnown_and (serverKnown_and (serverKnown_and (serverKnown_and (serverKnown_and (serverKnown_and (serverKnown_and (serverKnown_and (serverKnown_and (serverKnown_and (serverKnown_and (serverKnown_and (serverKnown_and (serverKnown_and (serverKnown_and (serverKnown_and (serverKnown_and serverKnown_f1 serverKnown_f2) serverKnown_f3) (by kernel_rfl)) serverKnown_f5) (by kernel_rfl)) serverKnown_f7) (by kernel_rfl)) serverKnown_f9) serverKnown_f10) serverKnown_f11) serverKnown_f12) serverKnown_f13) (by kernel_rfl)) (by kernel_rfl)) (by kernel_rfl)) (by kernel_rfl)) (by kernel_rfl)) (by kernel_rfl)) (by kernel_rfl)) (by kernel_rfl)) (by kernel_rfl)) serverKnown_f23) (by kernel_rfl)) serverKnown_f25) serverKnown_f26) serverKnown_f27) serverKnown_f28) (by kernel_rfl)) (by kernel_rfl)) (by kernel_rfl)) (by kernel_rfl)
end Go.Proofs.YtfmekondplimoaaGreatDoor
