/- AuditKnown returns true, whatever the model draws; its row and its tied card hold. Conditions: none. -/
import Derived.Test.YtflanpmacjdlaaaGreatDoorCards
import Derived.Test.YtflanpmacjdlaaaGreatDoorTie
import Derived.Test.YtflanpmacjdlaaaGreatDoorAuditFacts
import Derived.Test.YtflanpmacjdlaaaGreatDoorAuditP0
import Derived.ProofKit
import Derived.OpenShut
import Derived.LaidMore
import Derived.Lay
import Derived.SevenTiedAt
import Derived.Stop.Joined
namespace Go.Ae.Audit
theorem hx : ∀ c, ExecOK tP tE c := top_exec mixed intr_ok prog_ok _ _
theorem whole : ExecTo tP tE tB d0 m0 h0 (.ret d6 m6 h6) := (.pieces hx 2 (by kernel_rfl) p0 (.pieces hx 1 (by kernel_rfl) p1 (.pieces hx 1 (by kernel_rfl) p2 (.pieces hx 1 (by kernel_rfl) p3 (.pieces hx 4 (by kernel_rfl) p4 (.piece hx p5))))))
end Go.Ae.Audit
namespace Go.Proofs.YtflanpmacjdlaaaGreatDoor
open Go.ChangeShapes Go.WideShapes Go.ChangeAt Go.RowKit

theorem auditKnown_own : ownKnob Tryz.prog.godebug = none := by kernel_rfl
theorem auditKnown_kept {w w' : World} {may : MemPlace → Prop} (h : Go.Ae.Fr0 w w') : w.keptBut w' may := by
  refine ⟨h.os, h.output, fun i hi => ?_⟩
  rw [h.block i hi]
  cases w.heap[i]? with
  | none => exact rfl
  | some o =>
    cases o <;> first | exact ⟨rfl, rfl, rfl, fun _ _ => rfl⟩ | exact .inr ⟨rfl, rfl⟩ | rfl
theorem auditKnown_calls (w : World) : Calls Tryz.prog 5 #[] w fun e w' => e = .returned (.bool true) ∧ Go.Ae.Fr0 w w' := by
  have h : Calls Go.Ae.tP 5 #[] w fun e w' => ∃ v' γ, e = .returned v' ∧ Go.Ae.VR γ (.bool true) v' ∧ Go.Ae.Fr0 w w' :=
    Go.Ae.top_runs (P := Go.Ae.tP) (K := Go.Ae.tK) (I := Go.Ae.tI) (f := 5) (fn := Tryz.f5) (body := Go.Ae.Audit.tB) (mask := Go.Ae.Audit.m0.mask) Tryz.func5 (by kernel_rfl) Go.Ae.Audit.whole (by kernel_rfl) w
  refine Calls.mono h fun e w' ⟨v', γ, h1, h2, h3⟩ => ?_
  cases h2
  exact ⟨h1, h3⟩

set_option maxRecDepth 100000 in
theorem auditKnown_lifted (os : Os) (started : os.Started) (H : Type) (enc : TypeId × Value → H) :
    ReturnsInHanded {} Tryz.checked os 5 .any (fun w args => (Rows.auditKnownSpec.pre enc Tryz.prog Tryz.f5 Rows.auditKnownRow.domain false w args ∧ laidMetH Tryz.prog Rows.auditKnownRow.laid w) ∧ sizedMet enc Tryz.prog Tryz.f5 (OpenSpec.ofChange Rows.auditKnownSpec) false w args)
      (Rows.auditKnownSpec.post enc Tryz.prog Tryz.f5 false true false false) := by
  refine returnsInHanded_of_change_and (C := Tryz.checked) (X := fun w _ => laidMetH Tryz.prog Rows.auditKnownRow.laid w) (fun _ _ _ hh h => h.of_heap hh) auditKnown_own started (by kernel_rfl) Tryz.func5
    (ChangeSpec.witness_shaped (enc := enc) (C := Tryz.checked) (os := os) (X := fun w _ => laidMetH Tryz.prog Rows.auditKnownRow.laid w) false (World.laidAll Tryz.prog os Rows.auditKnownRow.laid) #[] 8 (World.laidAll_os _ _ _)
      (World.shaped_of_ZipB (by kernel_rfl) (by kernel_rfl)) (by kernel_rfl) (by kernel_rfl) (by kernel_rfl)
      (by rw [MakeChecks.laidMetH_plain _ _ _ (by kernel_rfl)]; exact laidMet_laidAll _ (by kernel_rfl) (by kernel_rfl))) ?_
  intro W base args ds gs before _ hW _ _ _ _
  have hW' := hW
  obtain ⟨p, q, hA0, hV, rfl, _, _⟩ := hW
  have hA : DataW.TrodAll enc Tryz.prog W 0 (fun _ => true) true Tryz.f5.params.toList args.toList ds p := hA0
  rw [Tryz.params5] at hA
  obtain ⟨rfl, rfl, rfl⟩ := trodAll_none hA
  obtain ⟨rfl, rfl⟩ := trodVars_none hV
  refine (auditKnown_calls W).mono fun e W' ⟨he, hf⟩ => ?_
  subst he
  exact ⟨_, rfl, [], [], _, [], [], [], hW', trodAll_mk1 (shut_bool Tryz.underlying4 _), trodAll_mk0, rfl, auditKnown_kept hf, fun h => by cases h⟩

theorem auditKnown_holds : Rows.AuditKnownSaid :=
  OpenClaim.holds_of_wide 5 Tryz.f5 rfl rfl rfl rfl rfl rfl rfl ⟨rfl, rfl, rfl, rfl, rfl⟩ rfl rfl rfl rfl rfl auditKnown_named Tryz.func5 auditKnown_joined
    (of_decide_eq_true (by kernel_rfl)) (by unfold Func.isWrapper; first | (rw [if_pos (by decide +kernel)]; kernel_rfl) | (rw [if_neg (by decide +kernel)]; exact ⟨rfl, rfl⟩))
    (fun os started H enc _ => auditKnown_lifted os started H enc)
theorem auditKnown_card_holds : Rows.AuditKnownCardSaid :=
  Claim7.holds_tied_plain_at .later [] [.data, .pinned] true (true, "8f813b9d9fd03714e80f4c3f4db4bc08b2ce498389024fbcf18037d74f984902") true auditKnown_holds (fun _ h => by cases h) auditKnown_wfText (fun _ h => by cases h) auditKnown_row_tie rfl ⟨rfl, rfl⟩ auditKnown_main rfl
    (fun f fn hf hfn => by
      obtain rfl : f = 5 := Option.some.inj (auditKnown_named.symm.trans hf) |>.symm
      obtain rfl : fn = Tryz.f5 := (Option.some.inj (Tryz.func5.symm.trans hfn)).symm
      exact ⟨auditKnown_looks, fun j t ht => by
        rw [Tryz.params5] at ht
        simp at ht⟩)
    auditKnown_goes
#print axioms auditKnown_card_holds
end Go.Proofs.YtflanpmacjdlaaaGreatDoor
