/- ServerKnown returns true, whatever the model draws; its row and its tied card hold. Conditions: none. -/
import Derived.Test.YtfmekondplimoaaGreatDoorCards
import Derived.Test.YtfmekondplimoaaGreatDoorTie
import Derived.Test.YtfmekondplimoaaGreatDoorServerFacts
import Derived.Test.YtfmekondplimoaaGreatDoorServerP0
import Derived.Test.YtfmekondplimoaaGreatDoorServerP1
import Derived.ProofKit
import Derived.OpenShut
import Derived.LaidMore
import Derived.Lay
import Derived.SevenTiedAt
import Derived.Stop.Joined
namespace Go.Ae.Server
theorem whole : ExecTo tP tE tB d0 m0 h0 (.ret d16 m16 h16) := (.pieces hx 8 (by kernel_rfl) p0 (.pieces hx 1 (by kernel_rfl) p1 (.pieces hx 1 (by kernel_rfl) p16 (.seq' (by kernel_rfl) (.call hcl (hev _ _) 6 p2 p3 p7 p8) (.pieces hx 2 (by kernel_rfl) p15 (.seq' (by kernel_rfl) (.pieces hx 1 (by kernel_rfl) p10 (.block_exit' (by kernel_rfl) (by kernel_rfl) (.loop' (by kernel_rfl) (.rest hx p9)))) (.pieces hx 6 (by kernel_rfl) p14 (.seq' (by kernel_rfl) (.pieces hx 1 (by kernel_rfl) p12 (.block_exit' (by kernel_rfl) (by kernel_rfl) (.loop' (by kernel_rfl) (.rest hx p11)))) (.piece hx p13)))))))))
end Go.Ae.Server
namespace Go.Proofs.YtfmekondplimoaaGreatDoor
open Go.ChangeShapes Go.WideShapes Go.ChangeAt Go.RowKit

theorem serverKnown_own : ownKnob Tryz.prog.godebug = none := by kernel_rfl
theorem serverKnown_kept {w w' : World} {may : MemPlace → Prop} (h : Go.Ae.Fr0 w w') : w.keptBut w' may := by
  refine ⟨h.os, h.output, fun i hi => ?_⟩
  rw [h.block i hi]
  cases w.heap[i]? with
  | none => exact rfl
  | some o =>
    cases o <;> first | exact ⟨rfl, rfl, rfl, fun _ _ => rfl⟩ | exact .inr ⟨rfl, rfl⟩ | rfl
theorem serverKnown_calls (w : World) : Calls Tryz.prog 3 #[] w fun e w' => e = .returned (.bool true) ∧ Go.Ae.Fr0 w w' := by
  have h : Calls Go.Ae.tP 3 #[] w fun e w' => ∃ v' γ, e = .returned v' ∧ Go.Ae.VR γ (.bool true) v' ∧ Go.Ae.Fr0 w w' :=
    Go.Ae.top_runs (P := Go.Ae.tP) (K := Go.Ae.tK) (I := Go.Ae.tI) (f := 3) (fn := Tryz.f3) (body := Go.Ae.Server.tB) (mask := Go.Ae.Server.m0.mask) Tryz.func3 (by kernel_rfl) Go.Ae.Server.whole (by kernel_rfl) w
  refine Calls.mono h fun e w' ⟨v', γ, h1, h2, h3⟩ => ?_
  cases h2
  exact ⟨h1, h3⟩

set_option maxRecDepth 100000 in
theorem serverKnown_lifted (os : Os) (started : os.Started) (H : Type) (enc : TypeId × Value → H) :
    ReturnsInHanded {} Tryz.checked os 3 .any (fun w args => (Rows.serverKnownSpec.pre enc Tryz.prog Tryz.f3 Rows.serverKnownRow.domain false w args ∧ laidMetH Tryz.prog Rows.serverKnownRow.laid w) ∧ sizedMet enc Tryz.prog Tryz.f3 (OpenSpec.ofChange Rows.serverKnownSpec) false w args)
      (Rows.serverKnownSpec.post enc Tryz.prog Tryz.f3 false true false false) := by
  refine returnsInHanded_of_change_and (C := Tryz.checked) (X := fun w _ => laidMetH Tryz.prog Rows.serverKnownRow.laid w) (fun _ _ _ hh h => h.of_heap hh) serverKnown_own started (by kernel_rfl) Tryz.func3
    (ChangeSpec.witness_shaped (enc := enc) (C := Tryz.checked) (os := os) (X := fun w _ => laidMetH Tryz.prog Rows.serverKnownRow.laid w) false (World.laidAll Tryz.prog os Rows.serverKnownRow.laid) #[] 8 (World.laidAll_os _ _ _)
      (World.shaped_of_ZipB (by kernel_rfl) (by kernel_rfl)) (by kernel_rfl) (by kernel_rfl) (by kernel_rfl)
      (by rw [MakeChecks.laidMetH_plain _ _ _ (by kernel_rfl)]; exact laidMet_laidAll _ (by kernel_rfl) (by kernel_rfl))) ?_
  intro W base args ds gs before _ hW _ _ _ _
  have hW' := hW
  obtain ⟨p, q, hA0, hV, rfl, _, _⟩ := hW
  have hA : DataW.TrodAll enc Tryz.prog W 0 (fun _ => true) true Tryz.f3.params.toList args.toList ds p := hA0
  rw [Tryz.params3] at hA
  obtain ⟨rfl, rfl, rfl⟩ := trodAll_none hA
  obtain ⟨rfl, rfl⟩ := trodVars_none hV
  refine (serverKnown_calls W).mono fun e W' ⟨he, hf⟩ => ?_
  subst he
  exact ⟨_, rfl, [], [], _, [], [], [], hW', trodAll_mk1 (shut_bool Tryz.underlying4 _), trodAll_mk0, rfl, serverKnown_kept hf, fun h => by cases h⟩

theorem serverKnown_holds : Rows.ServerKnownSaid :=
  OpenClaim.holds_of_wide 3 Tryz.f3 rfl rfl rfl rfl rfl rfl rfl ⟨rfl, rfl, rfl, rfl, rfl⟩ rfl rfl rfl rfl rfl serverKnown_named Tryz.func3 serverKnown_joined
    (of_decide_eq_true (by kernel_rfl)) (by unfold Func.isWrapper; first | (rw [if_pos (by decide +kernel)]; kernel_rfl) | (rw [if_neg (by decide +kernel)]; exact ⟨rfl, rfl⟩))
    (fun os started H enc _ => serverKnown_lifted os started H enc)
theorem serverKnown_card_holds : Rows.ServerKnownCardSaid :=
  Claim7.holds_tied_plain_at .later [] [.data, .pinned] true (true, "762dab8aa6c78a142db57e5175440df392f35db2677dc6a18436980a0d1373f8") true serverKnown_holds (fun _ h => by cases h) serverKnown_wfText (fun _ h => by cases h) serverKnown_row_tie rfl ⟨rfl, rfl⟩ serverKnown_main rfl
    (fun f fn hf hfn => by
      obtain rfl : f = 3 := Option.some.inj (serverKnown_named.symm.trans hf) |>.symm
      obtain rfl : fn = Tryz.f3 := (Option.some.inj (Tryz.func3.symm.trans hfn)).symm
      exact ⟨serverKnown_looks, fun j t ht => by
        rw [Tryz.params3] at ht
        simp at ht⟩)
    serverKnown_goes
#print axioms serverKnown_card_holds
end Go.Proofs.YtfmekondplimoaaGreatDoor
