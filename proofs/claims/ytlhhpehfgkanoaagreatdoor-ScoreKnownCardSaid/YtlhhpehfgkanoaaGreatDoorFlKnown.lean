/- ScoreKnown, the tied card: the chapter's examples of words, floats, bounds, sums and stretches. Condition: the listed tables of Go's library read as their initialisers lay them, which the card ties to the program's text. -/
import Derived.Test.YtlhhpehfgkanoaaGreatDoorFlQ
import Derived.Test.YtlhhpehfgkanoaaGreatDoorFlG
import Derived.Test.YtlhhpehfgkanoaaGreatDoorTie
import Derived.Test.YtlhhpehfgkanoaaGreatDoorCards
import Derived.ProofKit
import Derived.OpenShut
import Derived.Stop.LaidErr
import Derived.SevenTiedAt
import Derived.Lay
/- ScoreKnown, the tied card: the chapter's examples of words, floats, bounds, sums and stretches. Condition: the listed tables of Go's library read as their initialisers lay them, which the card ties to the program's text. -/
namespace Go.Proofs.YtlhhpehfgkanoaaGreatDoor.fl
open Go.ChangeShapes Go.WideShapes Go.ChangeAt Go.RowKit
set_option linter.unusedVariables false

theorem ownN : ownKnob Tryz.prog.godebug = none := by kernel_rfl
theorem known_fs {W : World} (h : laidMetH Tryz.prog Rows.scoreKnownRow.laid W) : FS W := by
  rw [MakeChecks.laidMetH_plain _ _ _ (by kernel_rfl)] at h
  exact fs_of h (by simp [Rows.scoreKnownRow]) (by simp [Rows.scoreKnownRow]) (by simp [Rows.scoreKnownRow]) (by simp [Rows.scoreKnownRow]) (by simp [Rows.scoreKnownRow]) (by simp [Rows.scoreKnownRow])
/-- A heap that meets the condition. -/
theorem known_door (os : Os) (args : Array Value) : laidMetH Tryz.prog Rows.scoreKnownRow.laid ((World.laidAll Tryz.prog os Rows.scoreKnownRow.laid).forCall (fun _ _ => 0) ⟨#[], args, []⟩).memory := by
  rw [MakeChecks.laidMetH_plain _ _ _ (by kernel_rfl)]
  exact laidMet_laidAll _ (by kernel_rfl) (by kernel_rfl)
set_option maxRecDepth 100000 in
theorem known_lifted (os : Os) (started : os.Started) (H : Type) (enc : TypeId × Value → H) :
    ReturnsInHanded {} Tryz.checked os 8 .any (fun w args => (Rows.scoreKnownSpec.pre enc Tryz.prog Tryz.f8 [] false w args ∧ laidMetH Tryz.prog Rows.scoreKnownRow.laid w) ∧ sizedMet enc Tryz.prog Tryz.f8 (OpenSpec.ofChange Rows.scoreKnownSpec) false w args)
      (Rows.scoreKnownSpec.post enc Tryz.prog Tryz.f8 false true false false) := by
  refine returnsInHanded_of_change_and (C := Tryz.checked) (X := fun w _ => laidMetH Tryz.prog Rows.scoreKnownRow.laid w) (fun _ _ _ hh h => h.of_heap hh) ownN started (by kernel_rfl) Tryz.func8
    (ChangeSpec.witness_shaped (enc := enc) (C := Tryz.checked) (os := os) (X := fun w _ => laidMetH Tryz.prog Rows.scoreKnownRow.laid w) false (World.laidAll Tryz.prog os Rows.scoreKnownRow.laid) #[] 8 (World.laidAll_os _ _ _) (World.shaped_of_ZipB (by kernel_rfl) (by kernel_rfl)) (by kernel_rfl) (by kernel_rfl) (by kernel_rfl) (known_door os _)) ?_
  intro W base args ds gs before hval0 hW hcnd hsz hL _
  have hval : ∀ (j : Nat) t v, Tryz.f8.params[j]? = some t → args[j]? = some v → Value.okWide Tryz.prog W .any base t v := hval0
  have hW' := hW
  obtain ⟨p, q, hA0, hV, rfl, hfz, hnd⟩ := hW
  have hA : DataW.TrodAll enc Tryz.prog W 0 (fun _ => true) true Tryz.f8.params.toList args.toList ds p := hA0
  rw [Tryz.params8] at hA hval hsz
  obtain ⟨hargs, rfl, rfl⟩ := trodAll_nil hA
  obtain rfl : args = #[] := by cases args; simp_all
  obtain ⟨rfl, rfl⟩ := trodVars_none hV
  clear hA0 hval0
  refine (knownC W (known_fs hL)).mono fun e W' ⟨he, bel⟩ => ?_
  subst he
  exact ⟨_, rfl, _, _, _, [], _, [], hW', trodAll_mk1 (shut_bool Tryz.underlying4 _), trodAll_mk0, rfl, bel.frame _, fun h => by cases h⟩
theorem known_over : Rows.ScoreKnownSaid :=
  OpenClaim.holds_of_wide 8 Tryz.f8 rfl rfl rfl rfl rfl rfl rfl ⟨rfl, rfl, rfl, rfl, rfl⟩ rfl rfl rfl rfl rfl (by kernel_rfl) Tryz.func8 (by kernel_rfl)
    (of_decide_eq_true (by kernel_rfl)) (by unfold Func.isWrapper; first | (rw [if_pos (by decide +kernel)]; kernel_rfl) | (rw [if_neg (by decide +kernel)]; exact ⟨rfl, rfl⟩))
    (fun os started H enc _ => known_lifted os started H enc)
theorem known_card : Rows.ScoreKnownCardSaid :=
  Claim7.holds_tied_plain_at .later [] [.data, .data, .widerDeep, .widerDeep, .data, .data, .data, .data, .data, .data, .sentinel, .sentinel, .data, .data, .pinned, .pinned, .pinned, .pinned] true (true, "57125b170f11272adc60f5d815a178fce2c2633901f0ccb14a3bd9f4fe9a2cda") true
    known_over (fun _ h => by cases h) (by kernel_rfl) (fun _ h => by cases h) scoreKnown_row_tie rfl ⟨rfl, rfl⟩ (by kernel_rfl) rfl
    (fun f fn hf hfn => by
      obtain rfl : f = 8 := Option.some.inj ((show Tryz.prog.funcNamed "pantry/pantrylaw02.ScoreKnown" = some 8 by kernel_rfl).symm.trans hf) |>.symm
      obtain rfl : fn = Tryz.f8 := (Option.some.inj (Tryz.func8.symm.trans hfn)).symm
      exact ⟨by kernel_rfl, fun j t ht => by
        rw [Tryz.params8] at ht
        simp at ht⟩)
    (by kernel_rfl)
#print axioms known_card
end Go.Proofs.YtlhhpehfgkanoaaGreatDoor.fl
