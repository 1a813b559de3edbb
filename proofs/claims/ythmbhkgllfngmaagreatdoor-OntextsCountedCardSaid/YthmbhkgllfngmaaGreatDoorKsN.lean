/- The closed facts of the row of pantry/pantrylaw19.OntextsCounted, one by one. (Printed by mkJF.py.) -/
import Derived.Test.YthmbhkgllfngmaaGreatDoorKsB
import Derived.Test.YthmbhkgllfngmaaGreatDoorRows
import Derived.Test.YthmbhkgllfngmaaGreatDoorChecked
import Derived.ProofKit
import Derived.JoinedOf
/- The closed facts of the row of pantry/pantrylaw19.OntextsCounted, one by one. (Printed by mkJF.py.) -/
namespace Go.Proofs.YthmbhkgllfngmaaGreatDoor.ks
open Go.ChangeShapes Go.WideShapes Go.ChangeAt Go.RowKit
set_option linter.unusedVariables false
theorem jf0 : (Rows.ontextsCountedRow.wf (OpenSpec.ofChange Rows.ontextsCountedSpec) : Bool) = true := by kernel_rfl
theorem jf1 : (laidOutB Tryz.prog : Bool) = true := by kernel_rfl
theorem jf2 : (mapsRowed Tryz.prog : Bool) = true := by kernel_rfl
theorem jf3 : (Tryz.f3.params.all (Tryz.prog.readableRec ·) : Bool) = true := by kernel_rfl
theorem jf4 : (namedTie Tryz.prog Rows.ontextsCountedRow.named Rows.ontextsCountedSpec.vars : Bool) = true := by kernel_rfl
theorem jf5 : ((Rows.ontextsCountedRow.stops == []) : Bool) = true := by kernel_rfl
theorem jf6 : ((Tryz.prog.stops == []) : Bool) = true := by kernel_rfl
theorem jf7 : ((Rows.ontextsCountedRow.knobs == []) : Bool) = true := by kernel_rfl
theorem jf8 : ((Tryz.prog.stopKnobs == []) : Bool) = true := by kernel_rfl
theorem jf9 : ((Rows.ontextsCountedRow.inPlace == Tryz.prog.inPlace 3) : Bool) = true := by kernel_rfl
theorem jf10 : ((Rows.ontextsCountedRow.unfollowed == Tryz.prog.unfollowed 3) : Bool) = true := by kernel_rfl
theorem jf11 : ((Rows.ontextsCountedRow.recurses == Tryz.prog.recurses 3) : Bool) = true := by kernel_rfl
theorem jf12 : ((Rows.ontextsCountedRow.named == Tryz.prog.varsNamed 3) : Bool) = true := by kernel_rfl
theorem jf13 : ((Rows.ontextsCountedRow.maps == (Tryz.f3.params.toList ++ Rows.ontextsCountedSpec.plain.varTypes Tryz.prog).any (Tryz.prog.mapsRec ·)) : Bool) = true := by kernel_rfl
theorem jf14 : ((Rows.ontextsCountedRow.ifaces == (Tryz.f3.params.toList ++ Rows.ontextsCountedSpec.plain.varTypes Tryz.prog).any (Tryz.prog.ifacesRec ·)) : Bool) = true := by kernel_rfl
theorem jf15 : ((Rows.ontextsCountedRow.mapsOut == Tryz.prog.mapsAmong Tryz.f3.resultTypes.toList) : Bool) = true := by kernel_rfl
theorem jf16 : ((Rows.ontextsCountedRow.loops == (Tryz.f3.params.toList ++ Rows.ontextsCountedSpec.plain.varTypes Tryz.prog).any (Tryz.prog.loopsFrom ·)) : Bool) = true := by kernel_rfl
theorem jf17 : ((Rows.ontextsCountedRow.wideKeys == (Tryz.f3.params.toList ++ Rows.ontextsCountedSpec.plain.varTypes Tryz.prog ++ Tryz.f3.resultTypes.toList).any (Tryz.prog.wideKeysFrom ·)) : Bool) = true := by kernel_rfl
theorem jf18 : (Rows.ontextsCountedSpec.vars.all (Tryz.prog.varReadable ·) : Bool) = true := by kernel_rfl
theorem jf19 : (Tryz.f3.resultTypes.all (fun t => Tryz.prog.readableRec t && decide (t < Tryz.prog.types.size)) : Bool) = true := by kernel_rfl
theorem jf20 : ((Rows.ontextsCountedRow.ifacesOut == Tryz.f3.resultTypes.toList.any (Tryz.prog.ifacesRec ·)) : Bool) = true := by kernel_rfl
theorem jf21 : ((Rows.ontextsCountedRow.loopsOut == Tryz.f3.resultTypes.toList.any (Tryz.prog.loopsFrom ·)) : Bool) = true := by kernel_rfl
theorem jf22 : ((Rows.ontextsCountedRow.plainKeys == Tryz.prog.plainKeys) : Bool) = true := by kernel_rfl
theorem jf23 : (Rows.ontextsCountedRow.shortTexts.isNone : Bool) = true := by kernel_rfl
theorem jf24 : (Tryz.prog.stopsHeard : Bool) = true := by kernel_rfl
theorem jf25 : (Tryz.prog.mayEnter : Bool) = true := by kernel_rfl
theorem jf26 : ((Rows.ontextsCountedRow.lifted == Tryz.prog.liftsFinal) : Bool) = true := by kernel_rfl
theorem jf27 : ((Tryz.prog.make == some Rows.ontextsCountedRow.make) : Bool) = true := by kernel_rfl
theorem jf29 : ((Rows.ontextsCountedRow.pinned == Rows.ontextsCountedRow.pinnedBy) : Bool) = true := by kernel_rfl
theorem jf30 : ((Rows.ontextsCountedRow.veiled == (Tryz.f3.params.toList ++ Rows.ontextsCountedSpec.plain.varTypes Tryz.prog ++ Tryz.f3.resultTypes.toList).any (Tryz.prog.veiledRec ·)) : Bool) = true := by kernel_rfl
theorem jf31 : (Rows.ontextsCountedRow.veiledFits Tryz.prog Tryz.f3.params.toList (Tryz.f3.params.toList ++ Rows.ontextsCountedSpec.plain.varTypes Tryz.prog ++ Tryz.f3.resultTypes.toList) : Bool) = true := by kernel_rfl
theorem joined_facts : joinedFacts Tryz.prog 3 Tryz.f3 Rows.ontextsCountedSpec Rows.ontextsCountedRow = true := by
  unfold joinedFacts
  rw [jf0, jf1, jf2, jf3, jf4, jf5, jf6, jf7, jf8, jf9, jf10, jf11, jf12, jf13, jf14, jf15, jf16, jf17, jf18, jf19, jf20, jf21, jf22, jf23, jf24, jf25, jf26, jf27, jf29, jf30, jf31]
  simp only [Bool.true_and, Bool.and_true]
  kernel_rfl
theorem is_instance : Tryz.f3.isInstance Tryz.prog Rows.ontextsCountedRow.origin Rows.ontextsCountedRow.targs := of_decide_eq_true (by kernel_rfl)
theorem is_wrapper : Tryz.f3.isWrapper Tryz.prog Rows.ontextsCountedRow.wrapper Rows.ontextsCountedRow.mainSum := by unfold Func.isWrapper; first | (rw [if_pos (by decide +kernel)]; kernel_rfl) | (rw [if_neg (by decide +kernel)]; exact ⟨rfl, rfl⟩)
theorem func_named : Tryz.prog.funcNamed Rows.ontextsCountedRow.func = some 3 := by kernel_rfl
end Go.Proofs.YthmbhkgllfngmaaGreatDoor.ks
