/-
  DERIVED. GIVEN WITH THE SEED: THE CARDS: each row of YthmbhkgllfngmaaGreatDoorRows.lean that lists a variable, with what it lists TIED to the program's text (the seventh form; the later family's looks); each row that meets fmt, with fmt's text TOLD by the authors' own Lean function (tested against real Go, not proved from fmt's source: count such statements apart). THE CARD IS WHAT COUNTS. Prove the row's statement (the work); the ties are given (YthmbhkgllfngmaaGreatDoorTie.lean); close each card by the builder's one call (the guide's Derived/Test/ToyasCard.lean, 'card_holds'). Laid BY PROGRAM, IN A SANDBOX (cutbox-door.mjs). By AI agents, Wed Nov 11 2026. No macro, syntax, notation, axiom, sorry.
-/
import Derived.Test.YthmbhkgllfngmaaGreatDoorRows
import GoSem.ClaimSeven
namespace Go.Proofs.YthmbhkgllfngmaaGreatDoor
namespace Rows

/-- THE TIED CARD OF 'pantrylaw19.OntextsCounted'. -/
def ontextsCountedCard : Claim7 := { stood := { row := ontextsCountedRow, standIns := [], harness := (true, "d30fcea4983eda276002e2742f3bd3be530b552e02df3a14d5267287bed75894"), looks := true }, kinds := [], alts := [], laidByText := true, laidKinds := [.data, .data, .widerDeep, .widerDeep, .data, .data, .data, .data, .data, .data, .sentinel, .sentinel, .data, .data, .pinned, .pinned, .pinned, .pinned], laidTests := true, laidLooks := .later }
def OntextsCountedCardSaid : Prop := Claim7.holds Tryz.pinned (.plain (OpenSpec.ofChange ontextsCountedSpec)) ontextsCountedCard

/-- THE SECOND FORM's CARD OF 'pantrylaw19.OntextsCounted'. -/
def ontextsCountedUptoCard : Claim7 := { stood := { row := ontextsCountedUptoRow, standIns := [], harness := (true, "d30fcea4983eda276002e2742f3bd3be530b552e02df3a14d5267287bed75894"), looks := true }, kinds := [], alts := [], laidByText := true, laidKinds := [.data, .data, .widerDeep, .widerDeep, .data, .data, .data, .data, .data, .data, .sentinel, .sentinel, .data, .data, .pinned, .pinned, .pinned, .pinned], laidTests := true, laidLooks := .later }
def OntextsCountedUptoCardSaid : Prop := Claim7.holds Tryz.pinned (.plain (OpenSpec.upto ontextsCountedSpec)) ontextsCountedUptoCard
end Rows
end Go.Proofs.YthmbhkgllfngmaaGreatDoor
