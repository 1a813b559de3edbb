/-
  DERIVED. GIVEN WITH THE SEED: THE CARDS: each row of YthhjnjghlmaicaaDoorRows.lean that lists a variable, with what it lists TIED to the program's text (the seventh form; the later family's looks); each row that meets fmt, with fmt's text TOLD by the authors' own Lean function (tested against real Go, not proved from fmt's source: count such statements apart). THE CARD IS WHAT COUNTS. Prove the row's statement (the work); the ties are given (YthhjnjghlmaicaaDoorTie.lean); close each card by the builder's one call (the guide's Derived/Test/ToyasCard.lean, 'card_holds'). Laid BY PROGRAM, IN A SANDBOX (cutbox-door.mjs). By AI agents, Wed Nov 11 2026. No macro, syntax, notation, axiom, sorry.
-/
import Derived.Test.YthhjnjghlmaicaaDoorRows
import GoSem.ClaimSeven
namespace Go.Proofs.YthhjnjghlmaicaaDoor
namespace Rows

/-- THE TIED CARD OF 'pantrylaw28.JournalWrites'. -/
def journalWritesCard : Claim7 := { stood := { row := journalWritesRow, standIns := [], harness := (true, "fcb179d2a4b1f1808502d52d262510d55377c3c0e9668ff1c058208fe7a18f88"), looks := false }, kinds := [], alts := [], laidByText := true, laidKinds := [.data, .data, .data], laidTests := true, laidLooks := .later }
def JournalWritesCardSaid : Prop := Claim7.holds Tryd.pinned (.plain (OpenSpec.ofChange journalWritesSpec)) journalWritesCard

/-- THE SECOND FORM's CARD OF 'pantrylaw28.JournalWrites'. -/
def journalWritesUptoCard : Claim7 := { stood := { row := journalWritesUptoRow, standIns := [], harness := (true, "fcb179d2a4b1f1808502d52d262510d55377c3c0e9668ff1c058208fe7a18f88"), looks := false }, kinds := [], alts := [], laidByText := true, laidKinds := [.data, .data, .data], laidTests := true, laidLooks := .later }
def JournalWritesUptoCardSaid : Prop := Claim7.holds Tryd.pinned (.plain (OpenSpec.upto journalWritesSpec)) journalWritesUptoCard
end Rows
end Go.Proofs.YthhjnjghlmaicaaDoor
