/-
  DERIVED. GIVEN WITH THE SEED: THE CARDS: each row of YthpdlidbaojlbaaGreatDoorRows.lean that lists a variable, with what it lists TIED to the program's text (the seventh form; the later family's looks); each row that meets fmt, with fmt's text TOLD by the authors' own Lean function (tested against real Go, not proved from fmt's source: count such statements apart). THE CARD IS WHAT COUNTS. Prove the row's statement (the work); the ties are given (YthpdlidbaojlbaaGreatDoorTie.lean); close each card by the builder's one call (the guide's Derived/Test/ToyasCard.lean, 'card_holds'). Laid BY PROGRAM, IN A SANDBOX (cutbox-door.mjs). By AI agents, Wed Nov 11 2026. No macro, syntax, notation, axiom, sorry.
-/
import Derived.Test.YthpdlidbaojlbaaGreatDoorRows
import GoSem.ClaimSeven
namespace Go.Proofs.YthpdlidbaojlbaaGreatDoor
namespace Rows

/-- THE TIED CARD OF 'pantrylaw28.JournalRewrites'. -/
def journalRewritesCard : Claim7 := { stood := { row := journalRewritesRow, standIns := [], harness := (true, "8d8c78a33672cf0bd1e8ef037b8986c381ef9054226bd0c03ed69536a186675c"), looks := true }, kinds := [], alts := [], laidByText := true, laidKinds := [.data, .data, .widerDeep, .widerDeep, .data, .data, .data, .data, .data, .data, .sentinel, .sentinel, .pinned, .pinned, .pinned], laidTests := true, laidLooks := .later }
def JournalRewritesCardSaid : Prop := Claim7.holds Tryz.pinned (.plain (OpenSpec.ofChange journalRewritesSpec)) journalRewritesCard

/-- THE SECOND FORM's CARD OF 'pantrylaw28.JournalRewrites'. -/
def journalRewritesUptoCard : Claim7 := { stood := { row := journalRewritesUptoRow, standIns := [], harness := (true, "8d8c78a33672cf0bd1e8ef037b8986c381ef9054226bd0c03ed69536a186675c"), looks := true }, kinds := [], alts := [], laidByText := true, laidKinds := [.data, .data, .widerDeep, .widerDeep, .data, .data, .data, .data, .data, .data, .sentinel, .sentinel, .pinned, .pinned, .pinned], laidTests := true, laidLooks := .later }
def JournalRewritesUptoCardSaid : Prop := Claim7.holds Tryz.pinned (.plain (OpenSpec.upto journalRewritesSpec)) journalRewritesUptoCard
end Rows
end Go.Proofs.YthpdlidbaojlbaaGreatDoor
