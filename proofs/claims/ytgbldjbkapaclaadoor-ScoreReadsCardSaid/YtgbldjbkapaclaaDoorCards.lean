/-
  DERIVED. GIVEN WITH THE SEED: THE CARDS: each row of YtgbldjbkapaclaaDoorRows.lean that lists a variable, with what it lists TIED to the program's text (the seventh form; the later family's looks); each row that meets fmt, with fmt's text TOLD by the authors' own Lean function (tested against real Go, not proved from fmt's source: count such statements apart). THE CARD IS WHAT COUNTS. Prove the row's statement (the work); the ties are given (YtgbldjbkapaclaaDoorTie.lean); close each card by the builder's one call (the guide's Derived/Test/ToyasCard.lean, 'card_holds'). Laid BY PROGRAM, IN A SANDBOX (cutbox-door.mjs). By AI agents, Wed Nov 11 2026. No macro, syntax, notation, axiom, sorry.
-/
import Derived.Test.YtgbldjbkapaclaaDoorRows
import GoSem.ClaimSeven
namespace Go.Proofs.YtgbldjbkapaclaaDoor
namespace Rows

/-- THE TIED CARD OF 'pantrylaw02.ScoreReads'. -/
def scoreReadsCard : Claim7 := { stood := { row := scoreReadsRow, standIns := [], harness := (true, "934014f86c512c2ded2b74bfdf2ce03f2614652f7a715490ed288b6075c4702d"), looks := true }, kinds := [], alts := [], laidByText := true, laidKinds := [.data, .data, .widerDeep, .widerDeep, .data, .data, .data, .data, .data, .data, .sentinel, .sentinel, .data, .data, .pinned, .pinned, .pinned, .pinned], laidTests := true, laidLooks := .later }
def ScoreReadsCardSaid : Prop := Claim7.holds Tryd.pinned (.plain (OpenSpec.ofChange scoreReadsSpec)) scoreReadsCard

/-- THE SECOND FORM's CARD OF 'pantrylaw02.ScoreReads'. -/
def scoreReadsUptoCard : Claim7 := { stood := { row := scoreReadsUptoRow, standIns := [], harness := (true, "934014f86c512c2ded2b74bfdf2ce03f2614652f7a715490ed288b6075c4702d"), looks := true }, kinds := [], alts := [], laidByText := true, laidKinds := [.data, .data, .widerDeep, .widerDeep, .data, .data, .data, .data, .data, .data, .sentinel, .sentinel, .data, .data, .pinned, .pinned, .pinned, .pinned], laidTests := true, laidLooks := .later }
def ScoreReadsUptoCardSaid : Prop := Claim7.holds Tryd.pinned (.plain (OpenSpec.upto scoreReadsSpec)) scoreReadsUptoCard
end Rows
end Go.Proofs.YtgbldjbkapaclaaDoor
