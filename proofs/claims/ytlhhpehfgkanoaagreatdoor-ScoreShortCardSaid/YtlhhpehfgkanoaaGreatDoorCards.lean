/-
  DERIVED. GIVEN WITH THE SEED: THE CARDS: each row of YtlhhpehfgkanoaaGreatDoorRows.lean that lists a variable, with what it lists TIED to the program's text (the seventh form; the later family's looks); each row that meets fmt, with fmt's text TOLD by the authors' own Lean function (tested against real Go, not proved from fmt's source: count such statements apart). THE CARD IS WHAT COUNTS. Prove the row's statement (the work); the ties are given (YtlhhpehfgkanoaaGreatDoorTie.lean); close each card by the builder's one call (the guide's Derived/Test/ToyasCard.lean, 'card_holds'). Laid BY PROGRAM, IN A SANDBOX (cutbox-door.mjs). By AI agents, Wed Nov 11 2026. No macro, syntax, notation, axiom, sorry.
-/
import Derived.Test.YtlhhpehfgkanoaaGreatDoorRows
import GoSem.ClaimSeven
namespace Go.Proofs.YtlhhpehfgkanoaaGreatDoor
namespace Rows

/-- THE TIED CARD OF 'pantrylaw02.ScoreTells'. -/
def scoreTellsCard : Claim7 := { stood := { row := scoreTellsRow, standIns := [], harness := (true, "57125b170f11272adc60f5d815a178fce2c2633901f0ccb14a3bd9f4fe9a2cda"), looks := true }, kinds := [], alts := [], laidByText := true, laidKinds := [.data, .data, .widerDeep, .widerDeep, .data, .data, .data, .data, .data, .data, .sentinel, .sentinel, .pinned, .pinned, .pinned], laidTests := true, laidLooks := .later }
def ScoreTellsCardSaid : Prop := Claim7.holds Tryz.pinned (.plain (OpenSpec.ofChange scoreTellsSpec)) scoreTellsCard

/-- THE TIED CARD OF 'pantrylaw02.ScoreBack'. -/
def scoreBackCard : Claim7 := { stood := { row := scoreBackRow, standIns := [], harness := (true, "57125b170f11272adc60f5d815a178fce2c2633901f0ccb14a3bd9f4fe9a2cda"), looks := true }, kinds := [], alts := [], laidByText := true, laidKinds := [.data, .data, .widerDeep, .widerDeep, .data, .data, .data, .data, .data, .data, .sentinel, .sentinel, .data, .data, .pinned, .pinned, .pinned, .pinned], laidTests := true, laidLooks := .later }
def ScoreBackCardSaid : Prop := Claim7.holds Tryz.pinned (.plain (OpenSpec.ofChange scoreBackSpec)) scoreBackCard

/-- THE TIED CARD OF 'pantrylaw02.ScoreRises'. -/
def scoreRisesCard : Claim7 := { stood := { row := scoreRisesRow, standIns := [], harness := (true, "57125b170f11272adc60f5d815a178fce2c2633901f0ccb14a3bd9f4fe9a2cda"), looks := true }, kinds := [], alts := [], laidByText := true, laidKinds := [.data, .data, .widerDeep, .widerDeep, .data, .data, .data, .data, .data, .data, .sentinel, .sentinel, .data, .data, .pinned, .pinned, .pinned, .pinned], laidTests := true, laidLooks := .later }
def ScoreRisesCardSaid : Prop := Claim7.holds Tryz.pinned (.plain (OpenSpec.ofChange scoreRisesSpec)) scoreRisesCard

/-- THE TIED CARD OF 'pantrylaw02.ScoreWholes'. -/
def scoreWholesCard : Claim7 := { stood := { row := scoreWholesRow, standIns := [], harness := (true, "57125b170f11272adc60f5d815a178fce2c2633901f0ccb14a3bd9f4fe9a2cda"), looks := true }, kinds := [], alts := [], laidByText := true, laidKinds := [.data, .data, .widerDeep, .widerDeep, .data, .data, .data, .data, .data, .data, .sentinel, .sentinel, .data, .data, .pinned, .pinned, .pinned, .pinned], laidTests := true, laidLooks := .later }
def ScoreWholesCardSaid : Prop := Claim7.holds Tryz.pinned (.plain (OpenSpec.ofChange scoreWholesSpec)) scoreWholesCard

/-- THE TIED CARD OF 'pantrylaw02.ScoreShort'. -/
def scoreShortCard : Claim7 := { stood := { row := scoreShortRow, standIns := [], harness := (true, "57125b170f11272adc60f5d815a178fce2c2633901f0ccb14a3bd9f4fe9a2cda"), looks := true }, kinds := [], alts := [], laidByText := true, laidKinds := [.data, .data, .widerDeep, .widerDeep, .data, .data, .data, .data, .data, .data, .sentinel, .sentinel, .data, .data, .pinned, .pinned, .pinned, .pinned], laidTests := true, laidLooks := .later }
def ScoreShortCardSaid : Prop := Claim7.holds Tryz.pinned (.plain (OpenSpec.ofChange scoreShortSpec)) scoreShortCard

/-- THE TIED CARD OF 'pantrylaw02.ScoreKnown'. -/
def scoreKnownCard : Claim7 := { stood := { row := scoreKnownRow, standIns := [], harness := (true, "57125b170f11272adc60f5d815a178fce2c2633901f0ccb14a3bd9f4fe9a2cda"), looks := true }, kinds := [], alts := [], laidByText := true, laidKinds := [.data, .data, .widerDeep, .widerDeep, .data, .data, .data, .data, .data, .data, .sentinel, .sentinel, .data, .data, .pinned, .pinned, .pinned, .pinned], laidTests := true, laidLooks := .later }
def ScoreKnownCardSaid : Prop := Claim7.holds Tryz.pinned (.plain (OpenSpec.ofChange scoreKnownSpec)) scoreKnownCard

/-- THE SECOND FORM's CARD OF 'pantrylaw02.ScoreTells'. -/
def scoreTellsUptoCard : Claim7 := { stood := { row := scoreTellsUptoRow, standIns := [], harness := (true, "57125b170f11272adc60f5d815a178fce2c2633901f0ccb14a3bd9f4fe9a2cda"), looks := true }, kinds := [], alts := [], laidByText := true, laidKinds := [.data, .data, .widerDeep, .widerDeep, .data, .data, .data, .data, .data, .data, .sentinel, .sentinel, .pinned, .pinned, .pinned], laidTests := true, laidLooks := .later }
def ScoreTellsUptoCardSaid : Prop := Claim7.holds Tryz.pinned (.plain (OpenSpec.upto scoreTellsSpec)) scoreTellsUptoCard

/-- THE SECOND FORM's CARD OF 'pantrylaw02.ScoreBack'. -/
def scoreBackUptoCard : Claim7 := { stood := { row := scoreBackUptoRow, standIns := [], harness := (true, "57125b170f11272adc60f5d815a178fce2c2633901f0ccb14a3bd9f4fe9a2cda"), looks := true }, kinds := [], alts := [], laidByText := true, laidKinds := [.data, .data, .widerDeep, .widerDeep, .data, .data, .data, .data, .data, .data, .sentinel, .sentinel, .data, .data, .pinned, .pinned, .pinned, .pinned], laidTests := true, laidLooks := .later }
def ScoreBackUptoCardSaid : Prop := Claim7.holds Tryz.pinned (.plain (OpenSpec.upto scoreBackSpec)) scoreBackUptoCard

/-- THE SECOND FORM's CARD OF 'pantrylaw02.ScoreRises'. -/
def scoreRisesUptoCard : Claim7 := { stood := { row := scoreRisesUptoRow, standIns := [], harness := (true, "57125b170f11272adc60f5d815a178fce2c2633901f0ccb14a3bd9f4fe9a2cda"), looks := true }, kinds := [], alts := [], laidByText := true, laidKinds := [.data, .data, .widerDeep, .widerDeep, .data, .data, .data, .data, .data, .data, .sentinel, .sentinel, .data, .data, .pinned, .pinned, .pinned, .pinned], laidTests := true, laidLooks := .later }
def ScoreRisesUptoCardSaid : Prop := Claim7.holds Tryz.pinned (.plain (OpenSpec.upto scoreRisesSpec)) scoreRisesUptoCard

/-- THE SECOND FORM's CARD OF 'pantrylaw02.ScoreWholes'. -/
def scoreWholesUptoCard : Claim7 := { stood := { row := scoreWholesUptoRow, standIns := [], harness := (true, "57125b170f11272adc60f5d815a178fce2c2633901f0ccb14a3bd9f4fe9a2cda"), looks := true }, kinds := [], alts := [], laidByText := true, laidKinds := [.data, .data, .widerDeep, .widerDeep, .data, .data, .data, .data, .data, .data, .sentinel, .sentinel, .data, .data, .pinned, .pinned, .pinned, .pinned], laidTests := true, laidLooks := .later }
def ScoreWholesUptoCardSaid : Prop := Claim7.holds Tryz.pinned (.plain (OpenSpec.upto scoreWholesSpec)) scoreWholesUptoCard

/-- THE SECOND FORM's CARD OF 'pantrylaw02.ScoreShort'. -/
def scoreShortUptoCard : Claim7 := { stood := { row := scoreShortUptoRow, standIns := [], harness := (true, "57125b170f11272adc60f5d815a178fce2c2633901f0ccb14a3bd9f4fe9a2cda"), looks := true }, kinds := [], alts := [], laidByText := true, laidKinds := [.data, .data, .widerDeep, .widerDeep, .data, .data, .data, .data, .data, .data, .sentinel, .sentinel, .data, .data, .pinned, .pinned, .pinned, .pinned], laidTests := true, laidLooks := .later }
def ScoreShortUptoCardSaid : Prop := Claim7.holds Tryz.pinned (.plain (OpenSpec.upto scoreShortSpec)) scoreShortUptoCard

/-- THE SECOND FORM's CARD OF 'pantrylaw02.ScoreKnown'. -/
def scoreKnownUptoCard : Claim7 := { stood := { row := scoreKnownUptoRow, standIns := [], harness := (true, "57125b170f11272adc60f5d815a178fce2c2633901f0ccb14a3bd9f4fe9a2cda"), looks := true }, kinds := [], alts := [], laidByText := true, laidKinds := [.data, .data, .widerDeep, .widerDeep, .data, .data, .data, .data, .data, .data, .sentinel, .sentinel, .data, .data, .pinned, .pinned, .pinned, .pinned], laidTests := true, laidLooks := .later }
def ScoreKnownUptoCardSaid : Prop := Claim7.holds Tryz.pinned (.plain (OpenSpec.upto scoreKnownSpec)) scoreKnownUptoCard
end Rows
end Go.Proofs.YtlhhpehfgkanoaaGreatDoor
