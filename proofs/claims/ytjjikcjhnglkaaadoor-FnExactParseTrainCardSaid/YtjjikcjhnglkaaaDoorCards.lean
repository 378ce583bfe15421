/-
  DERIVED. GIVEN WITH THE SEED: THE CARDS: each row of YtjjikcjhnglkaaaDoorRows.lean that lists a variable, with what it lists TIED to the program's text (the seventh form; the later family's looks); each row that meets fmt, with fmt's text TOLD by the authors' own Lean function (tested against real Go, not proved from fmt's source: count such statements apart). THE CARD IS WHAT COUNTS. Prove the row's statement (the work); the ties are given (YtjjikcjhnglkaaaDoorTie.lean); close each card by the builder's one call (the guide's Derived/Test/ToyasCard.lean, 'card_holds'). Laid BY PROGRAM, IN A SANDBOX (cutbox-door.mjs). By AI agents, Wed Nov 11 2026. No macro, syntax, notation, axiom, sorry.
-/
import Derived.Test.YtjjikcjhnglkaaaDoorRows
import GoSem.ClaimSeven
namespace Go.Proofs.YtjjikcjhnglkaaaDoor
namespace Rows

/-- THE TIED CARD OF 'laws.FnExactFormatTrain'. -/
def fnExactFormatTrainCard : Claim7 := { stood := { row := fnExactFormatTrainRow, standIns := [], harness := (true, "fcf586ad2d7ed7ad1b7a6de81cfd07d97204e4079bf230df6bb3852b5a0659f5"), looks := false }, kinds := [], alts := [], laidByText := true, laidKinds := [.data, .data, .data], laidTests := true, laidLooks := .later }
def FnExactFormatTrainCardSaid : Prop := Claim7.holds Tryd.pinned (.plain (OpenSpec.ofChange fnExactFormatTrainSpec)) fnExactFormatTrainCard

/-- THE TIED CARD OF 'laws.FnExactParseTrain'. -/
def fnExactParseTrainCard : Claim7 := { stood := { row := fnExactParseTrainRow, standIns := [], harness := (true, "fcf586ad2d7ed7ad1b7a6de81cfd07d97204e4079bf230df6bb3852b5a0659f5"), looks := false }, kinds := [], alts := [], laidByText := true, laidKinds := [.data, .pinned], laidTests := true, laidLooks := .later }
def FnExactParseTrainCardSaid : Prop := Claim7.holds Tryd.pinned (.plain (OpenSpec.ofChange fnExactParseTrainSpec)) fnExactParseTrainCard

/-- THE TIED CARD OF 'laws.FnTrainText'. -/
def fnTrainTextCard : Claim7 := { stood := { row := fnTrainTextRow, standIns := [], harness := (true, "fcf586ad2d7ed7ad1b7a6de81cfd07d97204e4079bf230df6bb3852b5a0659f5"), looks := false }, kinds := [], alts := [], laidByText := true, laidKinds := [.data, .data, .data, .data, .pinned], laidTests := true, laidLooks := .later }
def FnTrainTextCardSaid : Prop := Claim7.holds Tryd.pinned (.plain (OpenSpec.ofChange fnTrainTextSpec)) fnTrainTextCard

/-- THE SECOND FORM's CARD OF 'laws.FnExactFormatTrain'. -/
def fnExactFormatTrainUptoCard : Claim7 := { stood := { row := fnExactFormatTrainUptoRow, standIns := [], harness := (true, "fcf586ad2d7ed7ad1b7a6de81cfd07d97204e4079bf230df6bb3852b5a0659f5"), looks := false }, kinds := [], alts := [], laidByText := true, laidKinds := [.data, .data, .data], laidTests := true, laidLooks := .later }
def FnExactFormatTrainUptoCardSaid : Prop := Claim7.holds Tryd.pinned (.plain (OpenSpec.upto fnExactFormatTrainSpec)) fnExactFormatTrainUptoCard

/-- THE SECOND FORM's CARD OF 'laws.FnExactParseTrain'. -/
def fnExactParseTrainUptoCard : Claim7 := { stood := { row := fnExactParseTrainUptoRow, standIns := [], harness := (true, "fcf586ad2d7ed7ad1b7a6de81cfd07d97204e4079bf230df6bb3852b5a0659f5"), looks := false }, kinds := [], alts := [], laidByText := true, laidKinds := [.data, .pinned], laidTests := true, laidLooks := .later }
def FnExactParseTrainUptoCardSaid : Prop := Claim7.holds Tryd.pinned (.plain (OpenSpec.upto fnExactParseTrainSpec)) fnExactParseTrainUptoCard

/-- THE SECOND FORM's CARD OF 'laws.FnTrainText'. -/
def fnTrainTextUptoCard : Claim7 := { stood := { row := fnTrainTextUptoRow, standIns := [], harness := (true, "fcf586ad2d7ed7ad1b7a6de81cfd07d97204e4079bf230df6bb3852b5a0659f5"), looks := false }, kinds := [], alts := [], laidByText := true, laidKinds := [.data, .data, .data, .data, .pinned], laidTests := true, laidLooks := .later }
def FnTrainTextUptoCardSaid : Prop := Claim7.holds Tryd.pinned (.plain (OpenSpec.upto fnTrainTextSpec)) fnTrainTextUptoCard
end Rows
end Go.Proofs.YtjjikcjhnglkaaaDoor
