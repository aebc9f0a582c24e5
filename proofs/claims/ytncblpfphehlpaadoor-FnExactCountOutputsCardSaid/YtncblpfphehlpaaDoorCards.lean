/-
  DERIVED. GIVEN WITH THE SEED: THE CARDS: each row of YtncblpfphehlpaaDoorRows.lean that lists a variable, with what it lists TIED to the program's text (the seventh form; the later family's looks); each row that meets fmt, with fmt's text TOLD by the authors' own Lean function (tested against real Go, not proved from fmt's source: count such statements apart). THE CARD IS WHAT COUNTS. Prove the row's statement (the work); the ties are given (YtncblpfphehlpaaDoorTie.lean); close each card by the builder's one call (the guide's Derived/Test/ToyasCard.lean, 'card_holds'). Laid BY PROGRAM, IN A SANDBOX (cutbox-door.mjs). By AI agents, Wed Nov 11 2026. No macro, syntax, notation, axiom, sorry.
-/
import Derived.Test.YtncblpfphehlpaaDoorRows
import GoSem.ClaimSeven
namespace Go.Proofs.YtncblpfphehlpaaDoor
namespace Rows

/-- THE TIED CARD OF 'laws.FnExactCountOutputs'. -/
def fnExactCountOutputsCard : Claim7 := { stood := { row := fnExactCountOutputsRow, standIns := [], harness := (true, "118bd5ae99fa59612e03056629a054e3de35413c4af4be74fa659f356d98e317"), looks := true }, kinds := [], alts := [], laidByText := true, laidKinds := [.data, .pinned], laidTests := true, laidLooks := .later }
def FnExactCountOutputsCardSaid : Prop := Claim7.holds Tryd.pinned (.plain (OpenSpec.ofChange fnExactCountOutputsSpec)) fnExactCountOutputsCard

/-- THE TIED CARD OF 'laws.FnExactReadBits'. -/
def fnExactReadBitsCard : Claim7 := { stood := { row := fnExactReadBitsRow, standIns := [], harness := (true, "118bd5ae99fa59612e03056629a054e3de35413c4af4be74fa659f356d98e317"), looks := true }, kinds := [], alts := [], laidByText := true, laidKinds := [.data, .pinned], laidTests := true, laidLooks := .later }
def FnExactReadBitsCardSaid : Prop := Claim7.holds Tryd.pinned (.plain (OpenSpec.ofChange fnExactReadBitsSpec)) fnExactReadBitsCard

/-- THE TIED CARD OF 'laws.FnExactJournalOf'. -/
def fnExactJournalOfCard : Claim7 := { stood := { row := fnExactJournalOfRow, standIns := [], harness := (true, "118bd5ae99fa59612e03056629a054e3de35413c4af4be74fa659f356d98e317"), looks := true }, kinds := [], alts := [], laidByText := true, laidKinds := [.data, .data, .data], laidTests := true, laidLooks := .later }
def FnExactJournalOfCardSaid : Prop := Claim7.holds Tryd.pinned (.plain (OpenSpec.ofChange fnExactJournalOfSpec)) fnExactJournalOfCard

/-- THE TIED CARD OF 'laws.FnExactRecoverJournal'. -/
def fnExactRecoverJournalCard : Claim7 := { stood := { row := fnExactRecoverJournalRow, standIns := [], harness := (true, "118bd5ae99fa59612e03056629a054e3de35413c4af4be74fa659f356d98e317"), looks := true }, kinds := [], alts := [], laidByText := true, laidKinds := [.data, .data, .data], laidTests := true, laidLooks := .later }
def FnExactRecoverJournalCardSaid : Prop := Claim7.holds Tryd.pinned (.plain (OpenSpec.ofChange fnExactRecoverJournalSpec)) fnExactRecoverJournalCard

/-- THE TIED CARD OF 'laws.FnExactCodedText'. -/
def fnExactCodedTextCard : Claim7 := { stood := { row := fnExactCodedTextRow, standIns := [], harness := (true, "118bd5ae99fa59612e03056629a054e3de35413c4af4be74fa659f356d98e317"), looks := true }, kinds := [], alts := [], laidByText := true, laidKinds := [.data, .data, .data], laidTests := true, laidLooks := .later }
def FnExactCodedTextCardSaid : Prop := Claim7.holds Tryd.pinned (.plain (OpenSpec.ofChange fnExactCodedTextSpec)) fnExactCodedTextCard

/-- THE TIED CARD OF 'laws.FnExactReadCoded'. -/
def fnExactReadCodedCard : Claim7 := { stood := { row := fnExactReadCodedRow, standIns := [], harness := (true, "118bd5ae99fa59612e03056629a054e3de35413c4af4be74fa659f356d98e317"), looks := true }, kinds := [], alts := [], laidByText := true, laidKinds := [.data, .data, .data, .data, .sentinel, .sentinel, .pinned], laidTests := true, laidLooks := .later }
def FnExactReadCodedCardSaid : Prop := Claim7.holds Tryd.pinned (.plain (OpenSpec.ofChange fnExactReadCodedSpec)) fnExactReadCodedCard

/-- THE SECOND FORM's CARD OF 'laws.FnExactCountOutputs'. -/
def fnExactCountOutputsUptoCard : Claim7 := { stood := { row := fnExactCountOutputsUptoRow, standIns := [], harness := (true, "118bd5ae99fa59612e03056629a054e3de35413c4af4be74fa659f356d98e317"), looks := true }, kinds := [], alts := [], laidByText := true, laidKinds := [.data, .pinned], laidTests := true, laidLooks := .later }
def FnExactCountOutputsUptoCardSaid : Prop := Claim7.holds Tryd.pinned (.plain (OpenSpec.upto fnExactCountOutputsSpec)) fnExactCountOutputsUptoCard

/-- THE SECOND FORM's CARD OF 'laws.FnExactReadBits'. -/
def fnExactReadBitsUptoCard : Claim7 := { stood := { row := fnExactReadBitsUptoRow, standIns := [], harness := (true, "118bd5ae99fa59612e03056629a054e3de35413c4af4be74fa659f356d98e317"), looks := true }, kinds := [], alts := [], laidByText := true, laidKinds := [.data, .pinned], laidTests := true, laidLooks := .later }
def FnExactReadBitsUptoCardSaid : Prop := Claim7.holds Tryd.pinned (.plain (OpenSpec.upto fnExactReadBitsSpec)) fnExactReadBitsUptoCard

/-- THE SECOND FORM's CARD OF 'laws.FnExactJournalOf'. -/
def fnExactJournalOfUptoCard : Claim7 := { stood := { row := fnExactJournalOfUptoRow, standIns := [], harness := (true, "118bd5ae99fa59612e03056629a054e3de35413c4af4be74fa659f356d98e317"), looks := true }, kinds := [], alts := [], laidByText := true, laidKinds := [.data, .data, .data], laidTests := true, laidLooks := .later }
def FnExactJournalOfUptoCardSaid : Prop := Claim7.holds Tryd.pinned (.plain (OpenSpec.upto fnExactJournalOfSpec)) fnExactJournalOfUptoCard

/-- THE SECOND FORM's CARD OF 'laws.FnExactRecoverJournal'. -/
def fnExactRecoverJournalUptoCard : Claim7 := { stood := { row := fnExactRecoverJournalUptoRow, standIns := [], harness := (true, "118bd5ae99fa59612e03056629a054e3de35413c4af4be74fa659f356d98e317"), looks := true }, kinds := [], alts := [], laidByText := true, laidKinds := [.data, .data, .data], laidTests := true, laidLooks := .later }
def FnExactRecoverJournalUptoCardSaid : Prop := Claim7.holds Tryd.pinned (.plain (OpenSpec.upto fnExactRecoverJournalSpec)) fnExactRecoverJournalUptoCard

/-- THE SECOND FORM's CARD OF 'laws.FnExactCodedText'. -/
def fnExactCodedTextUptoCard : Claim7 := { stood := { row := fnExactCodedTextUptoRow, standIns := [], harness := (true, "118bd5ae99fa59612e03056629a054e3de35413c4af4be74fa659f356d98e317"), looks := true }, kinds := [], alts := [], laidByText := true, laidKinds := [.data, .data, .data], laidTests := true, laidLooks := .later }
def FnExactCodedTextUptoCardSaid : Prop := Claim7.holds Tryd.pinned (.plain (OpenSpec.upto fnExactCodedTextSpec)) fnExactCodedTextUptoCard

/-- THE SECOND FORM's CARD OF 'laws.FnExactReadCoded'. -/
def fnExactReadCodedUptoCard : Claim7 := { stood := { row := fnExactReadCodedUptoRow, standIns := [], harness := (true, "118bd5ae99fa59612e03056629a054e3de35413c4af4be74fa659f356d98e317"), looks := true }, kinds := [], alts := [], laidByText := true, laidKinds := [.data, .data, .data, .data, .sentinel, .sentinel, .pinned], laidTests := true, laidLooks := .later }
def FnExactReadCodedUptoCardSaid : Prop := Claim7.holds Tryd.pinned (.plain (OpenSpec.upto fnExactReadCodedSpec)) fnExactReadCodedUptoCard
end Rows
end Go.Proofs.YtncblpfphehlpaaDoor
