/-
  DERIVED. GIVEN WITH THE SEED: THE CARDS: each row of YtcgiboeilcdonaaDoorRows.lean that lists a variable, with what it lists TIED to the program's text (the seventh form; the later family's looks); each row that meets fmt, with fmt's text TOLD by the authors' own Lean function (tested against real Go, not proved from fmt's source: count such statements apart). THE CARD IS WHAT COUNTS. Prove the row's statement (the work); the ties are given (YtcgiboeilcdonaaDoorTie.lean); close each card by the builder's one call (the guide's Derived/Test/ToyasCard.lean, 'card_holds'). Laid BY PROGRAM, IN A SANDBOX (cutbox-door.mjs). By AI agents, Wed Nov 11 2026. No macro, syntax, notation, axiom, sorry.
-/
import Derived.Test.YtcgiboeilcdonaaDoorRows
import GoSem.ClaimSeven
namespace Go.Proofs.YtcgiboeilcdonaaDoor
namespace Rows

/-- THE TIED CARD OF 'laws.FnExactReadBits'. -/
def fnExactReadBitsCard : Claim7 := { stood := { row := fnExactReadBitsRow, standIns := [], harness := (true, "227ca013c287ddb2b4a28431ceb122efac7ae9fedfefd5220ef0a427f3e95340"), looks := true }, kinds := [], alts := [], laidByText := true, laidKinds := [.data, .pinned], laidTests := true, laidLooks := .later }
def FnExactReadBitsCardSaid : Prop := Claim7.holds Tryd.pinned (.plain (OpenSpec.ofChange fnExactReadBitsSpec)) fnExactReadBitsCard

/-- THE TIED CARD OF 'laws.FnExactJournalOf'. -/
def fnExactJournalOfCard : Claim7 := { stood := { row := fnExactJournalOfRow, standIns := [], harness := (true, "227ca013c287ddb2b4a28431ceb122efac7ae9fedfefd5220ef0a427f3e95340"), looks := true }, kinds := [], alts := [], laidByText := true, laidKinds := [.data, .data, .data], laidTests := true, laidLooks := .later }
def FnExactJournalOfCardSaid : Prop := Claim7.holds Tryd.pinned (.plain (OpenSpec.ofChange fnExactJournalOfSpec)) fnExactJournalOfCard

/-- THE TIED CARD OF 'laws.FnExactRecoverJournal'. -/
def fnExactRecoverJournalCard : Claim7 := { stood := { row := fnExactRecoverJournalRow, standIns := [], harness := (true, "227ca013c287ddb2b4a28431ceb122efac7ae9fedfefd5220ef0a427f3e95340"), looks := true }, kinds := [], alts := [], laidByText := true, laidKinds := [.data, .data, .data], laidTests := true, laidLooks := .later }
def FnExactRecoverJournalCardSaid : Prop := Claim7.holds Tryd.pinned (.plain (OpenSpec.ofChange fnExactRecoverJournalSpec)) fnExactRecoverJournalCard

/-- THE TIED CARD OF 'laws.FnExactCodedText'. -/
def fnExactCodedTextCard : Claim7 := { stood := { row := fnExactCodedTextRow, standIns := [], harness := (true, "227ca013c287ddb2b4a28431ceb122efac7ae9fedfefd5220ef0a427f3e95340"), looks := true }, kinds := [], alts := [], laidByText := true, laidKinds := [.data, .data, .data], laidTests := true, laidLooks := .later }
def FnExactCodedTextCardSaid : Prop := Claim7.holds Tryd.pinned (.plain (OpenSpec.ofChange fnExactCodedTextSpec)) fnExactCodedTextCard

/-- THE TIED CARD OF 'laws.FnExactReadCoded'. -/
def fnExactReadCodedCard : Claim7 := { stood := { row := fnExactReadCodedRow, standIns := [], harness := (true, "227ca013c287ddb2b4a28431ceb122efac7ae9fedfefd5220ef0a427f3e95340"), looks := true }, kinds := [], alts := [], laidByText := true, laidKinds := [.data, .data, .data, .data, .sentinel, .sentinel, .pinned], laidTests := true, laidLooks := .later }
def FnExactReadCodedCardSaid : Prop := Claim7.holds Tryd.pinned (.plain (OpenSpec.ofChange fnExactReadCodedSpec)) fnExactReadCodedCard

/-- THE TIED CARD OF 'laws.FnExactSchemeText'. -/
def fnExactSchemeTextCard : Claim7 := { stood := { row := fnExactSchemeTextRow, standIns := [], harness := (true, "227ca013c287ddb2b4a28431ceb122efac7ae9fedfefd5220ef0a427f3e95340"), looks := true }, kinds := [], alts := [], laidByText := true, laidKinds := [.data, .data, .data], laidTests := true, laidLooks := .later }
def FnExactSchemeTextCardSaid : Prop := Claim7.holds Tryd.pinned (.plain (OpenSpec.ofChange fnExactSchemeTextSpec)) fnExactSchemeTextCard

/-- THE TIED CARD OF 'laws.FnExactPictureText'. -/
def fnExactPictureTextCard : Claim7 := { stood := { row := fnExactPictureTextRow, standIns := [], harness := (true, "227ca013c287ddb2b4a28431ceb122efac7ae9fedfefd5220ef0a427f3e95340"), looks := true }, kinds := [], alts := [], laidByText := true, laidKinds := [.data, .data, .data], laidTests := true, laidLooks := .later }
def FnExactPictureTextCardSaid : Prop := Claim7.holds Tryd.pinned (.plain (OpenSpec.ofChange fnExactPictureTextSpec)) fnExactPictureTextCard

/-- THE TIED CARD OF 'laws.FnExactReadScheme'. -/
def fnExactReadSchemeCard : Claim7 := { stood := { row := fnExactReadSchemeRow, standIns := [], harness := (true, "227ca013c287ddb2b4a28431ceb122efac7ae9fedfefd5220ef0a427f3e95340"), looks := true }, kinds := [], alts := [], laidByText := true, laidKinds := [.data, .data, .data, .data, .sentinel, .sentinel, .pinned], laidTests := true, laidLooks := .later }
def FnExactReadSchemeCardSaid : Prop := Claim7.holds Tryd.pinned (.plain (OpenSpec.ofChange fnExactReadSchemeSpec)) fnExactReadSchemeCard

/-- THE SECOND FORM's CARD OF 'laws.FnExactReadBits'. -/
def fnExactReadBitsUptoCard : Claim7 := { stood := { row := fnExactReadBitsUptoRow, standIns := [], harness := (true, "227ca013c287ddb2b4a28431ceb122efac7ae9fedfefd5220ef0a427f3e95340"), looks := true }, kinds := [], alts := [], laidByText := true, laidKinds := [.data, .pinned], laidTests := true, laidLooks := .later }
def FnExactReadBitsUptoCardSaid : Prop := Claim7.holds Tryd.pinned (.plain (OpenSpec.upto fnExactReadBitsSpec)) fnExactReadBitsUptoCard

/-- THE SECOND FORM's CARD OF 'laws.FnExactJournalOf'. -/
def fnExactJournalOfUptoCard : Claim7 := { stood := { row := fnExactJournalOfUptoRow, standIns := [], harness := (true, "227ca013c287ddb2b4a28431ceb122efac7ae9fedfefd5220ef0a427f3e95340"), looks := true }, kinds := [], alts := [], laidByText := true, laidKinds := [.data, .data, .data], laidTests := true, laidLooks := .later }
def FnExactJournalOfUptoCardSaid : Prop := Claim7.holds Tryd.pinned (.plain (OpenSpec.upto fnExactJournalOfSpec)) fnExactJournalOfUptoCard

/-- THE SECOND FORM's CARD OF 'laws.FnExactRecoverJournal'. -/
def fnExactRecoverJournalUptoCard : Claim7 := { stood := { row := fnExactRecoverJournalUptoRow, standIns := [], harness := (true, "227ca013c287ddb2b4a28431ceb122efac7ae9fedfefd5220ef0a427f3e95340"), looks := true }, kinds := [], alts := [], laidByText := true, laidKinds := [.data, .data, .data], laidTests := true, laidLooks := .later }
def FnExactRecoverJournalUptoCardSaid : Prop := Claim7.holds Tryd.pinned (.plain (OpenSpec.upto fnExactRecoverJournalSpec)) fnExactRecoverJournalUptoCard

/-- THE SECOND FORM's CARD OF 'laws.FnExactCodedText'. -/
def fnExactCodedTextUptoCard : Claim7 := { stood := { row := fnExactCodedTextUptoRow, standIns := [], harness := (true, "227ca013c287ddb2b4a28431ceb122efac7ae9fedfefd5220ef0a427f3e95340"), looks := true }, kinds := [], alts := [], laidByText := true, laidKinds := [.data, .data, .data], laidTests := true, laidLooks := .later }
def FnExactCodedTextUptoCardSaid : Prop := Claim7.holds Tryd.pinned (.plain (OpenSpec.upto fnExactCodedTextSpec)) fnExactCodedTextUptoCard

/-- THE SECOND FORM's CARD OF 'laws.FnExactReadCoded'. -/
def fnExactReadCodedUptoCard : Claim7 := { stood := { row := fnExactReadCodedUptoRow, standIns := [], harness := (true, "227ca013c287ddb2b4a28431ceb122efac7ae9fedfefd5220ef0a427f3e95340"), looks := true }, kinds := [], alts := [], laidByText := true, laidKinds := [.data, .data, .data, .data, .sentinel, .sentinel, .pinned], laidTests := true, laidLooks := .later }
def FnExactReadCodedUptoCardSaid : Prop := Claim7.holds Tryd.pinned (.plain (OpenSpec.upto fnExactReadCodedSpec)) fnExactReadCodedUptoCard

/-- THE SECOND FORM's CARD OF 'laws.FnExactSchemeText'. -/
def fnExactSchemeTextUptoCard : Claim7 := { stood := { row := fnExactSchemeTextUptoRow, standIns := [], harness := (true, "227ca013c287ddb2b4a28431ceb122efac7ae9fedfefd5220ef0a427f3e95340"), looks := true }, kinds := [], alts := [], laidByText := true, laidKinds := [.data, .data, .data], laidTests := true, laidLooks := .later }
def FnExactSchemeTextUptoCardSaid : Prop := Claim7.holds Tryd.pinned (.plain (OpenSpec.upto fnExactSchemeTextSpec)) fnExactSchemeTextUptoCard

/-- THE SECOND FORM's CARD OF 'laws.FnExactPictureText'. -/
def fnExactPictureTextUptoCard : Claim7 := { stood := { row := fnExactPictureTextUptoRow, standIns := [], harness := (true, "227ca013c287ddb2b4a28431ceb122efac7ae9fedfefd5220ef0a427f3e95340"), looks := true }, kinds := [], alts := [], laidByText := true, laidKinds := [.data, .data, .data], laidTests := true, laidLooks := .later }
def FnExactPictureTextUptoCardSaid : Prop := Claim7.holds Tryd.pinned (.plain (OpenSpec.upto fnExactPictureTextSpec)) fnExactPictureTextUptoCard

/-- THE SECOND FORM's CARD OF 'laws.FnExactReadScheme'. -/
def fnExactReadSchemeUptoCard : Claim7 := { stood := { row := fnExactReadSchemeUptoRow, standIns := [], harness := (true, "227ca013c287ddb2b4a28431ceb122efac7ae9fedfefd5220ef0a427f3e95340"), looks := true }, kinds := [], alts := [], laidByText := true, laidKinds := [.data, .data, .data, .data, .sentinel, .sentinel, .pinned], laidTests := true, laidLooks := .later }
def FnExactReadSchemeUptoCardSaid : Prop := Claim7.holds Tryd.pinned (.plain (OpenSpec.upto fnExactReadSchemeSpec)) fnExactReadSchemeUptoCard
end Rows
end Go.Proofs.YtcgiboeilcdonaaDoor
