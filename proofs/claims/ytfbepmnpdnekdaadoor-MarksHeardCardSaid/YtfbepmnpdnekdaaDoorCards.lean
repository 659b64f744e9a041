/-
  DERIVED. GIVEN WITH THE SEED: THE CARDS: each row of YtfbepmnpdnekdaaDoorRows.lean that lists a variable, with what it lists TIED to the program's text (the seventh form; the later family's looks); each row that meets fmt, with fmt's text TOLD by the authors' own Lean function (tested against real Go, not proved from fmt's source: count such statements apart). THE CARD IS WHAT COUNTS. Prove the row's statement (the work); the ties are given (YtfbepmnpdnekdaaDoorTie.lean); close each card by the builder's one call (the guide's Derived/Test/ToyasCard.lean, 'card_holds'). Laid BY PROGRAM, IN A SANDBOX (cutbox-door.mjs). By AI agents, Wed Nov 11 2026. No macro, syntax, notation, axiom, sorry.
-/
import Derived.Test.YtfbepmnpdnekdaaDoorRows
import GoSem.ClaimSeven
namespace Go.Proofs.YtfbepmnpdnekdaaDoor
namespace Rows

/-- THE TIED CARD OF 'pilelaw1.MarksHeard'. -/
def marksHeardCard : Claim7 := { stood := { row := marksHeardRow, standIns := [], harness := (true, "b66f9490f96bc92ecacee5de6dc1cb1b0cabc3d222fc03affd4934b2d8f470ac"), looks := false }, kinds := [], alts := [], laidByText := true, laidKinds := [.data, .listed, .data, .pinned], laidTests := true, laidLooks := .later }
def MarksHeardCardSaid : Prop := Claim7.holds Tryd.pinned (.plain (OpenSpec.ofChange marksHeardSpec)) marksHeardCard

/-- THE TIED CARD OF 'pilelaw1.MarksKeyed'. -/
def marksKeyedCard : Claim7 := { stood := { row := marksKeyedRow, standIns := [], harness := (true, "b66f9490f96bc92ecacee5de6dc1cb1b0cabc3d222fc03affd4934b2d8f470ac"), looks := false }, kinds := [], alts := [], laidByText := true, laidKinds := [.data, .listed, .data, .pinned], laidTests := true, laidLooks := .later }
def MarksKeyedCardSaid : Prop := Claim7.holds Tryd.pinned (.plain (OpenSpec.ofChange marksKeyedSpec)) marksKeyedCard

/-- THE TIED CARD OF 'pilelaw1.SignsCoded'. -/
def signsCodedCard : Claim7 := { stood := { row := signsCodedRow, standIns := [], harness := (true, "b66f9490f96bc92ecacee5de6dc1cb1b0cabc3d222fc03affd4934b2d8f470ac"), looks := false }, kinds := [], alts := [], laidByText := true, laidKinds := [.data, .listed, .data, .pinned], laidTests := true, laidLooks := .later }
def SignsCodedCardSaid : Prop := Claim7.holds Tryd.pinned (.plain (OpenSpec.ofChange signsCodedSpec)) signsCodedCard

/-- THE TIED CARD OF 'pilekeep1.CleanHasNothingShort'. -/
def cleanHasNothingShortCard : Claim7 := { stood := { row := cleanHasNothingShortRow, standIns := [], harness := (true, "b66f9490f96bc92ecacee5de6dc1cb1b0cabc3d222fc03affd4934b2d8f470ac"), looks := false }, kinds := [], alts := [], laidByText := true, laidKinds := [.data, .listed, .data, .pinned], laidTests := true, laidLooks := .later }
def CleanHasNothingShortCardSaid : Prop := Claim7.holds Tryd.pinned (.plain (OpenSpec.ofChange cleanHasNothingShortSpec)) cleanHasNothingShortCard

/-- THE TIED CARD OF 'pilekeep1.HeardIsLeast'. -/
def heardIsLeastCard : Claim7 := { stood := { row := heardIsLeastRow, standIns := [], harness := (true, "b66f9490f96bc92ecacee5de6dc1cb1b0cabc3d222fc03affd4934b2d8f470ac"), looks := false }, kinds := [], alts := [], laidByText := true, laidKinds := [.data, .listed, .data, .pinned], laidTests := true, laidLooks := .later }
def HeardIsLeastCardSaid : Prop := Claim7.holds Tryd.pinned (.plain (OpenSpec.ofChange heardIsLeastSpec)) heardIsLeastCard

/-- THE TIED CARD OF 'pilekeep1.NumbersComeBack'. -/
def numbersComeBackCard : Claim7 := { stood := { row := numbersComeBackRow, standIns := [], harness := (true, "b66f9490f96bc92ecacee5de6dc1cb1b0cabc3d222fc03affd4934b2d8f470ac"), looks := false }, kinds := [], alts := [], laidByText := true, laidKinds := [.data, .data, .data, .data, .listed, .data, .pinned], laidTests := true, laidLooks := .later }
def NumbersComeBackCardSaid : Prop := Claim7.holds Tryd.pinned (.plain (OpenSpec.ofChange numbersComeBackSpec)) numbersComeBackCard

/-- THE SECOND FORM's CARD OF 'pilelaw1.MarksHeard'. -/
def marksHeardUptoCard : Claim7 := { stood := { row := marksHeardUptoRow, standIns := [], harness := (true, "b66f9490f96bc92ecacee5de6dc1cb1b0cabc3d222fc03affd4934b2d8f470ac"), looks := false }, kinds := [], alts := [], laidByText := true, laidKinds := [.data, .listed, .data, .pinned], laidTests := true, laidLooks := .later }
def MarksHeardUptoCardSaid : Prop := Claim7.holds Tryd.pinned (.plain (OpenSpec.upto marksHeardSpec)) marksHeardUptoCard

/-- THE SECOND FORM's CARD OF 'pilelaw1.MarksKeyed'. -/
def marksKeyedUptoCard : Claim7 := { stood := { row := marksKeyedUptoRow, standIns := [], harness := (true, "b66f9490f96bc92ecacee5de6dc1cb1b0cabc3d222fc03affd4934b2d8f470ac"), looks := false }, kinds := [], alts := [], laidByText := true, laidKinds := [.data, .listed, .data, .pinned], laidTests := true, laidLooks := .later }
def MarksKeyedUptoCardSaid : Prop := Claim7.holds Tryd.pinned (.plain (OpenSpec.upto marksKeyedSpec)) marksKeyedUptoCard

/-- THE SECOND FORM's CARD OF 'pilelaw1.SignsCoded'. -/
def signsCodedUptoCard : Claim7 := { stood := { row := signsCodedUptoRow, standIns := [], harness := (true, "b66f9490f96bc92ecacee5de6dc1cb1b0cabc3d222fc03affd4934b2d8f470ac"), looks := false }, kinds := [], alts := [], laidByText := true, laidKinds := [.data, .listed, .data, .pinned], laidTests := true, laidLooks := .later }
def SignsCodedUptoCardSaid : Prop := Claim7.holds Tryd.pinned (.plain (OpenSpec.upto signsCodedSpec)) signsCodedUptoCard

/-- THE SECOND FORM's CARD OF 'pilekeep1.CleanHasNothingShort'. -/
def cleanHasNothingShortUptoCard : Claim7 := { stood := { row := cleanHasNothingShortUptoRow, standIns := [], harness := (true, "b66f9490f96bc92ecacee5de6dc1cb1b0cabc3d222fc03affd4934b2d8f470ac"), looks := false }, kinds := [], alts := [], laidByText := true, laidKinds := [.data, .listed, .data, .pinned], laidTests := true, laidLooks := .later }
def CleanHasNothingShortUptoCardSaid : Prop := Claim7.holds Tryd.pinned (.plain (OpenSpec.upto cleanHasNothingShortSpec)) cleanHasNothingShortUptoCard

/-- THE SECOND FORM's CARD OF 'pilekeep1.HeardIsLeast'. -/
def heardIsLeastUptoCard : Claim7 := { stood := { row := heardIsLeastUptoRow, standIns := [], harness := (true, "b66f9490f96bc92ecacee5de6dc1cb1b0cabc3d222fc03affd4934b2d8f470ac"), looks := false }, kinds := [], alts := [], laidByText := true, laidKinds := [.data, .listed, .data, .pinned], laidTests := true, laidLooks := .later }
def HeardIsLeastUptoCardSaid : Prop := Claim7.holds Tryd.pinned (.plain (OpenSpec.upto heardIsLeastSpec)) heardIsLeastUptoCard

/-- THE SECOND FORM's CARD OF 'pilekeep1.NumbersComeBack'. -/
def numbersComeBackUptoCard : Claim7 := { stood := { row := numbersComeBackUptoRow, standIns := [], harness := (true, "b66f9490f96bc92ecacee5de6dc1cb1b0cabc3d222fc03affd4934b2d8f470ac"), looks := false }, kinds := [], alts := [], laidByText := true, laidKinds := [.data, .data, .data, .data, .listed, .data, .pinned], laidTests := true, laidLooks := .later }
def NumbersComeBackUptoCardSaid : Prop := Claim7.holds Tryd.pinned (.plain (OpenSpec.upto numbersComeBackSpec)) numbersComeBackUptoCard
end Rows
end Go.Proofs.YtfbepmnpdnekdaaDoor
