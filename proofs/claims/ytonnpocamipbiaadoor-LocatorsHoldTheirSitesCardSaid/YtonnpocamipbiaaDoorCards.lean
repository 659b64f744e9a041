/-
  DERIVED. GIVEN WITH THE SEED: THE CARDS: each row of YtonnpocamipbiaaDoorRows.lean that lists a variable, with what it lists TIED to the program's text (the seventh form; the later family's looks); each row that meets fmt, with fmt's text TOLD by the authors' own Lean function (tested against real Go, not proved from fmt's source: count such statements apart). THE CARD IS WHAT COUNTS. Prove the row's statement (the work); the ties are given (YtonnpocamipbiaaDoorTie.lean); close each card by the builder's one call (the guide's Derived/Test/ToyasCard.lean, 'card_holds'). Laid BY PROGRAM, IN A SANDBOX (cutbox-door.mjs). By AI agents, Wed Nov 11 2026. No macro, syntax, notation, axiom, sorry.
-/
import Derived.Test.YtonnpocamipbiaaDoorRows
import GoSem.ClaimSeven
namespace Go.Proofs.YtonnpocamipbiaaDoor
namespace Rows

/-- THE TIED CARD OF 'pilekeep1.WaysBeginAndEnd'. -/
def waysBeginAndEndCard : Claim7 := { stood := { row := waysBeginAndEndRow, standIns := [], harness := (true, "67293fd1c923f3ff5033b2fe4b94b5bb28d68cd875661b8917e5bfad45d54c72"), looks := false }, kinds := [], alts := [], laidByText := true, laidKinds := [.data, .listed, .data, .pinned], laidTests := true, laidLooks := .later }
def WaysBeginAndEndCardSaid : Prop := Claim7.holds Tryd.pinned (.plain (OpenSpec.ofChange waysBeginAndEndSpec)) waysBeginAndEndCard

/-- THE TIED CARD OF 'pilekeep1.DistancesAreEqual'. -/
def distancesAreEqualCard : Claim7 := { stood := { row := distancesAreEqualRow, standIns := [], harness := (true, "67293fd1c923f3ff5033b2fe4b94b5bb28d68cd875661b8917e5bfad45d54c72"), looks := false }, kinds := [], alts := [], laidByText := true, laidKinds := [.data, .listed, .data, .pinned], laidTests := true, laidLooks := .later }
def DistancesAreEqualCardSaid : Prop := Claim7.holds Tryd.pinned (.plain (OpenSpec.ofChange distancesAreEqualSpec)) distancesAreEqualCard

/-- THE TIED CARD OF 'pilekeep1.LocatorsHoldTheirSites'. -/
def locatorsHoldTheirSitesCard : Claim7 := { stood := { row := locatorsHoldTheirSitesRow, standIns := [], harness := (true, "67293fd1c923f3ff5033b2fe4b94b5bb28d68cd875661b8917e5bfad45d54c72"), looks := false }, kinds := [], alts := [], laidByText := true, laidKinds := [.data, .listed, .data, .pinned], laidTests := true, laidLooks := .later }
def LocatorsHoldTheirSitesCardSaid : Prop := Claim7.holds Tryd.pinned (.plain (OpenSpec.ofChange locatorsHoldTheirSitesSpec)) locatorsHoldTheirSitesCard

/-- THE TIED CARD OF 'pilekeep1.GreyIsNearZero'. -/
def greyIsNearZeroCard : Claim7 := { stood := { row := greyIsNearZeroRow, standIns := [], harness := (true, "67293fd1c923f3ff5033b2fe4b94b5bb28d68cd875661b8917e5bfad45d54c72"), looks := false }, kinds := [], alts := [], laidByText := true, laidKinds := [.data, .listed, .data, .pinned], laidTests := true, laidLooks := .later }
def GreyIsNearZeroCardSaid : Prop := Claim7.holds Tryd.pinned (.plain (OpenSpec.ofChange greyIsNearZeroSpec)) greyIsNearZeroCard

/-- THE SECOND FORM's CARD OF 'pilekeep1.WaysBeginAndEnd'. -/
def waysBeginAndEndUptoCard : Claim7 := { stood := { row := waysBeginAndEndUptoRow, standIns := [], harness := (true, "67293fd1c923f3ff5033b2fe4b94b5bb28d68cd875661b8917e5bfad45d54c72"), looks := false }, kinds := [], alts := [], laidByText := true, laidKinds := [.data, .listed, .data, .pinned], laidTests := true, laidLooks := .later }
def WaysBeginAndEndUptoCardSaid : Prop := Claim7.holds Tryd.pinned (.plain (OpenSpec.upto waysBeginAndEndSpec)) waysBeginAndEndUptoCard

/-- THE SECOND FORM's CARD OF 'pilekeep1.DistancesAreEqual'. -/
def distancesAreEqualUptoCard : Claim7 := { stood := { row := distancesAreEqualUptoRow, standIns := [], harness := (true, "67293fd1c923f3ff5033b2fe4b94b5bb28d68cd875661b8917e5bfad45d54c72"), looks := false }, kinds := [], alts := [], laidByText := true, laidKinds := [.data, .listed, .data, .pinned], laidTests := true, laidLooks := .later }
def DistancesAreEqualUptoCardSaid : Prop := Claim7.holds Tryd.pinned (.plain (OpenSpec.upto distancesAreEqualSpec)) distancesAreEqualUptoCard

/-- THE SECOND FORM's CARD OF 'pilekeep1.LocatorsHoldTheirSites'. -/
def locatorsHoldTheirSitesUptoCard : Claim7 := { stood := { row := locatorsHoldTheirSitesUptoRow, standIns := [], harness := (true, "67293fd1c923f3ff5033b2fe4b94b5bb28d68cd875661b8917e5bfad45d54c72"), looks := false }, kinds := [], alts := [], laidByText := true, laidKinds := [.data, .listed, .data, .pinned], laidTests := true, laidLooks := .later }
def LocatorsHoldTheirSitesUptoCardSaid : Prop := Claim7.holds Tryd.pinned (.plain (OpenSpec.upto locatorsHoldTheirSitesSpec)) locatorsHoldTheirSitesUptoCard

/-- THE SECOND FORM's CARD OF 'pilekeep1.GreyIsNearZero'. -/
def greyIsNearZeroUptoCard : Claim7 := { stood := { row := greyIsNearZeroUptoRow, standIns := [], harness := (true, "67293fd1c923f3ff5033b2fe4b94b5bb28d68cd875661b8917e5bfad45d54c72"), looks := false }, kinds := [], alts := [], laidByText := true, laidKinds := [.data, .listed, .data, .pinned], laidTests := true, laidLooks := .later }
def GreyIsNearZeroUptoCardSaid : Prop := Claim7.holds Tryd.pinned (.plain (OpenSpec.upto greyIsNearZeroSpec)) greyIsNearZeroUptoCard
end Rows
end Go.Proofs.YtonnpocamipbiaaDoor
