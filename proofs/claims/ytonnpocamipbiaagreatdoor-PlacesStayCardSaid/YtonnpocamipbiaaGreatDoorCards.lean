/-
  DERIVED. GIVEN WITH THE SEED: THE CARDS: each row of YtonnpocamipbiaaGreatDoorRows.lean that lists a variable, with what it lists TIED to the program's text (the seventh form; the later family's looks); each row that meets fmt, with fmt's text TOLD by the authors' own Lean function (tested against real Go, not proved from fmt's source: count such statements apart). THE CARD IS WHAT COUNTS. Prove the row's statement (the work); the ties are given (YtonnpocamipbiaaGreatDoorTie.lean); close each card by the builder's one call (the guide's Derived/Test/ToyasCard.lean, 'card_holds'). Laid BY PROGRAM, IN A SANDBOX (cutbox-door.mjs). By AI agents, Wed Nov 11 2026. No macro, syntax, notation, axiom, sorry.
-/
import Derived.Test.YtonnpocamipbiaaGreatDoorRows
import GoSem.ClaimSeven
namespace Go.Proofs.YtonnpocamipbiaaGreatDoor
namespace Rows

/-- THE TIED CARD OF 'pilekeep1.NeighboursAreMutual'. -/
def neighboursAreMutualCard : Claim7 := { stood := { row := neighboursAreMutualRow, standIns := [], harness := (true, "56239e564e6defc946851c61e254dd248ac373fa9ed5270f4b5540f5469f43b5"), looks := false }, kinds := [], alts := [], laidByText := true, laidKinds := [.data, .listed, .data, .pinned], laidTests := true, laidLooks := .later }
def NeighboursAreMutualCardSaid : Prop := Claim7.holds Tryz.pinned (.plain (OpenSpec.ofChange neighboursAreMutualSpec)) neighboursAreMutualCard

/-- THE TIED CARD OF 'pilekeep1.PlacesStay'. -/
def placesStayCard : Claim7 := { stood := { row := placesStayRow, standIns := [], harness := (true, "56239e564e6defc946851c61e254dd248ac373fa9ed5270f4b5540f5469f43b5"), looks := false }, kinds := [], alts := [], laidByText := true, laidKinds := [.data, .listed, .data, .pinned], laidTests := true, laidLooks := .later }
def PlacesStayCardSaid : Prop := Claim7.holds Tryz.pinned (.plain (OpenSpec.ofChange placesStaySpec)) placesStayCard

/-- THE SECOND FORM's CARD OF 'pilekeep1.NeighboursAreMutual'. -/
def neighboursAreMutualUptoCard : Claim7 := { stood := { row := neighboursAreMutualUptoRow, standIns := [], harness := (true, "56239e564e6defc946851c61e254dd248ac373fa9ed5270f4b5540f5469f43b5"), looks := false }, kinds := [], alts := [], laidByText := true, laidKinds := [.data, .listed, .data, .pinned], laidTests := true, laidLooks := .later }
def NeighboursAreMutualUptoCardSaid : Prop := Claim7.holds Tryz.pinned (.plain (OpenSpec.upto neighboursAreMutualSpec)) neighboursAreMutualUptoCard

/-- THE SECOND FORM's CARD OF 'pilekeep1.PlacesStay'. -/
def placesStayUptoCard : Claim7 := { stood := { row := placesStayUptoRow, standIns := [], harness := (true, "56239e564e6defc946851c61e254dd248ac373fa9ed5270f4b5540f5469f43b5"), looks := false }, kinds := [], alts := [], laidByText := true, laidKinds := [.data, .listed, .data, .pinned], laidTests := true, laidLooks := .later }
def PlacesStayUptoCardSaid : Prop := Claim7.holds Tryz.pinned (.plain (OpenSpec.upto placesStaySpec)) placesStayUptoCard
end Rows
end Go.Proofs.YtonnpocamipbiaaGreatDoor
