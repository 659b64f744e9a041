/-
  DERIVED. GIVEN WITH THE SEED: THE CARDS: each row of YtmcaongkodmbjaaGreatDoorRows.lean that lists a variable, with what it lists TIED to the program's text (the seventh form; the later family's looks); each row that meets fmt, with fmt's text TOLD by the authors' own Lean function (tested against real Go, not proved from fmt's source: count such statements apart). THE CARD IS WHAT COUNTS. Prove the row's statement (the work); the ties are given (YtmcaongkodmbjaaGreatDoorTie.lean); close each card by the builder's one call (the guide's Derived/Test/ToyasCard.lean, 'card_holds'). Laid BY PROGRAM, IN A SANDBOX (cutbox-door.mjs). By AI agents, Wed Nov 11 2026. No macro, syntax, notation, axiom, sorry.
-/
import Derived.Test.YtmcaongkodmbjaaGreatDoorRows
import GoSem.ClaimSeven
namespace Go.Proofs.YtmcaongkodmbjaaGreatDoor
namespace Rows

/-- THE TIED CARD OF 'pilekeep1.ShiftsAreCounted'. -/
def shiftsAreCountedCard : Claim7 := { stood := { row := shiftsAreCountedRow, standIns := [], harness := (true, "0d4263d8119b8d16a31fb8c85e460d3f164a5cc3a4507ffdd345cde94c6e5399"), looks := false }, kinds := [], alts := [], laidByText := true, laidKinds := [.data, .listed, .data, .pinned], laidTests := true, laidLooks := .later }
def ShiftsAreCountedCardSaid : Prop := Claim7.holds Tryz.pinned (.plain (OpenSpec.ofChange shiftsAreCountedSpec)) shiftsAreCountedCard

/-- THE TIED CARD OF 'pilekeep1.RatesStay'. -/
def ratesStayCard : Claim7 := { stood := { row := ratesStayRow, standIns := [], harness := (true, "0d4263d8119b8d16a31fb8c85e460d3f164a5cc3a4507ffdd345cde94c6e5399"), looks := false }, kinds := [], alts := [], laidByText := true, laidKinds := [.data, .listed, .data, .pinned], laidTests := true, laidLooks := .later }
def RatesStayCardSaid : Prop := Claim7.holds Tryz.pinned (.plain (OpenSpec.ofChange ratesStaySpec)) ratesStayCard

/-- THE SECOND FORM's CARD OF 'pilekeep1.ShiftsAreCounted'. -/
def shiftsAreCountedUptoCard : Claim7 := { stood := { row := shiftsAreCountedUptoRow, standIns := [], harness := (true, "0d4263d8119b8d16a31fb8c85e460d3f164a5cc3a4507ffdd345cde94c6e5399"), looks := false }, kinds := [], alts := [], laidByText := true, laidKinds := [.data, .listed, .data, .pinned], laidTests := true, laidLooks := .later }
def ShiftsAreCountedUptoCardSaid : Prop := Claim7.holds Tryz.pinned (.plain (OpenSpec.upto shiftsAreCountedSpec)) shiftsAreCountedUptoCard

/-- THE SECOND FORM's CARD OF 'pilekeep1.RatesStay'. -/
def ratesStayUptoCard : Claim7 := { stood := { row := ratesStayUptoRow, standIns := [], harness := (true, "0d4263d8119b8d16a31fb8c85e460d3f164a5cc3a4507ffdd345cde94c6e5399"), looks := false }, kinds := [], alts := [], laidByText := true, laidKinds := [.data, .listed, .data, .pinned], laidTests := true, laidLooks := .later }
def RatesStayUptoCardSaid : Prop := Claim7.holds Tryz.pinned (.plain (OpenSpec.upto ratesStaySpec)) ratesStayUptoCard
end Rows
end Go.Proofs.YtmcaongkodmbjaaGreatDoor
