/-
  DERIVED. GIVEN WITH THE SEED: THE CARDS: each row of YtfbepmnpdnekdaaGreatDoorRows.lean that lists a variable, with what it lists TIED to the program's text (the seventh form; the later family's looks); each row that meets fmt, with fmt's text TOLD by the authors' own Lean function (tested against real Go, not proved from fmt's source: count such statements apart). THE CARD IS WHAT COUNTS. Prove the row's statement (the work); the ties are given (YtfbepmnpdnekdaaGreatDoorTie.lean); close each card by the builder's one call (the guide's Derived/Test/ToyasCard.lean, 'card_holds'). Laid BY PROGRAM, IN A SANDBOX (cutbox-door.mjs). By AI agents, Wed Nov 11 2026. No macro, syntax, notation, axiom, sorry.
-/
import Derived.Test.YtfbepmnpdnekdaaGreatDoorRows
import GoSem.ClaimSeven
namespace Go.Proofs.YtfbepmnpdnekdaaGreatDoor
namespace Rows

/-- THE TIED CARD OF 'piletop.TopCallsAreKeyed'. -/
def topCallsAreKeyedCard : Claim7 := { stood := { row := topCallsAreKeyedRow, standIns := [], harness := (true, "865edec41a90696c6591e007d394ae2948a5887ac54526c2ff422f2d5d3489b9"), looks := true }, kinds := [], alts := [], laidByText := true, laidKinds := [.data, .listed, .data, .pinned], laidTests := true, laidLooks := .later }
def TopCallsAreKeyedCardSaid : Prop := Claim7.holds Tryz.pinned (.plain (OpenSpec.ofChange topCallsAreKeyedSpec)) topCallsAreKeyedCard

/-- THE TIED CARD OF 'pilekeep1.KeysStay'. -/
def keysStayCard : Claim7 := { stood := { row := keysStayRow, standIns := [], harness := (true, "865edec41a90696c6591e007d394ae2948a5887ac54526c2ff422f2d5d3489b9"), looks := true }, kinds := [], alts := [], laidByText := true, laidKinds := [.data, .listed, .data, .pinned], laidTests := true, laidLooks := .later }
def KeysStayCardSaid : Prop := Claim7.holds Tryz.pinned (.plain (OpenSpec.ofChange keysStaySpec)) keysStayCard

/-- THE TIED CARD OF 'pilekeep1.KeyedIsHeard'. -/
def keyedIsHeardCard : Claim7 := { stood := { row := keyedIsHeardRow, standIns := [], harness := (true, "865edec41a90696c6591e007d394ae2948a5887ac54526c2ff422f2d5d3489b9"), looks := true }, kinds := [], alts := [], laidByText := true, laidKinds := [.data, .listed, .data, .pinned], laidTests := true, laidLooks := .later }
def KeyedIsHeardCardSaid : Prop := Claim7.holds Tryz.pinned (.plain (OpenSpec.ofChange keyedIsHeardSpec)) keyedIsHeardCard

/-- THE TIED CARD OF 'pilekeep1.MistakesAreOneApart'. -/
def mistakesAreOneApartCard : Claim7 := { stood := { row := mistakesAreOneApartRow, standIns := [], harness := (true, "865edec41a90696c6591e007d394ae2948a5887ac54526c2ff422f2d5d3489b9"), looks := true }, kinds := [], alts := [], laidByText := true, laidKinds := [.data, .listed, .data, .pinned], laidTests := true, laidLooks := .later }
def MistakesAreOneApartCardSaid : Prop := Claim7.holds Tryz.pinned (.plain (OpenSpec.ofChange mistakesAreOneApartSpec)) mistakesAreOneApartCard

/-- THE TIED CARD OF 'pilelaw1.NumbersCut'. -/
def numbersCutCard : Claim7 := { stood := { row := numbersCutRow, standIns := [], harness := (true, "865edec41a90696c6591e007d394ae2948a5887ac54526c2ff422f2d5d3489b9"), looks := true }, kinds := [], alts := [], laidByText := true, laidKinds := [.data, .data, .data, .data, .listed, .data, .pinned], laidTests := true, laidLooks := .later }
def NumbersCutCardSaid : Prop := Claim7.holds Tryz.pinned (.plain (OpenSpec.ofChange numbersCutSpec)) numbersCutCard

/-- THE SECOND FORM's CARD OF 'piletop.TopCallsAreKeyed'. -/
def topCallsAreKeyedUptoCard : Claim7 := { stood := { row := topCallsAreKeyedUptoRow, standIns := [], harness := (true, "865edec41a90696c6591e007d394ae2948a5887ac54526c2ff422f2d5d3489b9"), looks := true }, kinds := [], alts := [], laidByText := true, laidKinds := [.data, .listed, .data, .pinned], laidTests := true, laidLooks := .later }
def TopCallsAreKeyedUptoCardSaid : Prop := Claim7.holds Tryz.pinned (.plain (OpenSpec.upto topCallsAreKeyedSpec)) topCallsAreKeyedUptoCard

/-- THE SECOND FORM's CARD OF 'pilekeep1.KeysStay'. -/
def keysStayUptoCard : Claim7 := { stood := { row := keysStayUptoRow, standIns := [], harness := (true, "865edec41a90696c6591e007d394ae2948a5887ac54526c2ff422f2d5d3489b9"), looks := true }, kinds := [], alts := [], laidByText := true, laidKinds := [.data, .listed, .data, .pinned], laidTests := true, laidLooks := .later }
def KeysStayUptoCardSaid : Prop := Claim7.holds Tryz.pinned (.plain (OpenSpec.upto keysStaySpec)) keysStayUptoCard

/-- THE SECOND FORM's CARD OF 'pilekeep1.KeyedIsHeard'. -/
def keyedIsHeardUptoCard : Claim7 := { stood := { row := keyedIsHeardUptoRow, standIns := [], harness := (true, "865edec41a90696c6591e007d394ae2948a5887ac54526c2ff422f2d5d3489b9"), looks := true }, kinds := [], alts := [], laidByText := true, laidKinds := [.data, .listed, .data, .pinned], laidTests := true, laidLooks := .later }
def KeyedIsHeardUptoCardSaid : Prop := Claim7.holds Tryz.pinned (.plain (OpenSpec.upto keyedIsHeardSpec)) keyedIsHeardUptoCard

/-- THE SECOND FORM's CARD OF 'pilekeep1.MistakesAreOneApart'. -/
def mistakesAreOneApartUptoCard : Claim7 := { stood := { row := mistakesAreOneApartUptoRow, standIns := [], harness := (true, "865edec41a90696c6591e007d394ae2948a5887ac54526c2ff422f2d5d3489b9"), looks := true }, kinds := [], alts := [], laidByText := true, laidKinds := [.data, .listed, .data, .pinned], laidTests := true, laidLooks := .later }
def MistakesAreOneApartUptoCardSaid : Prop := Claim7.holds Tryz.pinned (.plain (OpenSpec.upto mistakesAreOneApartSpec)) mistakesAreOneApartUptoCard

/-- THE SECOND FORM's CARD OF 'pilelaw1.NumbersCut'. -/
def numbersCutUptoCard : Claim7 := { stood := { row := numbersCutUptoRow, standIns := [], harness := (true, "865edec41a90696c6591e007d394ae2948a5887ac54526c2ff422f2d5d3489b9"), looks := true }, kinds := [], alts := [], laidByText := true, laidKinds := [.data, .data, .data, .data, .listed, .data, .pinned], laidTests := true, laidLooks := .later }
def NumbersCutUptoCardSaid : Prop := Claim7.holds Tryz.pinned (.plain (OpenSpec.upto numbersCutSpec)) numbersCutUptoCard
end Rows
end Go.Proofs.YtfbepmnpdnekdaaGreatDoor
