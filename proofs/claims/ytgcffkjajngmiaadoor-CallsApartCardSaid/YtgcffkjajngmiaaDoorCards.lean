/-
  DERIVED. GIVEN WITH THE SEED: THE CARDS: each row of YtgcffkjajngmiaaDoorRows.lean that lists a variable, with what it lists TIED to the program's text (the seventh form; the later family's looks); each row that meets fmt, with fmt's text TOLD by the authors' own Lean function (tested against real Go, not proved from fmt's source: count such statements apart). THE CARD IS WHAT COUNTS. Prove the row's statement (the work); the ties are given (YtgcffkjajngmiaaDoorTie.lean); close each card by the builder's one call (the guide's Derived/Test/ToyasCard.lean, 'card_holds'). Laid BY PROGRAM, IN A SANDBOX (cutbox-door.mjs). By AI agents, Wed Nov 11 2026. No macro, syntax, notation, axiom, sorry.
-/
import Derived.Test.YtgcffkjajngmiaaDoorRows
import GoSem.ClaimSeven
namespace Go.Proofs.YtgcffkjajngmiaaDoor
namespace Rows

/-- THE TIED CARD OF 'pilelaw1.CallsApart'. -/
def callsApartCard : Claim7 := { stood := { row := callsApartRow, standIns := [], harness := (true, "ef7110a1965a13baab113a0e3c38748efc81c1c86459b192da7a6b4a4197b28f"), looks := false }, kinds := [], alts := [], laidByText := true, laidKinds := [.data, .pinned], laidTests := true, laidLooks := .later }
def CallsApartCardSaid : Prop := Claim7.holds Tryd.pinned (.plain (OpenSpec.ofChange callsApartSpec)) callsApartCard

/-- THE TIED CARD OF 'pilekeep1.PartsAreTheWhole'. -/
def partsAreTheWholeCard : Claim7 := { stood := { row := partsAreTheWholeRow, standIns := [], harness := (true, "ef7110a1965a13baab113a0e3c38748efc81c1c86459b192da7a6b4a4197b28f"), looks := false }, kinds := [], alts := [], laidByText := true, laidKinds := [.data, .listed, .data, .pinned], laidTests := true, laidLooks := .later }
def PartsAreTheWholeCardSaid : Prop := Claim7.holds Tryd.pinned (.plain (OpenSpec.ofChange partsAreTheWholeSpec)) partsAreTheWholeCard

/-- THE SECOND FORM's CARD OF 'pilelaw1.CallsApart'. -/
def callsApartUptoCard : Claim7 := { stood := { row := callsApartUptoRow, standIns := [], harness := (true, "ef7110a1965a13baab113a0e3c38748efc81c1c86459b192da7a6b4a4197b28f"), looks := false }, kinds := [], alts := [], laidByText := true, laidKinds := [.data, .pinned], laidTests := true, laidLooks := .later }
def CallsApartUptoCardSaid : Prop := Claim7.holds Tryd.pinned (.plain (OpenSpec.upto callsApartSpec)) callsApartUptoCard

/-- THE SECOND FORM's CARD OF 'pilekeep1.PartsAreTheWhole'. -/
def partsAreTheWholeUptoCard : Claim7 := { stood := { row := partsAreTheWholeUptoRow, standIns := [], harness := (true, "ef7110a1965a13baab113a0e3c38748efc81c1c86459b192da7a6b4a4197b28f"), looks := false }, kinds := [], alts := [], laidByText := true, laidKinds := [.data, .listed, .data, .pinned], laidTests := true, laidLooks := .later }
def PartsAreTheWholeUptoCardSaid : Prop := Claim7.holds Tryd.pinned (.plain (OpenSpec.upto partsAreTheWholeSpec)) partsAreTheWholeUptoCard
end Rows
end Go.Proofs.YtgcffkjajngmiaaDoor
