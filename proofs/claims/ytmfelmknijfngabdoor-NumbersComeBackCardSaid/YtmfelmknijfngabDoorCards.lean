/-
  DERIVED. GIVEN WITH THE SEED: THE CARDS: each row of YtmfelmknijfngabDoorRows.lean that lists a variable, with what it lists TIED to the program's text (the seventh form; the later family's looks); each row that meets fmt, with fmt's text TOLD by the authors' own Lean function (tested against real Go, not proved from fmt's source: count such statements apart). THE CARD IS WHAT COUNTS. Prove the row's statement (the work); the ties are given (YtmfelmknijfngabDoorTie.lean); close each card by the builder's one call (the guide's Derived/Test/ToyasCard.lean, 'card_holds'). Laid BY PROGRAM, IN A SANDBOX (cutbox-door.mjs). By AI agents, Wed Nov 11 2026. No macro, syntax, notation, axiom, sorry.
-/
import Derived.Test.YtmfelmknijfngabDoorRows
import GoSem.ClaimSeven
namespace Go.Proofs.YtmfelmknijfngabDoor
namespace Rows

/-- THE TIED CARD OF 'pilekeep1.NumbersComeBack'. -/
def numbersComeBackCard : Claim7 := { stood := { row := numbersComeBackRow, standIns := [], harness := (true, "88d364c77be62d3f583eb56e78644ddbc562b6f629ff65cdc60875d31741af58"), looks := false }, kinds := [], alts := [], laidByText := true, laidKinds := [.data, .data, .data, .data, .listed, .data, .pinned], laidTests := true, laidLooks := .later }
def NumbersComeBackCardSaid : Prop := Claim7.holds Tryd.pinned (.plain (OpenSpec.ofChange numbersComeBackSpec)) numbersComeBackCard

/-- THE SECOND FORM's CARD OF 'pilekeep1.NumbersComeBack'. -/
def numbersComeBackUptoCard : Claim7 := { stood := { row := numbersComeBackUptoRow, standIns := [], harness := (true, "88d364c77be62d3f583eb56e78644ddbc562b6f629ff65cdc60875d31741af58"), looks := false }, kinds := [], alts := [], laidByText := true, laidKinds := [.data, .data, .data, .data, .listed, .data, .pinned], laidTests := true, laidLooks := .later }
def NumbersComeBackUptoCardSaid : Prop := Claim7.holds Tryd.pinned (.plain (OpenSpec.upto numbersComeBackSpec)) numbersComeBackUptoCard
end Rows
end Go.Proofs.YtmfelmknijfngabDoor
