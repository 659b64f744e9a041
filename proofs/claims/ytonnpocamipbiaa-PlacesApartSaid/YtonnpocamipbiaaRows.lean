/-
  No cell of these rows narrows 'for every input' (looked for: loops, veiled, ifaces, maps, wideKeys, modest, calm, conditions, laid).
  DERIVED. THE GIVEN ROWS OF THIS SEAT. 3 by the template 'for every input the law returns true; each argument reads behind the call as it read before'; 0 by the template 'total and deterministic' (their statements: YtonnpocamipbiaaTotals.lean).
  GIVEN WITH THE SEED: the statements are not yours to turn. If you find one false, say at which input.
  Laid BY PROGRAM, IN A SANDBOX (cutbox-rows.mjs): the forced cells as the released guide's own fill.sh prints them over the translation aec3b725079ef4fc… (all of the seat's roots in one cut). By AI agents, Wed Nov 11 2026. No macro, syntax, notation, axiom, sorry.
-/
import Derived.Test.YtonnpocamipbiaaChecked
import GoSem.Claim
import GoSem.ClaimJoined
import GoSem.ClaimMapViews
import Derived.JoinedTies
import Derived.KernelRfl
namespace Go.Proofs.Ytonnpocamipbiaa
/- THE CELL 'sum', in the pinned program and in every row, IS THE sha256 OF THE DUMP (.gsa) THAT YtonnpocamipbiaaProg.lean LOADS. Nothing in Lean hashes anything: it is a label: what it is worth is what the hold of that sum in a sandbox is worth. -/
noncomputable def Try.pinned : Pinned := { name := "ytonnpocamipbiaa", sum := "aec3b725079ef4fcaf4dcc1054054b8398728df51aa35af342d527d39c1e780f", checked := Try.checked }
namespace Rows
def none {H : Type} : Left H := { results := [], args := [] }

/-- 'pilelaw1.SunFollowed': WHATEVER THE INPUT: true; the input reads as it did. -/
def sunFollowedSpec : ChangeSpec := { name := "sunFollowed", fn := fun _ => fun
  | [d] => { results := [.lit (.bool true)], args := [d] }
  | _ => none }
def sunFollowedRow : OpenClaim := { program := "ytonnpocamipbiaa", sum := "aec3b725079ef4fcaf4dcc1054054b8398728df51aa35af342d527d39c1e780f", func := "pileup/pilelaw1.SunFollowed", spec := "sunFollowed", unfollowed := true, recurses := true, apart := false }
def SunFollowedSaid : Prop := sunFollowedRow.holds Try.pinned (OpenSpec.ofChange sunFollowedSpec)

/-- ITS FALSE NEIGHBOUR: 'it returns false'. Refute it at one input. -/
def sunFollowedWrong : ChangeSpec := { name := "sunFollowed", fn := fun _ => fun
  | [d] => { results := [.lit (.bool false)], args := [d] }
  | _ => none }
def SunFollowedWrongFalsely : Prop := sunFollowedRow.holds Try.pinned (OpenSpec.ofChange sunFollowedWrong)

/-- 'pilelaw1.GreyFollowed': WHATEVER THE INPUT: true; the input reads as it did. -/
def greyFollowedSpec : ChangeSpec := { name := "greyFollowed", fn := fun _ => fun
  | [d] => { results := [.lit (.bool true)], args := [d] }
  | _ => none }
def greyFollowedRow : OpenClaim := { program := "ytonnpocamipbiaa", sum := "aec3b725079ef4fcaf4dcc1054054b8398728df51aa35af342d527d39c1e780f", func := "pileup/pilelaw1.GreyFollowed", spec := "greyFollowed", unfollowed := true, recurses := true, apart := false }
def GreyFollowedSaid : Prop := greyFollowedRow.holds Try.pinned (OpenSpec.ofChange greyFollowedSpec)

/-- ITS FALSE NEIGHBOUR: 'it returns false'. Refute it at one input. -/
def greyFollowedWrong : ChangeSpec := { name := "greyFollowed", fn := fun _ => fun
  | [d] => { results := [.lit (.bool false)], args := [d] }
  | _ => none }
def GreyFollowedWrongFalsely : Prop := greyFollowedRow.holds Try.pinned (OpenSpec.ofChange greyFollowedWrong)

/-- 'pilelaw1.PlacesApart': WHATEVER THE INPUT: true; the input reads as it did. -/
def placesApartSpec : ChangeSpec := { name := "placesApart", fn := fun _ => fun
  | [d] => { results := [.lit (.bool true)], args := [d] }
  | _ => none }
def placesApartRow : OpenClaim := { program := "ytonnpocamipbiaa", sum := "aec3b725079ef4fcaf4dcc1054054b8398728df51aa35af342d527d39c1e780f", func := "pileup/pilelaw1.PlacesApart", spec := "placesApart", unfollowed := true, recurses := true, apart := false }
def PlacesApartSaid : Prop := placesApartRow.holds Try.pinned (OpenSpec.ofChange placesApartSpec)

/-- ITS FALSE NEIGHBOUR: 'it returns false'. Refute it at one input. -/
def placesApartWrong : ChangeSpec := { name := "placesApart", fn := fun _ => fun
  | [d] => { results := [.lit (.bool false)], args := [d] }
  | _ => none }
def PlacesApartWrongFalsely : Prop := placesApartRow.holds Try.pinned (OpenSpec.ofChange placesApartWrong)

/- THE SECOND FORM. 'bulk': how many values and letters a reading holds, each counted each time it is reached (what is shared counts as often as it is met; a slice's spare places count too). A statement '..UptoSaid' is the law's where the arguments, and the package variables that the reading takes, are together of bulk at most 1048576: NARROWER than '..Said'. Prove '..Said' where nothing that the law and all that it calls make is longer than what came in: it says more and counts as full. Else prove '..UptoSaid'. A law counts once. -/
mutual
def uptoBulk {H : Type} : DataW H → Nat
  | .lit (.string bytes) => bytes.length + 1
  | .lit _ => 1
  | .nil => 1
  | .ptr d => uptoBulk d + 1
  | .slice elems spare => uptoBulkAll elems + uptoBulkAll spare + 1
  | .agg parts => uptoBulkAll parts + 1
  | .iface _ d => uptoBulk d + 1
  | .map entries => uptoBulkEntries entries + 1
  | .held _ => 1
def uptoBulkAll {H : Type} : List (DataW H) → Nat
  | [] => 0
  | d :: r => uptoBulk d + uptoBulkAll r
def uptoBulkEntries {H : Type} : List (Lit × DataW H) → Nat
  | [] => 0
  | x :: r => uptoBulkEntry x + uptoBulkEntries r
def uptoBulkEntry {H : Type} : Lit × DataW H → Nat
  | (.string bytes, d) => bytes.length + uptoBulk d + 1
  | (_, d) => uptoBulk d + 1
 end
def uptoSmall : (H : Type) → List (DataW H) → Bool := fun _ ds => decide (uptoBulkAll ds ≤ 1048576)
def OpenSpec.upto (s : _root_.Go.ChangeSpec) : _root_.Go.OpenSpec := { _root_.Go.OpenSpec.ofChange s with cond := some uptoSmall }

/-- 'pilelaw1.SunFollowed', WHERE WHAT IT READS IS OF BULK AT MOST 1048576: true; the input reads as it did. -/
def sunFollowedUptoRow : OpenClaim := { program := "ytonnpocamipbiaa", sum := "aec3b725079ef4fcaf4dcc1054054b8398728df51aa35af342d527d39c1e780f", func := "pileup/pilelaw1.SunFollowed", spec := "sunFollowed", unfollowed := true, recurses := true, apart := false, narrowed := true }
def SunFollowedUptoSaid : Prop := sunFollowedUptoRow.holds Try.pinned (OpenSpec.upto sunFollowedSpec)

/-- 'pilelaw1.GreyFollowed', WHERE WHAT IT READS IS OF BULK AT MOST 1048576: true; the input reads as it did. -/
def greyFollowedUptoRow : OpenClaim := { program := "ytonnpocamipbiaa", sum := "aec3b725079ef4fcaf4dcc1054054b8398728df51aa35af342d527d39c1e780f", func := "pileup/pilelaw1.GreyFollowed", spec := "greyFollowed", unfollowed := true, recurses := true, apart := false, narrowed := true }
def GreyFollowedUptoSaid : Prop := greyFollowedUptoRow.holds Try.pinned (OpenSpec.upto greyFollowedSpec)

/-- 'pilelaw1.PlacesApart', WHERE WHAT IT READS IS OF BULK AT MOST 1048576: true; the input reads as it did. -/
def placesApartUptoRow : OpenClaim := { program := "ytonnpocamipbiaa", sum := "aec3b725079ef4fcaf4dcc1054054b8398728df51aa35af342d527d39c1e780f", func := "pileup/pilelaw1.PlacesApart", spec := "placesApart", unfollowed := true, recurses := true, apart := false, narrowed := true }
def PlacesApartUptoSaid : Prop := placesApartUptoRow.holds Try.pinned (OpenSpec.upto placesApartSpec)

end Rows
end Go.Proofs.Ytonnpocamipbiaa
