/-
  DERIVED. GIVEN WITH THE SEED: THE CARDS: each row of YtbhahgbdkgjliaaGreatDoorRows.lean that lists a variable, with what it lists TIED to the program's text (the seventh form; the later family's looks); each row that meets fmt, with fmt's text TOLD by the authors' own Lean function (tested against real Go, not proved from fmt's source: count such statements apart). THE CARD IS WHAT COUNTS. Prove the row's statement (the work); the ties are given (YtbhahgbdkgjliaaGreatDoorTie.lean); close each card by the builder's one call (the guide's Derived/Test/ToyasCard.lean, 'card_holds'). Laid BY PROGRAM, IN A SANDBOX (cutbox-door.mjs). By AI agents, Wed Nov 11 2026. No macro, syntax, notation, axiom, sorry.
-/
import Derived.Test.YtbhahgbdkgjliaaGreatDoorRows
import GoSem.ClaimSeven
namespace Go.Proofs.YtbhahgbdkgjliaaGreatDoor
namespace Rows

/-- THE TIED CARD OF 'parolelaw02.RatMatchesReference'. -/
def ratMatchesReferenceCard : Claim7 := { stood := { row := ratMatchesReferenceRow, standIns := [], harness := (true, "e55aa3e4bd628e359b18878cc8e1331090474896a31d7b9413e1cd45ba874c5d"), looks := true }, kinds := [], alts := [], laidByText := true, laidKinds := [.data, .data, .data, .sentinel, .sentinel], laidTests := true, laidLooks := .later }
def RatMatchesReferenceCardSaid : Prop := Claim7.holds Tryz.pinned (.plain (OpenSpec.ofChange ratMatchesReferenceSpec)) ratMatchesReferenceCard

/-- THE SECOND FORM's CARD OF 'parolelaw02.RatMatchesReference'. -/
def ratMatchesReferenceUptoCard : Claim7 := { stood := { row := ratMatchesReferenceUptoRow, standIns := [], harness := (true, "e55aa3e4bd628e359b18878cc8e1331090474896a31d7b9413e1cd45ba874c5d"), looks := true }, kinds := [], alts := [], laidByText := true, laidKinds := [.data, .data, .data, .sentinel, .sentinel], laidTests := true, laidLooks := .later }
def RatMatchesReferenceUptoCardSaid : Prop := Claim7.holds Tryz.pinned (.plain (OpenSpec.upto ratMatchesReferenceSpec)) ratMatchesReferenceUptoCard
end Rows
end Go.Proofs.YtbhahgbdkgjliaaGreatDoor
