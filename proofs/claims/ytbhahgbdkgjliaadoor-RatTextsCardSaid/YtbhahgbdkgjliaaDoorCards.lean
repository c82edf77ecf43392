/-
  DERIVED. GIVEN WITH THE SEED: THE CARDS: each row of YtbhahgbdkgjliaaDoorRows.lean that lists a variable, with what it lists TIED to the program's text (the seventh form; the later family's looks); each row that meets fmt, with fmt's text TOLD by the authors' own Lean function (tested against real Go, not proved from fmt's source: count such statements apart). THE CARD IS WHAT COUNTS. Prove the row's statement (the work); the ties are given (YtbhahgbdkgjliaaDoorTie.lean); close each card by the builder's one call (the guide's Derived/Test/ToyasCard.lean, 'card_holds'). Laid BY PROGRAM, IN A SANDBOX (cutbox-door.mjs). By AI agents, Wed Nov 11 2026. No macro, syntax, notation, axiom, sorry.
-/
import Derived.Test.YtbhahgbdkgjliaaDoorRows
import GoSem.ClaimSeven
namespace Go.Proofs.YtbhahgbdkgjliaaDoor
namespace Rows

/-- THE TIED CARD OF 'parolelaw02.RatSums'. -/
def ratSumsCard : Claim7 := { stood := { row := ratSumsRow, standIns := [], harness := (true, "82e3f6b7a99225441205f50880bfd351c8ed89f710ded5c9586b9b2f5f6e8f51"), looks := true }, kinds := [], alts := [], laidByText := true, laidKinds := [.data, .data, .data, .sentinel, .sentinel], laidTests := true, laidLooks := .later }
def RatSumsCardSaid : Prop := Claim7.holds Tryd.pinned (.plain (OpenSpec.ofChange ratSumsSpec)) ratSumsCard

/-- THE TIED CARD OF 'parolelaw02.RatTexts'. -/
def ratTextsCard : Claim7 := { stood := { row := ratTextsRow, standIns := [], harness := (true, "82e3f6b7a99225441205f50880bfd351c8ed89f710ded5c9586b9b2f5f6e8f51"), looks := true }, kinds := [], alts := [], laidByText := true, laidKinds := [.data, .data, .data, .sentinel, .sentinel], laidTests := true, laidLooks := .later }
def RatTextsCardSaid : Prop := Claim7.holds Tryd.pinned (.plain (OpenSpec.ofChange ratTextsSpec)) ratTextsCard

/-- THE TIED CARD OF 'parolelaw02.RatField'. -/
def ratFieldCard : Claim7 := { stood := { row := ratFieldRow, standIns := [], harness := (true, "82e3f6b7a99225441205f50880bfd351c8ed89f710ded5c9586b9b2f5f6e8f51"), looks := true }, kinds := [], alts := [], laidByText := true, laidKinds := [.data, .data, .data, .sentinel, .sentinel], laidTests := true, laidLooks := .later }
def RatFieldCardSaid : Prop := Claim7.holds Tryd.pinned (.plain (OpenSpec.ofChange ratFieldSpec)) ratFieldCard

/-- THE TIED CARD OF 'parolelaw02.RatOrder'. -/
def ratOrderCard : Claim7 := { stood := { row := ratOrderRow, standIns := [], harness := (true, "82e3f6b7a99225441205f50880bfd351c8ed89f710ded5c9586b9b2f5f6e8f51"), looks := true }, kinds := [], alts := [], laidByText := true, laidKinds := [.data, .data, .data, .sentinel, .sentinel], laidTests := true, laidLooks := .later }
def RatOrderCardSaid : Prop := Claim7.holds Tryd.pinned (.plain (OpenSpec.ofChange ratOrderSpec)) ratOrderCard

/-- THE TIED CARD OF 'parolelaw02.RatLowest'. -/
def ratLowestCard : Claim7 := { stood := { row := ratLowestRow, standIns := [], harness := (true, "82e3f6b7a99225441205f50880bfd351c8ed89f710ded5c9586b9b2f5f6e8f51"), looks := true }, kinds := [], alts := [], laidByText := true, laidKinds := [.data, .data, .data, .sentinel, .sentinel], laidTests := true, laidLooks := .later }
def RatLowestCardSaid : Prop := Claim7.holds Tryd.pinned (.plain (OpenSpec.ofChange ratLowestSpec)) ratLowestCard

/-- THE TIED CARD OF 'parolelaw02.RatLimits'. -/
def ratLimitsCard : Claim7 := { stood := { row := ratLimitsRow, standIns := [], harness := (true, "82e3f6b7a99225441205f50880bfd351c8ed89f710ded5c9586b9b2f5f6e8f51"), looks := true }, kinds := [], alts := [], laidByText := true, laidKinds := [.data, .data, .data, .sentinel, .sentinel], laidTests := true, laidLooks := .later }
def RatLimitsCardSaid : Prop := Claim7.holds Tryd.pinned (.plain (OpenSpec.ofChange ratLimitsSpec)) ratLimitsCard

/-- THE SECOND FORM's CARD OF 'parolelaw02.RatSums'. -/
def ratSumsUptoCard : Claim7 := { stood := { row := ratSumsUptoRow, standIns := [], harness := (true, "82e3f6b7a99225441205f50880bfd351c8ed89f710ded5c9586b9b2f5f6e8f51"), looks := true }, kinds := [], alts := [], laidByText := true, laidKinds := [.data, .data, .data, .sentinel, .sentinel], laidTests := true, laidLooks := .later }
def RatSumsUptoCardSaid : Prop := Claim7.holds Tryd.pinned (.plain (OpenSpec.upto ratSumsSpec)) ratSumsUptoCard

/-- THE SECOND FORM's CARD OF 'parolelaw02.RatTexts'. -/
def ratTextsUptoCard : Claim7 := { stood := { row := ratTextsUptoRow, standIns := [], harness := (true, "82e3f6b7a99225441205f50880bfd351c8ed89f710ded5c9586b9b2f5f6e8f51"), looks := true }, kinds := [], alts := [], laidByText := true, laidKinds := [.data, .data, .data, .sentinel, .sentinel], laidTests := true, laidLooks := .later }
def RatTextsUptoCardSaid : Prop := Claim7.holds Tryd.pinned (.plain (OpenSpec.upto ratTextsSpec)) ratTextsUptoCard

/-- THE SECOND FORM's CARD OF 'parolelaw02.RatField'. -/
def ratFieldUptoCard : Claim7 := { stood := { row := ratFieldUptoRow, standIns := [], harness := (true, "82e3f6b7a99225441205f50880bfd351c8ed89f710ded5c9586b9b2f5f6e8f51"), looks := true }, kinds := [], alts := [], laidByText := true, laidKinds := [.data, .data, .data, .sentinel, .sentinel], laidTests := true, laidLooks := .later }
def RatFieldUptoCardSaid : Prop := Claim7.holds Tryd.pinned (.plain (OpenSpec.upto ratFieldSpec)) ratFieldUptoCard

/-- THE SECOND FORM's CARD OF 'parolelaw02.RatOrder'. -/
def ratOrderUptoCard : Claim7 := { stood := { row := ratOrderUptoRow, standIns := [], harness := (true, "82e3f6b7a99225441205f50880bfd351c8ed89f710ded5c9586b9b2f5f6e8f51"), looks := true }, kinds := [], alts := [], laidByText := true, laidKinds := [.data, .data, .data, .sentinel, .sentinel], laidTests := true, laidLooks := .later }
def RatOrderUptoCardSaid : Prop := Claim7.holds Tryd.pinned (.plain (OpenSpec.upto ratOrderSpec)) ratOrderUptoCard

/-- THE SECOND FORM's CARD OF 'parolelaw02.RatLowest'. -/
def ratLowestUptoCard : Claim7 := { stood := { row := ratLowestUptoRow, standIns := [], harness := (true, "82e3f6b7a99225441205f50880bfd351c8ed89f710ded5c9586b9b2f5f6e8f51"), looks := true }, kinds := [], alts := [], laidByText := true, laidKinds := [.data, .data, .data, .sentinel, .sentinel], laidTests := true, laidLooks := .later }
def RatLowestUptoCardSaid : Prop := Claim7.holds Tryd.pinned (.plain (OpenSpec.upto ratLowestSpec)) ratLowestUptoCard

/-- THE SECOND FORM's CARD OF 'parolelaw02.RatLimits'. -/
def ratLimitsUptoCard : Claim7 := { stood := { row := ratLimitsUptoRow, standIns := [], harness := (true, "82e3f6b7a99225441205f50880bfd351c8ed89f710ded5c9586b9b2f5f6e8f51"), looks := true }, kinds := [], alts := [], laidByText := true, laidKinds := [.data, .data, .data, .sentinel, .sentinel], laidTests := true, laidLooks := .later }
def RatLimitsUptoCardSaid : Prop := Claim7.holds Tryd.pinned (.plain (OpenSpec.upto ratLimitsSpec)) ratLimitsUptoCard
end Rows
end Go.Proofs.YtbhahgbdkgjliaaDoor
