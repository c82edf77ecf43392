/-
  DERIVED. GIVEN WITH THE SEED: THE CARDS: each row of YtifeioddiddnoaaDoorRows.lean that lists a variable, with what it lists TIED to the program's text (the seventh form; the later family's looks); each row that meets fmt, with fmt's text TOLD by the authors' own Lean function (tested against real Go, not proved from fmt's source: count such statements apart). THE CARD IS WHAT COUNTS. Prove the row's statement (the work); the ties are given (YtifeioddiddnoaaDoorTie.lean); close each card by the builder's one call (the guide's Derived/Test/ToyasCard.lean, 'card_holds'). Laid BY PROGRAM, IN A SANDBOX (cutbox-door.mjs). By AI agents, Wed Nov 11 2026. No macro, syntax, notation, axiom, sorry.
-/
import Derived.Test.YtifeioddiddnoaaDoorRows
import GoSem.ClaimSeven
namespace Go.Proofs.YtifeioddiddnoaaDoor
namespace Rows

/-- THE TIED CARD OF 'parolelaw14.SummaryTexts'. -/
def summaryTextsCard : Claim7 := { stood := { row := summaryTextsRow, standIns := [], harness := (true, "52cb1d2209b98f0acbd79791f7e0eefd5937b56cc8061a5010ab608a1f4045be"), looks := true }, kinds := [], alts := [], laidByText := true, laidKinds := [.data, .data, .data, .data, .sentinel, .sentinel, .pinned], laidTests := true, laidLooks := .later }
def SummaryTextsCardSaid : Prop := Claim7.holds Tryd.pinned (.plain (OpenSpec.ofChange summaryTextsSpec)) summaryTextsCard

/-- THE SECOND FORM's CARD OF 'parolelaw14.SummaryTexts'. -/
def summaryTextsUptoCard : Claim7 := { stood := { row := summaryTextsUptoRow, standIns := [], harness := (true, "52cb1d2209b98f0acbd79791f7e0eefd5937b56cc8061a5010ab608a1f4045be"), looks := true }, kinds := [], alts := [], laidByText := true, laidKinds := [.data, .data, .data, .data, .sentinel, .sentinel, .pinned], laidTests := true, laidLooks := .later }
def SummaryTextsUptoCardSaid : Prop := Claim7.holds Tryd.pinned (.plain (OpenSpec.upto summaryTextsSpec)) summaryTextsUptoCard
end Rows
end Go.Proofs.YtifeioddiddnoaaDoor
