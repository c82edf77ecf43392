/-
  DERIVED. GIVEN WITH THE SEED: THE CARDS: each row of YtifeioddiddnoaaGreatDoorRows.lean that lists a variable, with what it lists TIED to the program's text (the seventh form; the later family's looks); each row that meets fmt, with fmt's text TOLD by the authors' own Lean function (tested against real Go, not proved from fmt's source: count such statements apart). THE CARD IS WHAT COUNTS. Prove the row's statement (the work); the ties are given (YtifeioddiddnoaaGreatDoorTie.lean); close each card by the builder's one call (the guide's Derived/Test/ToyasCard.lean, 'card_holds'). Laid BY PROGRAM, IN A SANDBOX (cutbox-door.mjs). By AI agents, Wed Nov 11 2026. No macro, syntax, notation, axiom, sorry.
-/
import Derived.Test.YtifeioddiddnoaaGreatDoorRows
import GoSem.ClaimSeven
namespace Go.Proofs.YtifeioddiddnoaaGreatDoor
namespace Rows

/-- THE TIED CARD OF 'parolelaw14.SummaryRefuses'. -/
def summaryRefusesCard : Claim7 := { stood := { row := summaryRefusesRow, standIns := [], harness := (true, "2a24bd40486dd0821c90f639697217a583ef8dc703930c8f248fa676059cd36c"), looks := true }, kinds := [], alts := [], laidByText := true, laidKinds := [.data, .data, .data, .data, .sentinel, .sentinel, .pinned], laidTests := true, laidLooks := .later }
def SummaryRefusesCardSaid : Prop := Claim7.holds Tryz.pinned (.plain (OpenSpec.ofChange summaryRefusesSpec)) summaryRefusesCard

/-- THE TIED CARD OF 'parolelaw14.SummaryAllows'. -/
def summaryAllowsCard : Claim7 := { stood := { row := summaryAllowsRow, standIns := [], harness := (true, "2a24bd40486dd0821c90f639697217a583ef8dc703930c8f248fa676059cd36c"), looks := true }, kinds := [], alts := [], laidByText := true, laidKinds := [.data, .data, .data, .data, .sentinel, .sentinel, .pinned], laidTests := true, laidLooks := .later }
def SummaryAllowsCardSaid : Prop := Claim7.holds Tryz.pinned (.plain (OpenSpec.ofChange summaryAllowsSpec)) summaryAllowsCard

/-- THE TIED CARD OF 'parolelaw14.SummaryJoins'. -/
def summaryJoinsCard : Claim7 := { stood := { row := summaryJoinsRow, standIns := [], harness := (true, "2a24bd40486dd0821c90f639697217a583ef8dc703930c8f248fa676059cd36c"), looks := true }, kinds := [], alts := [], laidByText := true, laidKinds := [.data, .data, .data, .data, .sentinel, .sentinel, .pinned], laidTests := true, laidLooks := .later }
def SummaryJoinsCardSaid : Prop := Claim7.holds Tryz.pinned (.plain (OpenSpec.ofChange summaryJoinsSpec)) summaryJoinsCard

/-- THE TIED CARD OF 'parolelaw14.SummaryOrder'. -/
def summaryOrderCard : Claim7 := { stood := { row := summaryOrderRow, standIns := [], harness := (true, "2a24bd40486dd0821c90f639697217a583ef8dc703930c8f248fa676059cd36c"), looks := true }, kinds := [], alts := [], laidByText := true, laidKinds := [.data, .data, .data, .data, .sentinel, .sentinel, .pinned], laidTests := true, laidLooks := .later }
def SummaryOrderCardSaid : Prop := Claim7.holds Tryz.pinned (.plain (OpenSpec.ofChange summaryOrderSpec)) summaryOrderCard

/-- THE TIED CARD OF 'parolelaw14.SummaryMatchesReference'. -/
def summaryMatchesReferenceCard : Claim7 := { stood := { row := summaryMatchesReferenceRow, standIns := [], harness := (true, "2a24bd40486dd0821c90f639697217a583ef8dc703930c8f248fa676059cd36c"), looks := true }, kinds := [], alts := [], laidByText := true, laidKinds := [.data, .data, .data, .data, .sentinel, .sentinel, .pinned], laidTests := true, laidLooks := .later }
def SummaryMatchesReferenceCardSaid : Prop := Claim7.holds Tryz.pinned (.plain (OpenSpec.ofChange summaryMatchesReferenceSpec)) summaryMatchesReferenceCard

/-- THE SECOND FORM's CARD OF 'parolelaw14.SummaryRefuses'. -/
def summaryRefusesUptoCard : Claim7 := { stood := { row := summaryRefusesUptoRow, standIns := [], harness := (true, "2a24bd40486dd0821c90f639697217a583ef8dc703930c8f248fa676059cd36c"), looks := true }, kinds := [], alts := [], laidByText := true, laidKinds := [.data, .data, .data, .data, .sentinel, .sentinel, .pinned], laidTests := true, laidLooks := .later }
def SummaryRefusesUptoCardSaid : Prop := Claim7.holds Tryz.pinned (.plain (OpenSpec.upto summaryRefusesSpec)) summaryRefusesUptoCard

/-- THE SECOND FORM's CARD OF 'parolelaw14.SummaryAllows'. -/
def summaryAllowsUptoCard : Claim7 := { stood := { row := summaryAllowsUptoRow, standIns := [], harness := (true, "2a24bd40486dd0821c90f639697217a583ef8dc703930c8f248fa676059cd36c"), looks := true }, kinds := [], alts := [], laidByText := true, laidKinds := [.data, .data, .data, .data, .sentinel, .sentinel, .pinned], laidTests := true, laidLooks := .later }
def SummaryAllowsUptoCardSaid : Prop := Claim7.holds Tryz.pinned (.plain (OpenSpec.upto summaryAllowsSpec)) summaryAllowsUptoCard

/-- THE SECOND FORM's CARD OF 'parolelaw14.SummaryJoins'. -/
def summaryJoinsUptoCard : Claim7 := { stood := { row := summaryJoinsUptoRow, standIns := [], harness := (true, "2a24bd40486dd0821c90f639697217a583ef8dc703930c8f248fa676059cd36c"), looks := true }, kinds := [], alts := [], laidByText := true, laidKinds := [.data, .data, .data, .data, .sentinel, .sentinel, .pinned], laidTests := true, laidLooks := .later }
def SummaryJoinsUptoCardSaid : Prop := Claim7.holds Tryz.pinned (.plain (OpenSpec.upto summaryJoinsSpec)) summaryJoinsUptoCard

/-- THE SECOND FORM's CARD OF 'parolelaw14.SummaryOrder'. -/
def summaryOrderUptoCard : Claim7 := { stood := { row := summaryOrderUptoRow, standIns := [], harness := (true, "2a24bd40486dd0821c90f639697217a583ef8dc703930c8f248fa676059cd36c"), looks := true }, kinds := [], alts := [], laidByText := true, laidKinds := [.data, .data, .data, .data, .sentinel, .sentinel, .pinned], laidTests := true, laidLooks := .later }
def SummaryOrderUptoCardSaid : Prop := Claim7.holds Tryz.pinned (.plain (OpenSpec.upto summaryOrderSpec)) summaryOrderUptoCard

/-- THE SECOND FORM's CARD OF 'parolelaw14.SummaryMatchesReference'. -/
def summaryMatchesReferenceUptoCard : Claim7 := { stood := { row := summaryMatchesReferenceUptoRow, standIns := [], harness := (true, "2a24bd40486dd0821c90f639697217a583ef8dc703930c8f248fa676059cd36c"), looks := true }, kinds := [], alts := [], laidByText := true, laidKinds := [.data, .data, .data, .data, .sentinel, .sentinel, .pinned], laidTests := true, laidLooks := .later }
def SummaryMatchesReferenceUptoCardSaid : Prop := Claim7.holds Tryz.pinned (.plain (OpenSpec.upto summaryMatchesReferenceSpec)) summaryMatchesReferenceUptoCard
end Rows
end Go.Proofs.YtifeioddiddnoaaGreatDoor
