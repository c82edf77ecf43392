/-
  No cell of these rows narrows 'for every input' (looked for: loops, veiled, ifaces, maps, wideKeys, modest, calm, conditions, laid).
  DERIVED. THE GIVEN ROWS OF THIS SEAT. 6 by the template 'for every input the law returns true; each argument reads behind the call as it read before'; 0 by the template 'total and deterministic' (their statements: YtajlmkokfgbjdaaTotals.lean).
  GIVEN WITH THE SEED: the statements are not yours to turn. If you find one false, say at which input.
  Laid BY PROGRAM, IN A SANDBOX (cutbox-rows.mjs): the forced cells as the released guide's own fill.sh prints them over the translation 33aa2819034509e5… (all of the seat's roots in one cut). By AI agents, Wed Nov 11 2026. No macro, syntax, notation, axiom, sorry.
-/
import Derived.Test.YtajlmkokfgbjdaaChecked
import GoSem.Claim
import GoSem.ClaimJoined
import GoSem.ClaimMapViews
import Derived.JoinedTies
import Derived.KernelRfl
namespace Go.Proofs.Ytajlmkokfgbjdaa
/- THE CELL 'sum', in the pinned program and in every row, IS THE sha256 OF THE DUMP (.gsa) THAT YtajlmkokfgbjdaaProg.lean LOADS. Nothing in Lean hashes anything: it is a label: what it is worth is what the hold of that sum in a sandbox is worth. -/
noncomputable def Try.pinned : Pinned := { name := "ytajlmkokfgbjdaa", sum := "33aa2819034509e5dfeddbf21493d42f3305f74a30fbcb6a261a009ac62052cd", checked := Try.checked }
namespace Rows
def none {H : Type} : Left H := { results := [], args := [] }

/-- 'parolelaw11.GapSets': WHATEVER THE INPUT: true; the input reads as it did. -/
def gapSetsSpec : ChangeSpec := { name := "gapSets", fn := fun _ => fun
  | [d1, d2] => { results := [.lit (.bool true)], args := [d1, d2] }
  | _ => none }
def gapSetsRow : OpenClaim := { program := "ytajlmkokfgbjdaa", sum := "33aa2819034509e5dfeddbf21493d42f3305f74a30fbcb6a261a009ac62052cd", func := "parole/parolelaw11.GapSets", spec := "gapSets", unfollowed := true, recurses := true, apart := false }
def GapSetsSaid : Prop := gapSetsRow.holds Try.pinned (OpenSpec.ofChange gapSetsSpec)

/-- ITS FALSE NEIGHBOUR: 'it returns false'. Refute it at one input. -/
def gapSetsWrong : ChangeSpec := { name := "gapSets", fn := fun _ => fun
  | [d1, d2] => { results := [.lit (.bool false)], args := [d1, d2] }
  | _ => none }
def GapSetsWrongFalsely : Prop := gapSetsRow.holds Try.pinned (OpenSpec.ofChange gapSetsWrong)

/-- 'parolelaw11.GapAssumes': WHATEVER THE INPUT: true; the input reads as it did. -/
def gapAssumesSpec : ChangeSpec := { name := "gapAssumes", fn := fun _ => fun
  | [d1, d2] => { results := [.lit (.bool true)], args := [d1, d2] }
  | _ => none }
def gapAssumesRow : OpenClaim := { program := "ytajlmkokfgbjdaa", sum := "33aa2819034509e5dfeddbf21493d42f3305f74a30fbcb6a261a009ac62052cd", func := "parole/parolelaw11.GapAssumes", spec := "gapAssumes", unfollowed := true, recurses := true, apart := false }
def GapAssumesSaid : Prop := gapAssumesRow.holds Try.pinned (OpenSpec.ofChange gapAssumesSpec)

/-- ITS FALSE NEIGHBOUR: 'it returns false'. Refute it at one input. -/
def gapAssumesWrong : ChangeSpec := { name := "gapAssumes", fn := fun _ => fun
  | [d1, d2] => { results := [.lit (.bool false)], args := [d1, d2] }
  | _ => none }
def GapAssumesWrongFalsely : Prop := gapAssumesRow.holds Try.pinned (OpenSpec.ofChange gapAssumesWrong)

/-- 'parolelaw11.GapShifts': WHATEVER THE INPUT: true; the input reads as it did. -/
def gapShiftsSpec : ChangeSpec := { name := "gapShifts", fn := fun _ => fun
  | [d1, d2, d3] => { results := [.lit (.bool true)], args := [d1, d2, d3] }
  | _ => none }
def gapShiftsRow : OpenClaim := { program := "ytajlmkokfgbjdaa", sum := "33aa2819034509e5dfeddbf21493d42f3305f74a30fbcb6a261a009ac62052cd", func := "parole/parolelaw11.GapShifts", spec := "gapShifts", unfollowed := true, recurses := true, apart := false }
def GapShiftsSaid : Prop := gapShiftsRow.holds Try.pinned (OpenSpec.ofChange gapShiftsSpec)

/-- ITS FALSE NEIGHBOUR: 'it returns false'. Refute it at one input. -/
def gapShiftsWrong : ChangeSpec := { name := "gapShifts", fn := fun _ => fun
  | [d1, d2, d3] => { results := [.lit (.bool false)], args := [d1, d2, d3] }
  | _ => none }
def GapShiftsWrongFalsely : Prop := gapShiftsRow.holds Try.pinned (OpenSpec.ofChange gapShiftsWrong)

/-- 'parolelaw11.GapOrder': WHATEVER THE INPUT: true; the input reads as it did. -/
def gapOrderSpec : ChangeSpec := { name := "gapOrder", fn := fun _ => fun
  | [d1, d2, d3] => { results := [.lit (.bool true)], args := [d1, d2, d3] }
  | _ => none }
def gapOrderRow : OpenClaim := { program := "ytajlmkokfgbjdaa", sum := "33aa2819034509e5dfeddbf21493d42f3305f74a30fbcb6a261a009ac62052cd", func := "parole/parolelaw11.GapOrder", spec := "gapOrder", unfollowed := true, recurses := true, apart := false }
def GapOrderSaid : Prop := gapOrderRow.holds Try.pinned (OpenSpec.ofChange gapOrderSpec)

/-- ITS FALSE NEIGHBOUR: 'it returns false'. Refute it at one input. -/
def gapOrderWrong : ChangeSpec := { name := "gapOrder", fn := fun _ => fun
  | [d1, d2, d3] => { results := [.lit (.bool false)], args := [d1, d2, d3] }
  | _ => none }
def GapOrderWrongFalsely : Prop := gapOrderRow.holds Try.pinned (OpenSpec.ofChange gapOrderWrong)

/-- 'parolelaw11.GapWidens': WHATEVER THE INPUT: true; the input reads as it did. -/
def gapWidensSpec : ChangeSpec := { name := "gapWidens", fn := fun _ => fun
  | [d1, d2, d3] => { results := [.lit (.bool true)], args := [d1, d2, d3] }
  | _ => none }
def gapWidensRow : OpenClaim := { program := "ytajlmkokfgbjdaa", sum := "33aa2819034509e5dfeddbf21493d42f3305f74a30fbcb6a261a009ac62052cd", func := "parole/parolelaw11.GapWidens", spec := "gapWidens", unfollowed := true, recurses := true, apart := false }
def GapWidensSaid : Prop := gapWidensRow.holds Try.pinned (OpenSpec.ofChange gapWidensSpec)

/-- ITS FALSE NEIGHBOUR: 'it returns false'. Refute it at one input. -/
def gapWidensWrong : ChangeSpec := { name := "gapWidens", fn := fun _ => fun
  | [d1, d2, d3] => { results := [.lit (.bool false)], args := [d1, d2, d3] }
  | _ => none }
def GapWidensWrongFalsely : Prop := gapWidensRow.holds Try.pinned (OpenSpec.ofChange gapWidensWrong)

/-- 'parolelaw11.GapMatchesReference': WHATEVER THE INPUT: true; the input reads as it did. -/
def gapMatchesReferenceSpec : ChangeSpec := { name := "gapMatchesReference", fn := fun _ => fun
  | [d1, d2, d3] => { results := [.lit (.bool true)], args := [d1, d2, d3] }
  | _ => none }
def gapMatchesReferenceRow : OpenClaim := { program := "ytajlmkokfgbjdaa", sum := "33aa2819034509e5dfeddbf21493d42f3305f74a30fbcb6a261a009ac62052cd", func := "parole/parolelaw11.GapMatchesReference", spec := "gapMatchesReference", unfollowed := true, recurses := true, apart := false }
def GapMatchesReferenceSaid : Prop := gapMatchesReferenceRow.holds Try.pinned (OpenSpec.ofChange gapMatchesReferenceSpec)

/-- ITS FALSE NEIGHBOUR: 'it returns false'. Refute it at one input. -/
def gapMatchesReferenceWrong : ChangeSpec := { name := "gapMatchesReference", fn := fun _ => fun
  | [d1, d2, d3] => { results := [.lit (.bool false)], args := [d1, d2, d3] }
  | _ => none }
def GapMatchesReferenceWrongFalsely : Prop := gapMatchesReferenceRow.holds Try.pinned (OpenSpec.ofChange gapMatchesReferenceWrong)

/- THE SECOND FORM. 'bulk': how many values and letters a reading holds, each counted each time it is reached (what is shared counts as often as it is met; a slice's spare places count too). A statement '..UptoSaid' is the law's where the arguments, and the package variables that the reading takes, are together of bulk at most 1048576: NARROWER than '..Said'. Prove '..Said' where nothing that the law and all that it calls make is longer than what came in: it says more and counts as full. Else prove '..UptoSaid'. A law counts once. -/
mutual
def uptoBulk {H : Type} : DataW H → Nat
  | .lit (.string bytes) => bytes.length + 1
  | .lit _ => 1
  | .nil => 1
  | .ptr d => uptoBulk d + 1
  | .slice elems spare => uptoBulkAll elems + uptoBulkAll spare + 1
  | .agg parts => uptoBulkAll parts + 1
  | .iface _ d => uptoBulk d + 1
  | .map entries => uptoBulkEntries entries + 1
  | .held _ => 1
def uptoBulkAll {H : Type} : List (DataW H) → Nat
  | [] => 0
  | d :: r => uptoBulk d + uptoBulkAll r
def uptoBulkEntries {H : Type} : List (Lit × DataW H) → Nat
  | [] => 0
  | x :: r => uptoBulkEntry x + uptoBulkEntries r
def uptoBulkEntry {H : Type} : Lit × DataW H → Nat
  | (.string bytes, d) => bytes.length + uptoBulk d + 1
  | (_, d) => uptoBulk d + 1
 end
def uptoSmall : (H : Type) → List (DataW H) → Bool := fun _ ds => decide (uptoBulkAll ds ≤ 1048576)
def OpenSpec.upto (s : _root_.Go.ChangeSpec) : _root_.Go.OpenSpec := { _root_.Go.OpenSpec.ofChange s with cond := some uptoSmall }

/-- 'parolelaw11.GapSets', WHERE WHAT IT READS IS OF BULK AT MOST 1048576: true; the input reads as it did. -/
def gapSetsUptoRow : OpenClaim := { program := "ytajlmkokfgbjdaa", sum := "33aa2819034509e5dfeddbf21493d42f3305f74a30fbcb6a261a009ac62052cd", func := "parole/parolelaw11.GapSets", spec := "gapSets", unfollowed := true, recurses := true, apart := false, narrowed := true }
def GapSetsUptoSaid : Prop := gapSetsUptoRow.holds Try.pinned (OpenSpec.upto gapSetsSpec)

/-- 'parolelaw11.GapAssumes', WHERE WHAT IT READS IS OF BULK AT MOST 1048576: true; the input reads as it did. -/
def gapAssumesUptoRow : OpenClaim := { program := "ytajlmkokfgbjdaa", sum := "33aa2819034509e5dfeddbf21493d42f3305f74a30fbcb6a261a009ac62052cd", func := "parole/parolelaw11.GapAssumes", spec := "gapAssumes", unfollowed := true, recurses := true, apart := false, narrowed := true }
def GapAssumesUptoSaid : Prop := gapAssumesUptoRow.holds Try.pinned (OpenSpec.upto gapAssumesSpec)

/-- 'parolelaw11.GapShifts', WHERE WHAT IT READS IS OF BULK AT MOST 1048576: true; the input reads as it did. -/
def gapShiftsUptoRow : OpenClaim := { program := "ytajlmkokfgbjdaa", sum := "33aa2819034509e5dfeddbf21493d42f3305f74a30fbcb6a261a009ac62052cd", func := "parole/parolelaw11.GapShifts", spec := "gapShifts", unfollowed := true, recurses := true, apart := false, narrowed := true }
def GapShiftsUptoSaid : Prop := gapShiftsUptoRow.holds Try.pinned (OpenSpec.upto gapShiftsSpec)

/-- 'parolelaw11.GapOrder', WHERE WHAT IT READS IS OF BULK AT MOST 1048576: true; the input reads as it did. -/
def gapOrderUptoRow : OpenClaim := { program := "ytajlmkokfgbjdaa", sum := "33aa2819034509e5dfeddbf21493d42f3305f74a30fbcb6a261a009ac62052cd", func := "parole/parolelaw11.GapOrder", spec := "gapOrder", unfollowed := true, recurses := true, apart := false, narrowed := true }
def GapOrderUptoSaid : Prop := gapOrderUptoRow.holds Try.pinned (OpenSpec.upto gapOrderSpec)

/-- 'parolelaw11.GapWidens', WHERE WHAT IT READS IS OF BULK AT MOST 1048576: true; the input reads as it did. -/
def gapWidensUptoRow : OpenClaim := { program := "ytajlmkokfgbjdaa", sum := "33aa2819034509e5dfeddbf21493d42f3305f74a30fbcb6a261a009ac62052cd", func := "parole/parolelaw11.GapWidens", spec := "gapWidens", unfollowed := true, recurses := true, apart := false, narrowed := true }
def GapWidensUptoSaid : Prop := gapWidensUptoRow.holds Try.pinned (OpenSpec.upto gapWidensSpec)

/-- 'parolelaw11.GapMatchesReference', WHERE WHAT IT READS IS OF BULK AT MOST 1048576: true; the input reads as it did. -/
def gapMatchesReferenceUptoRow : OpenClaim := { program := "ytajlmkokfgbjdaa", sum := "33aa2819034509e5dfeddbf21493d42f3305f74a30fbcb6a261a009ac62052cd", func := "parole/parolelaw11.GapMatchesReference", spec := "gapMatchesReference", unfollowed := true, recurses := true, apart := false, narrowed := true }
def GapMatchesReferenceUptoSaid : Prop := gapMatchesReferenceUptoRow.holds Try.pinned (OpenSpec.upto gapMatchesReferenceSpec)

end Rows
end Go.Proofs.Ytajlmkokfgbjdaa
