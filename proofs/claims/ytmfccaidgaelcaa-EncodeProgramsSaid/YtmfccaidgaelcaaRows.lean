/-
  NARROWER THAN 'FOR EVERY INPUT', by the rows' own cells (each row's printed sentence says how): EncodeRoundTrip: loops · EncodeLeaves: loops · EncodeLengths: loops · EncodeMatchesReference: loops · EncodeOpens: loops.
  DERIVED. THE GIVEN ROWS OF THIS SEAT. 7 by the template 'for every input the law returns true; each argument reads behind the call as it read before'; 0 by the template 'total and deterministic' (their statements: YtmfccaidgaelcaaTotals.lean).
  GIVEN WITH THE SEED: the statements are not yours to turn. If you find one false, say at which input.
  Laid BY PROGRAM, IN A SANDBOX (cutbox-rows.mjs): the forced cells as the released guide's own fill.sh prints them over the translation 49613a43d5e7d533… (all of the seat's roots in one cut). By AI agents, Wed Nov 11 2026. No macro, syntax, notation, axiom, sorry.
-/
import Derived.Test.YtmfccaidgaelcaaChecked
import GoSem.Claim
import GoSem.ClaimJoined
import GoSem.ClaimMapViews
import Derived.JoinedTies
import Derived.KernelRfl
namespace Go.Proofs.Ytmfccaidgaelcaa
/- THE CELL 'sum', in the pinned program and in every row, IS THE sha256 OF THE DUMP (.gsa) THAT YtmfccaidgaelcaaProg.lean LOADS. Nothing in Lean hashes anything: it is a label: what it is worth is what the hold of that sum in a sandbox is worth. -/
noncomputable def Try.pinned : Pinned := { name := "ytmfccaidgaelcaa", sum := "49613a43d5e7d533dd811a4ccb0c893f1c3de0239865af7351913336dfbc023f", checked := Try.checked }
namespace Rows
def none {H : Type} : Left H := { results := [], args := [] }

/-- 'parolelaw07.EncodeRoundTrip': WHATEVER THE INPUT: true; the input reads as it did. -/
def encodeRoundTripSpec : ChangeSpec := { name := "encodeRoundTrip", fn := fun _ => fun
  | [d1, d2] => { results := [.lit (.bool true)], args := [d1, d2] }
  | _ => none }
def encodeRoundTripRow : OpenClaim := { program := "ytmfccaidgaelcaa", sum := "49613a43d5e7d533dd811a4ccb0c893f1c3de0239865af7351913336dfbc023f", func := "parole/parolelaw07.EncodeRoundTrip", spec := "encodeRoundTrip", unfollowed := true, recurses := true, loops := true, apart := false }
def EncodeRoundTripSaid : Prop := encodeRoundTripRow.holds Try.pinned (OpenSpec.ofChange encodeRoundTripSpec)

/-- ITS FALSE NEIGHBOUR: 'it returns false'. Refute it at one input. -/
def encodeRoundTripWrong : ChangeSpec := { name := "encodeRoundTrip", fn := fun _ => fun
  | [d1, d2] => { results := [.lit (.bool false)], args := [d1, d2] }
  | _ => none }
def EncodeRoundTripWrongFalsely : Prop := encodeRoundTripRow.holds Try.pinned (OpenSpec.ofChange encodeRoundTripWrong)

/-- 'parolelaw07.EncodeLeaves': WHATEVER THE INPUT: true; the input reads as it did. -/
def encodeLeavesSpec : ChangeSpec := { name := "encodeLeaves", fn := fun _ => fun
  | [d1, d2, d3] => { results := [.lit (.bool true)], args := [d1, d2, d3] }
  | _ => none }
def encodeLeavesRow : OpenClaim := { program := "ytmfccaidgaelcaa", sum := "49613a43d5e7d533dd811a4ccb0c893f1c3de0239865af7351913336dfbc023f", func := "parole/parolelaw07.EncodeLeaves", spec := "encodeLeaves", unfollowed := true, recurses := true, loops := true, apart := false }
def EncodeLeavesSaid : Prop := encodeLeavesRow.holds Try.pinned (OpenSpec.ofChange encodeLeavesSpec)

/-- ITS FALSE NEIGHBOUR: 'it returns false'. Refute it at one input. -/
def encodeLeavesWrong : ChangeSpec := { name := "encodeLeaves", fn := fun _ => fun
  | [d1, d2, d3] => { results := [.lit (.bool false)], args := [d1, d2, d3] }
  | _ => none }
def EncodeLeavesWrongFalsely : Prop := encodeLeavesRow.holds Try.pinned (OpenSpec.ofChange encodeLeavesWrong)

/-- 'parolelaw07.EncodeRefuses': WHATEVER THE INPUT: true; the input reads as it did. -/
def encodeRefusesSpec : ChangeSpec := { name := "encodeRefuses", fn := fun _ => fun
  | [d1, d2] => { results := [.lit (.bool true)], args := [d1, d2] }
  | _ => none }
def encodeRefusesRow : OpenClaim := { program := "ytmfccaidgaelcaa", sum := "49613a43d5e7d533dd811a4ccb0c893f1c3de0239865af7351913336dfbc023f", func := "parole/parolelaw07.EncodeRefuses", spec := "encodeRefuses", unfollowed := true, recurses := true, apart := false }
def EncodeRefusesSaid : Prop := encodeRefusesRow.holds Try.pinned (OpenSpec.ofChange encodeRefusesSpec)

/-- ITS FALSE NEIGHBOUR: 'it returns false'. Refute it at one input. -/
def encodeRefusesWrong : ChangeSpec := { name := "encodeRefuses", fn := fun _ => fun
  | [d1, d2] => { results := [.lit (.bool false)], args := [d1, d2] }
  | _ => none }
def EncodeRefusesWrongFalsely : Prop := encodeRefusesRow.holds Try.pinned (OpenSpec.ofChange encodeRefusesWrong)

/-- 'parolelaw07.EncodeLengths': WHATEVER THE INPUT: true; the input reads as it did. -/
def encodeLengthsSpec : ChangeSpec := { name := "encodeLengths", fn := fun _ => fun
  | [d1, d2, d3] => { results := [.lit (.bool true)], args := [d1, d2, d3] }
  | _ => none }
def encodeLengthsRow : OpenClaim := { program := "ytmfccaidgaelcaa", sum := "49613a43d5e7d533dd811a4ccb0c893f1c3de0239865af7351913336dfbc023f", func := "parole/parolelaw07.EncodeLengths", spec := "encodeLengths", unfollowed := true, recurses := true, loops := true, apart := false }
def EncodeLengthsSaid : Prop := encodeLengthsRow.holds Try.pinned (OpenSpec.ofChange encodeLengthsSpec)

/-- ITS FALSE NEIGHBOUR: 'it returns false'. Refute it at one input. -/
def encodeLengthsWrong : ChangeSpec := { name := "encodeLengths", fn := fun _ => fun
  | [d1, d2, d3] => { results := [.lit (.bool false)], args := [d1, d2, d3] }
  | _ => none }
def EncodeLengthsWrongFalsely : Prop := encodeLengthsRow.holds Try.pinned (OpenSpec.ofChange encodeLengthsWrong)

/-- 'parolelaw07.EncodeMatchesReference': WHATEVER THE INPUT: true; the input reads as it did. -/
def encodeMatchesReferenceSpec : ChangeSpec := { name := "encodeMatchesReference", fn := fun _ => fun
  | [d1, d2, d3] => { results := [.lit (.bool true)], args := [d1, d2, d3] }
  | _ => none }
def encodeMatchesReferenceRow : OpenClaim := { program := "ytmfccaidgaelcaa", sum := "49613a43d5e7d533dd811a4ccb0c893f1c3de0239865af7351913336dfbc023f", func := "parole/parolelaw07.EncodeMatchesReference", spec := "encodeMatchesReference", unfollowed := true, recurses := true, loops := true, apart := false }
def EncodeMatchesReferenceSaid : Prop := encodeMatchesReferenceRow.holds Try.pinned (OpenSpec.ofChange encodeMatchesReferenceSpec)

/-- ITS FALSE NEIGHBOUR: 'it returns false'. Refute it at one input. -/
def encodeMatchesReferenceWrong : ChangeSpec := { name := "encodeMatchesReference", fn := fun _ => fun
  | [d1, d2, d3] => { results := [.lit (.bool false)], args := [d1, d2, d3] }
  | _ => none }
def EncodeMatchesReferenceWrongFalsely : Prop := encodeMatchesReferenceRow.holds Try.pinned (OpenSpec.ofChange encodeMatchesReferenceWrong)

/-- 'parolelaw07.EncodePrograms': WHATEVER THE INPUT: true; the input reads as it did. -/
def encodeProgramsSpec : ChangeSpec := { name := "encodePrograms", fn := fun _ => fun
  | [d1, d2] => { results := [.lit (.bool true)], args := [d1, d2] }
  | _ => none }
def encodeProgramsRow : OpenClaim := { program := "ytmfccaidgaelcaa", sum := "49613a43d5e7d533dd811a4ccb0c893f1c3de0239865af7351913336dfbc023f", func := "parole/parolelaw07.EncodePrograms", spec := "encodePrograms", unfollowed := true, recurses := true, apart := false }
def EncodeProgramsSaid : Prop := encodeProgramsRow.holds Try.pinned (OpenSpec.ofChange encodeProgramsSpec)

/-- ITS FALSE NEIGHBOUR: 'it returns false'. Refute it at one input. -/
def encodeProgramsWrong : ChangeSpec := { name := "encodePrograms", fn := fun _ => fun
  | [d1, d2] => { results := [.lit (.bool false)], args := [d1, d2] }
  | _ => none }
def EncodeProgramsWrongFalsely : Prop := encodeProgramsRow.holds Try.pinned (OpenSpec.ofChange encodeProgramsWrong)

/-- 'parolelaw07.EncodeOpens': WHATEVER THE INPUT: true; the input reads as it did. -/
def encodeOpensSpec : ChangeSpec := { name := "encodeOpens", fn := fun _ => fun
  | [d1, d2, d3] => { results := [.lit (.bool true)], args := [d1, d2, d3] }
  | _ => none }
def encodeOpensRow : OpenClaim := { program := "ytmfccaidgaelcaa", sum := "49613a43d5e7d533dd811a4ccb0c893f1c3de0239865af7351913336dfbc023f", func := "parole/parolelaw07.EncodeOpens", spec := "encodeOpens", unfollowed := true, recurses := true, loops := true, apart := false }
def EncodeOpensSaid : Prop := encodeOpensRow.holds Try.pinned (OpenSpec.ofChange encodeOpensSpec)

/-- ITS FALSE NEIGHBOUR: 'it returns false'. Refute it at one input. -/
def encodeOpensWrong : ChangeSpec := { name := "encodeOpens", fn := fun _ => fun
  | [d1, d2, d3] => { results := [.lit (.bool false)], args := [d1, d2, d3] }
  | _ => none }
def EncodeOpensWrongFalsely : Prop := encodeOpensRow.holds Try.pinned (OpenSpec.ofChange encodeOpensWrong)

/- THE SECOND FORM. 'bulk': how many values and letters a reading holds, each counted each time it is reached (what is shared counts as often as it is met; a slice's spare places count too). A statement '..UptoSaid' is the law's where the arguments, and the package variables that the reading takes, are together of bulk at most 1048576: NARROWER than '..Said'. Prove '..Said' where nothing that the law and all that it calls make is longer than what came in: it says more and counts as full. Else prove '..UptoSaid'. A law counts once. -/
mutual
def uptoBulk {H : Type} : DataW H → Nat
  | .lit (.string bytes) => bytes.length + 1
  | .lit _ => 1
  | .nil => 1
  | .ptr d => uptoBulk d + 1
  | .slice elems spare => uptoBulkAll elems + uptoBulkAll spare + 1
  | .agg parts => uptoBulkAll parts + 1
  | .iface _ d => uptoBulk d + 1
  | .map entries => uptoBulkEntries entries + 1
  | .held _ => 1
def uptoBulkAll {H : Type} : List (DataW H) → Nat
  | [] => 0
  | d :: r => uptoBulk d + uptoBulkAll r
def uptoBulkEntries {H : Type} : List (Lit × DataW H) → Nat
  | [] => 0
  | x :: r => uptoBulkEntry x + uptoBulkEntries r
def uptoBulkEntry {H : Type} : Lit × DataW H → Nat
  | (.string bytes, d) => bytes.length + uptoBulk d + 1
  | (_, d) => uptoBulk d + 1
 end
def uptoSmall : (H : Type) → List (DataW H) → Bool := fun _ ds => decide (uptoBulkAll ds ≤ 1048576)
def OpenSpec.upto (s : _root_.Go.ChangeSpec) : _root_.Go.OpenSpec := { _root_.Go.OpenSpec.ofChange s with cond := some uptoSmall }

/-- 'parolelaw07.EncodeRoundTrip', WHERE WHAT IT READS IS OF BULK AT MOST 1048576: true; the input reads as it did. -/
def encodeRoundTripUptoRow : OpenClaim := { program := "ytmfccaidgaelcaa", sum := "49613a43d5e7d533dd811a4ccb0c893f1c3de0239865af7351913336dfbc023f", func := "parole/parolelaw07.EncodeRoundTrip", spec := "encodeRoundTrip", unfollowed := true, recurses := true, loops := true, apart := false, narrowed := true }
def EncodeRoundTripUptoSaid : Prop := encodeRoundTripUptoRow.holds Try.pinned (OpenSpec.upto encodeRoundTripSpec)

/-- 'parolelaw07.EncodeLeaves', WHERE WHAT IT READS IS OF BULK AT MOST 1048576: true; the input reads as it did. -/
def encodeLeavesUptoRow : OpenClaim := { program := "ytmfccaidgaelcaa", sum := "49613a43d5e7d533dd811a4ccb0c893f1c3de0239865af7351913336dfbc023f", func := "parole/parolelaw07.EncodeLeaves", spec := "encodeLeaves", unfollowed := true, recurses := true, loops := true, apart := false, narrowed := true }
def EncodeLeavesUptoSaid : Prop := encodeLeavesUptoRow.holds Try.pinned (OpenSpec.upto encodeLeavesSpec)

/-- 'parolelaw07.EncodeRefuses', WHERE WHAT IT READS IS OF BULK AT MOST 1048576: true; the input reads as it did. -/
def encodeRefusesUptoRow : OpenClaim := { program := "ytmfccaidgaelcaa", sum := "49613a43d5e7d533dd811a4ccb0c893f1c3de0239865af7351913336dfbc023f", func := "parole/parolelaw07.EncodeRefuses", spec := "encodeRefuses", unfollowed := true, recurses := true, apart := false, narrowed := true }
def EncodeRefusesUptoSaid : Prop := encodeRefusesUptoRow.holds Try.pinned (OpenSpec.upto encodeRefusesSpec)

/-- 'parolelaw07.EncodeLengths', WHERE WHAT IT READS IS OF BULK AT MOST 1048576: true; the input reads as it did. -/
def encodeLengthsUptoRow : OpenClaim := { program := "ytmfccaidgaelcaa", sum := "49613a43d5e7d533dd811a4ccb0c893f1c3de0239865af7351913336dfbc023f", func := "parole/parolelaw07.EncodeLengths", spec := "encodeLengths", unfollowed := true, recurses := true, loops := true, apart := false, narrowed := true }
def EncodeLengthsUptoSaid : Prop := encodeLengthsUptoRow.holds Try.pinned (OpenSpec.upto encodeLengthsSpec)

/-- 'parolelaw07.EncodeMatchesReference', WHERE WHAT IT READS IS OF BULK AT MOST 1048576: true; the input reads as it did. -/
def encodeMatchesReferenceUptoRow : OpenClaim := { program := "ytmfccaidgaelcaa", sum := "49613a43d5e7d533dd811a4ccb0c893f1c3de0239865af7351913336dfbc023f", func := "parole/parolelaw07.EncodeMatchesReference", spec := "encodeMatchesReference", unfollowed := true, recurses := true, loops := true, apart := false, narrowed := true }
def EncodeMatchesReferenceUptoSaid : Prop := encodeMatchesReferenceUptoRow.holds Try.pinned (OpenSpec.upto encodeMatchesReferenceSpec)

/-- 'parolelaw07.EncodePrograms', WHERE WHAT IT READS IS OF BULK AT MOST 1048576: true; the input reads as it did. -/
def encodeProgramsUptoRow : OpenClaim := { program := "ytmfccaidgaelcaa", sum := "49613a43d5e7d533dd811a4ccb0c893f1c3de0239865af7351913336dfbc023f", func := "parole/parolelaw07.EncodePrograms", spec := "encodePrograms", unfollowed := true, recurses := true, apart := false, narrowed := true }
def EncodeProgramsUptoSaid : Prop := encodeProgramsUptoRow.holds Try.pinned (OpenSpec.upto encodeProgramsSpec)

/-- 'parolelaw07.EncodeOpens', WHERE WHAT IT READS IS OF BULK AT MOST 1048576: true; the input reads as it did. -/
def encodeOpensUptoRow : OpenClaim := { program := "ytmfccaidgaelcaa", sum := "49613a43d5e7d533dd811a4ccb0c893f1c3de0239865af7351913336dfbc023f", func := "parole/parolelaw07.EncodeOpens", spec := "encodeOpens", unfollowed := true, recurses := true, loops := true, apart := false, narrowed := true }
def EncodeOpensUptoSaid : Prop := encodeOpensUptoRow.holds Try.pinned (OpenSpec.upto encodeOpensSpec)

end Rows
end Go.Proofs.Ytmfccaidgaelcaa
