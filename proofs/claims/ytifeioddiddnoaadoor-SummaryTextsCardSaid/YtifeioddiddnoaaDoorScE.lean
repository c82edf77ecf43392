/- Summaries that are right. No conditions. -/
import Derived.Test.YtifeioddiddnoaaDoorScD
import Derived.Test.YtifeioddiddnoaaDoorScC
import Derived.Test.YtifeioddiddnoaaDoorAbsE
set_option linter.unusedVariables false
set_option linter.unusedSimpArgs false
namespace Go.Proofs.YtifeioddiddnoaaDoor
open Go.Abs Go Go.RowKit
set_option maxRecDepth 20000
def prOkB (x : Pr) : Bool := ((decide (x.site = 0) && decide (x.a ≠ x.b)) && lockB x.a 3) && lockB x.b 3
def prGo (b : Bool) (x : Pr) (prev : Option Pr) : Bool := (b && prOkB x) && (match prev with | none => true | some y => decide (pcmp y x < 0))
def pairsB : Bool → Option Pr → List Pr → Bool
  | b, _, [] => b
  | b, prev, x :: l => pairsB (prGo b x prev) (some x) l
theorem pairsB_false : ∀ (l : List Pr) (prev : Option Pr), pairsB false prev l = false
  | [], _ => rfl
  | x :: l, prev => by rw [pairsB]; exact pairsB_false l _
theorem lockB_bd {x : Int} (h : lockB x 3 = true) : 0 ≤ x ∧ x < 3 := by
  unfold lockB at h
  rw [Bool.and_eq_true] at h
  exact ⟨of_decide_eq_true h.1, of_decide_eq_true h.2⟩
def frontB (is : Bool) (s : Sy) : Bool := ((((((is && validB s.res) && bitsB s.throws 4294967294) && bitsB s.locks 7) && bitsB s.loads 7) && decide (0 ≤ s.cost)) && decide (s.cost ≤ 1099511627776)) && decide ((s.pairs.length : Int) ≤ 56)
def rightB (l : List Hd) (s : Sy) : Bool := pairsB (frontB (headF l s.id).isSome s) none s.pairs
def eno (b : Bool) : Int := if b then 0 else 60
end Go.Proofs.YtifeioddiddnoaaDoor
