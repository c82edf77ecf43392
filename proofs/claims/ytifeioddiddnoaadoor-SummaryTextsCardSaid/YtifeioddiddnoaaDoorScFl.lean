/- The order of summaries. No conditions. -/
import Derived.Test.YtifeioddiddnoaaDoorScD
import Derived.Test.YtifeioddiddnoaaDoorScC
import Derived.Test.YtifeioddiddnoaaDoorAbsE
set_option linter.unusedVariables false
set_option linter.unusedSimpArgs false
namespace Go.Proofs.YtifeioddiddnoaaDoor
open Go.Abs Go Go.RowKit
set_option maxRecDepth 20000
def leqQ (a b : Sy) (q : Bool) : Bool := ((((decide (a.id = b.id) && q) && inM a.throws b.throws) && inM a.locks b.locks) && inM b.loads a.loads) && decide (a.cost ≤ b.cost)
def leqS (a b : Sy) (q : Bool) : Bool := a.pairs.all (hasP b.pairs) && leqQ a b q
end Go.Proofs.YtifeioddiddnoaaDoor
