/- The greatest summary. No conditions. -/
import Derived.Test.YtifeioddiddnoaaDoorScE
import Derived.Test.YtifeioddiddnoaaDoorScEp
import Derived.Test.YtifeioddiddnoaaDoorAbsE
set_option linter.unusedVariables false
set_option linter.unusedSimpArgs false
namespace Go.Proofs.YtifeioddiddnoaaDoor
open Go.Abs Go Go.RowKit
set_option maxRecDepth 20000
def topS (id : Int) : Sy := ⟨id, nf (trAll 255), 4294967294, 7, 0, prAll, 1099511627776⟩
def zSum : Sy := ⟨0, ⟨0, 0, 0, 0, 0⟩, 0, 0, 0, [], 0⟩
end Go.Proofs.YtifeioddiddnoaaDoor
