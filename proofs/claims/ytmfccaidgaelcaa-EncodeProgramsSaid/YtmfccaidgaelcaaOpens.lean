/- How the arguments of the statements on encodings are opened. No conditions. -/
import Derived.Test.YtmfccaidgaelcaaTab
import Derived.Test.YtmfccaidgaelcaaEc1
import Derived.Test.YtmfccaidgaelcaaEp2
import Derived.DataShut
set_option linter.unusedVariables false
set_option linter.unusedSimpArgs false
namespace Go.Proofs.Ytmfccaidgaelcaa
open Go.Abs Go Go.RowKit
theorem wf64 {z : Int} (h : (Lit.int .i64 z).wf = true) : I64' z := by
  have h' := (Lit.wf_int_iff _ _).1 h
  have e0 : IntKind.i64.min = -9223372036854775808 := by decide
  have e1 : IntKind.i64.max = 9223372036854775807 := by decide
  unfold I64'
  omega
theorem wf8 {z : Int} (h : (Lit.int .u8 z).wf = true) : 0 ≤ z ∧ z ≤ 255 := by
  have h' := (Lit.wf_int_iff _ _).1 h
  have e0 : IntKind.u8.min = 0 := by decide
  have e1 : IntKind.u8.max = 255 := by decide
  omega
theorem wf16 {z : Int} (h : (Lit.int .u16 z).wf = true) : 0 ≤ z ∧ z ≤ 65535 := by
  have h' := (Lit.wf_int_iff _ _).1 h
  have e0 : IntKind.u16.min = 0 := by decide
  have e1 : IntKind.u16.max = 65535 := by decide
  omega
abbrev Says (F : FuncId) (vs : Array Value) (W : World) : Prop := Calls Try.prog F vs W fun e w' => e = .returned (.bool true) ∧ Below W.heap.size W w'
end Go.Proofs.Ytmfccaidgaelcaa
