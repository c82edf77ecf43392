/- EncodeRefuses for every input that came in. No conditions. -/
import Derived.Test.YtmfccaidgaelcaaEc16
import Derived.Test.YtmfccaidgaelcaaOpens
set_option linter.unusedVariables false
set_option linter.unusedSimpArgs false
namespace Go.Proofs.Ytmfccaidgaelcaa
open Go.Abs Go Go.RowKit
theorem encodeRefuses_true (d0 : Dd) (v0 : Value) (d1 : Dd) (v1 : Value) (W : World) (h0 : Dd.Ty Try.prog 3 d0) (r0 : V noPl (fun _ => False) W d0.aw v0) (h1 : Dd.Ty Try.prog 5 d1) (r1 : V noPl (fun _ => False) W d1.aw v1) :
    Says 5 #[v0, v1] W := by
  obtain ⟨n, rfl, wn⟩ := h0.int_inv Try.underlying3
  obtain ⟨k, rfl, wk⟩ := h1.int_inv Try.underlying5
  exact FC.calls (refuses_fc n k (wf64 wn) (wf8 wk)) (vs := [v0, v1]) trivial (.cons r0 (.cons r1 .nil))
end Go.Proofs.Ytmfccaidgaelcaa
