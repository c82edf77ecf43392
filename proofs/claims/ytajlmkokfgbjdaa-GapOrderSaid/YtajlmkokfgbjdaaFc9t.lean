/- GapOrder for every input that came in. No conditions. -/
import Derived.Test.YtajlmkokfgbjdaaFp4
import Derived.Test.YtajlmkokfgbjdaaFc9
set_option linter.unusedVariables false
set_option linter.unusedSimpArgs false
namespace Go.Proofs.Ytajlmkokfgbjdaa
open Go.Abs Go Go.RowKit
theorem gapOrder_true (d0 : Dd) (v0 : Value) (d1 : Dd) (v1 : Value) (d2 : Dd) (v2 : Value) (W : World) (h0 : Dd.Ty Try.prog 28 d0) (r0 : V noPl (fun _ => False) W d0.aw v0) (h1 : Dd.Ty Try.prog 24 d1) (r1 : V noPl (fun _ => False) W d1.aw v1) (h2 : Dd.Ty Try.prog 26 d2) (r2 : V noPl (fun _ => False) W d2.aw v2) :
    Says 6 #[v0, v1, v2] W := by
  obtain ⟨V0, P0, N, L, M, e0, hV, hP, lN, lL, lM, bL, bM⟩ := input_of h0
  obtain ⟨V1, P1, N1, e1, _, hV1, hP1, lN1⟩ := raw_of h1
  obtain ⟨xs, e2, _, lx, wx⟩ := ints_of Try.underlying26 Try.underlying5 h2
  rw [e0] at r0; rw [e1] at r1; rw [e2] at r2
  exact FC.calls (gapOrder_fc V0 P0 V1 P1 N L M N1 xs hV hP lN lN1 lL lx bL (u8_getD wx)) (vs := [v0, v1, v2]) (.cons r0 (.cons r1 (.cons r2 .nil)))
end Go.Proofs.Ytajlmkokfgbjdaa
