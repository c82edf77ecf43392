/- RatMatchesReference for every input that came in. No conditions. -/
import Derived.Test.YtbhahgbdkgjliaaGreatDoorRM1
import Derived.Test.YtbhahgbdkgjliaaGreatDoorRZ
set_option linter.unusedVariables false
set_option linter.unusedSimpArgs false
namespace Go.Proofs.YtbhahgbdkgjliaaGreatDoor
open Go.Abs Go Go.RowKit
theorem ratMatches_true (d0 : Dd) (v0 : Value) (d1 : Dd) (v1 : Value) (W : World) (hG : gi.p W) (h0 : Dd.Ty Tryz.prog 22 d0) (r0 : V noPl (fun _ => False) W d0.aw v0) (h1 : Dd.Ty Tryz.prog 22 d1) (r1 : V noPl (fun _ => False) W d1.aw v1) :
    Says 3 #[v0, v1] W := by
  obtain ⟨x0, x1, e0, a0, a1⟩ := arr2_of h0
  obtain ⟨y0, y1, e1, b0, b1⟩ := arr2_of h1
  rw [e0] at r0; rw [e1] at r1
  exact FC.calls (ratMatches_fc x0 x1 y0 y1 a0 a1 b0 b1) (vs := [v0, v1]) hG (.cons r0 (.cons r1 .nil))
end Go.Proofs.YtbhahgbdkgjliaaGreatDoor
