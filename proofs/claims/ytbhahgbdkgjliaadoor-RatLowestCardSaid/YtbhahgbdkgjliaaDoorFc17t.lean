/- RatLowest for every input that came in. No conditions. -/
import Derived.Test.YtbhahgbdkgjliaaDoorFc17
import Derived.Test.YtbhahgbdkgjliaaDoorOpens
set_option linter.unusedVariables false
set_option linter.unusedSimpArgs false
namespace Go.Proofs.YtbhahgbdkgjliaaDoor
open Go.Abs Go Go.RowKit
theorem ratLowest_true (d0 : Dd) (v0 : Value) (d1 : Dd) (v1 : Value) (d2 : Dd) (v2 : Value) (W : World) (hG : gi.p W) (h0 : Dd.Ty Tryd.prog 36 d0) (r0 : V noPl (fun _ => False) W d0.aw v0) (h1 : Dd.Ty Tryd.prog 36 d1) (r1 : V noPl (fun _ => False) W d1.aw v1) (h2 : Dd.Ty Tryd.prog 21 d2) (r2 : V noPl (fun _ => False) W d2.aw v2) :
    Says 7 #[v0, v1, v2] W := by
  obtain ⟨x0, x1, e0, a0, a1⟩ := arr2_of h0
  obtain ⟨y0, y1, e1, b0, b1⟩ := arr2_of h1
  obtain ⟨k, rfl, w⟩ := h2.int_inv Tryd.underlying21
  rw [e0] at r0; rw [e1] at r1
  exact FC.calls (ratLowest_fc x0 x1 y0 y1 k a0 a1 b0 b1 (wf32 w)) (vs := [v0, v1, v2]) hG (.cons r0 (.cons r1 (.cons r2 .nil)))
end Go.Proofs.YtbhahgbdkgjliaaDoor
