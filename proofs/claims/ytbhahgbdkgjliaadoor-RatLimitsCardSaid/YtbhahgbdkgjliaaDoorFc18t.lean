/- RatLimits for every input that came in. No conditions. -/
import Derived.Test.YtbhahgbdkgjliaaDoorFc18b
import Derived.Test.YtbhahgbdkgjliaaDoorOpens
set_option linter.unusedVariables false
set_option linter.unusedSimpArgs false
namespace Go.Proofs.YtbhahgbdkgjliaaDoor
open Go.Abs Go Go.RowKit
theorem ratLimits_true (d0 : Dd) (v0 : Value) (d1 : Dd) (v1 : Value) (d2 : Dd) (v2 : Value) (W : World) (hG : gi.p W) (h0 : Dd.Ty Tryd.prog 5 d0) (r0 : V noPl (fun _ => False) W d0.aw v0) (h1 : Dd.Ty Tryd.prog 5 d1) (r1 : V noPl (fun _ => False) W d1.aw v1) (h2 : Dd.Ty Tryd.prog 4 d2) (r2 : V noPl (fun _ => False) W d2.aw v2) :
    Says 8 #[v0, v1, v2] W := by
  obtain ⟨p, rfl, wp⟩ := h0.int_inv Tryd.underlying5
  obtain ⟨q, rfl, wq⟩ := h1.int_inv Tryd.underlying5
  obtain ⟨b, rfl⟩ := h2.bool_inv Tryd.underlying4
  obtain ⟨m, rfl, hm⟩ := wf8 wp
  obtain ⟨n, rfl, hn⟩ := wf8 wq
  exact FC.calls (ratLimits_fc (m : Int) (n : Int) b ⟨by omega, by omega⟩ ⟨by omega, by omega⟩) (vs := [v0, v1, v2]) hG (.cons r0 (.cons r1 (.cons r2 .nil)))
end Go.Proofs.YtbhahgbdkgjliaaDoor
