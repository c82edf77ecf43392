/- RatTexts for every input that came in. No conditions. -/
import Derived.Test.YtbhahgbdkgjliaaDoorFc23
import Derived.Test.YtbhahgbdkgjliaaDoorOpens
set_option linter.unusedVariables false
set_option linter.unusedSimpArgs false
namespace Go.Proofs.YtbhahgbdkgjliaaDoor
open Go.Abs Go Go.RowKit
theorem arr3 {P : Program} {t e : TypeId} {d : Dd} (hu : P.underlying t = some (.array 3 e)) (h : Dd.Ty P t d) : ∃ a b c, d = .agg [a, b, c] ∧ Dd.Ty P e a ∧ Dd.Ty P e b ∧ Dd.Ty P e c := by
  obtain ⟨l, rfl, h1, h2⟩ := h.arr_inv hu
  match l, h1 with
  | [a, b, c], _ => exact ⟨a, b, c, rfl, h2 a (by simp), h2 b (by simp), h2 c (by simp)⟩
theorem ratTexts_true (d0 : Dd) (v0 : Value) (d1 : Dd) (v1 : Value) (d2 : Dd) (v2 : Value) (W : World) (hG : gi.p W) (h0 : Dd.Ty Tryd.prog 36 d0) (r0 : V noPl (fun _ => False) W d0.aw v0) (h1 : Dd.Ty Tryd.prog 37 d1) (r1 : V noPl (fun _ => False) W d1.aw v1) (h2 : Dd.Ty Tryd.prog 9 d2) (r2 : V noPl (fun _ => False) W d2.aw v2) :
    Says 4 #[v0, v1, v2] W := by
  obtain ⟨x0, x1, e0, w0, w1⟩ := arr2_of h0
  obtain ⟨a, b, c, rfl, ha, hb, hc⟩ := arr3 Tryd.underlying37 h1
  obtain ⟨z0, rfl, wa⟩ := ha.int_inv Tryd.underlying5
  obtain ⟨z1, rfl, wb⟩ := hb.int_inv Tryd.underlying5
  obtain ⟨z2, rfl, wc⟩ := hc.int_inv Tryd.underlying5
  obtain ⟨n0, rfl, l0⟩ := wf8 wa
  obtain ⟨n1, rfl, l1⟩ := wf8 wb
  obtain ⟨n2, rfl, l2⟩ := wf8 wc
  obtain ⟨s, rfl, hs⟩ := h2.str_inv Tryd.underlying9
  rw [e0] at r0
  have hml : maxLen = 9223372036854775807 := by decide
  exact FC.calls (ratTexts_fc x0 x1 n0 n1 n2 s w0 w1 l0 l1 l2 (by omega)) (vs := [v0, v1, v2]) hG (.cons r0 (.cons r1 (.cons r2 .nil)))
end Go.Proofs.YtbhahgbdkgjliaaDoor
