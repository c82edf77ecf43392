/- RatSums for every input that came in. No conditions. -/
import Derived.Test.YtbhahgbdkgjliaaDoorFc19
import Derived.Test.YtbhahgbdkgjliaaDoorOpens
set_option linter.unusedVariables false
set_option linter.unusedSimpArgs false
namespace Go.Proofs.YtbhahgbdkgjliaaDoor
open Go.Abs Go Go.RowKit
theorem wf16 {z : Int} (h : (Lit.int .i16 z).wf = true) : -32768 ≤ z ∧ z ≤ 32767 := by
  have h' := (Lit.wf_int_iff _ _).1 h
  have e0 : IntKind.i16.min = -32768 := by decide
  have e1 : IntKind.i16.max = 32767 := by decide
  exact ⟨by omega, by omega⟩
theorem prs_of {d : Dd} (h : Dd.Ty Tryd.prog 32 d) : ∃ p : Int × Int, d = .agg [.int .i16 p.1, .int .i16 p.2] ∧ (-32768 ≤ p.1 ∧ p.1 ≤ 32767) ∧ (-32768 ≤ p.2 ∧ p.2 ≤ 32767) := by
  obtain ⟨a, b, rfl, h0, h1⟩ := arr2 Tryd.underlying32 h
  obtain ⟨x, rfl, w0⟩ := h0.int_inv Tryd.underlying31
  obtain ⟨y, rfl, w1⟩ := h1.int_inv Tryd.underlying31
  exact ⟨(x, y), rfl, wf16 w0, wf16 w1⟩
theorem prL_of : ∀ (l : List Dd), (∀ x, x ∈ l → Dd.Ty Tryd.prog 32 x) → ∃ ps : List (Int × Int), ps.length = l.length ∧ Dd.cellsL l = prL ps ∧ ∀ p, p ∈ ps → (-32768 ≤ p.1 ∧ p.1 ≤ 32767) ∧ (-32768 ≤ p.2 ∧ p.2 ≤ 32767)
  | [], _ => ⟨[], rfl, rfl, fun p h => by cases h⟩
  | x :: l, h => by
    obtain ⟨ps, h1, h2, h3⟩ := prL_of l (fun y hy => h y (by simp [hy]))
    obtain ⟨p, rfl, h4⟩ := prs_of (h x (by simp))
    refine ⟨p :: ps, by simp [h1], ?_, fun q hq => ?_⟩
    · simp only [Dd.cellsL, Dd.cells, prL, h2, List.cons_append, List.nil_append]
    · rcases List.mem_cons.1 hq with e | e
      · rw [e]; exact h4
      · exact h3 q e
theorem ratSums_true (d0 : Dd) (v0 : Value) (d1 : Dd) (v1 : Value) (W : World) (hG : gi.p W) (h0 : Dd.Ty Tryd.prog 22 d0) (r0 : V noPl (fun _ => False) W d0.aw v0) (h1 : Dd.Ty Tryd.prog 5 d1) (r1 : V noPl (fun _ => False) W d1.aw v1) :
    Says 3 #[v0, v1] W := by
  obtain ⟨l, rfl, hl, hx⟩ := h0.sl_inv Tryd.underlying22
  obtain ⟨ps, e1, e2, e3⟩ := prL_of l hx
  obtain ⟨k, rfl, wk⟩ := h1.int_inv Tryd.underlying5
  obtain ⟨m, rfl, hm⟩ := wf8 wk
  have e0 : (Dd.sl l).aw = .ro ps.length (prL ps) := by show A.ro l.length (Dd.cellsL l) = _; rw [e1, e2]
  rw [e0] at r0
  have hml : maxLen = 9223372036854775807 := by decide
  exact FC.calls (ratSums_fc ps m e3 (by omega) (by omega)) (vs := [v0, v1]) hG (.cons r0 (.cons r1 .nil))
end Go.Proofs.YtbhahgbdkgjliaaDoor
