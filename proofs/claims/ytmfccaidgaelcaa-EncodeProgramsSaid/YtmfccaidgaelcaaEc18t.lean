/- EncodeRoundTrip for every input that came in, of bulk at most 1048576. No conditions. -/
import Derived.Test.YtmfccaidgaelcaaEc18
import Derived.Test.YtmfccaidgaelcaaOpens
set_option linter.unusedVariables false
set_option linter.unusedSimpArgs false
namespace Go.Proofs.Ytmfccaidgaelcaa
open Go.Abs Go Go.RowKit
theorem arr2 {P : Program} {t e : TypeId} {d : Dd} (hu : P.underlying t = some (.array 2 e)) (h : Dd.Ty P t d) : ∃ a b, d = .agg [a, b] ∧ Dd.Ty P e a ∧ Dd.Ty P e b := by
  obtain ⟨l, rfl, h1, h2⟩ := h.arr_inv hu
  match l, h1 with
  | [a, b], _ => exact ⟨a, b, rfl, h2 a (by simp), h2 b (by simp)⟩
theorem encodeRoundTrip_true (d0 : Dd) (v0 : Value) (d1 : Dd) (v1 : Value) (W : World) (h0 : Dd.Ty Try.prog 26 d0) (r0 : V noPl (fun _ => False) W d0.aw v0) (z0 : d0.sz ≤ 1048576) (h1 : Dd.Ty Try.prog 28 d1) (r1 : V noPl (fun _ => False) W d1.aw v1) (z1 : d1.sz ≤ 1048576) :
    Says 3 #[v0, v1] W := by
  obtain ⟨x, e0, ok, h64, hB⟩ := open_df h0
  obtain ⟨a, b, rfl, ha, hb⟩ := arr2 Try.underlying28 h1
  obtain ⟨k0, rfl, wa⟩ := ha.int_inv Try.underlying27
  obtain ⟨k1, rfl, wb⟩ := hb.int_inv Try.underlying27
  rw [e0] at r0
  exact FC.calls (round_fc x k0 k1 ok h64 (Nat.le_trans hB z0) (wf16 wa) (wf16 wb)) (vs := [v0, v1]) trivial (.cons r0 (.cons r1 .nil))
end Go.Proofs.Ytmfccaidgaelcaa
