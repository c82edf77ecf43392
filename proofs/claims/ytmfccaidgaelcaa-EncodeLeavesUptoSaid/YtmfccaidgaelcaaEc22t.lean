/- EncodeLeaves for every input that came in, of bulk at most 1048576. No conditions. -/
import Derived.Test.YtmfccaidgaelcaaEc22
import Derived.Test.YtmfccaidgaelcaaOpens
set_option linter.unusedVariables false
set_option linter.unusedSimpArgs false
namespace Go.Proofs.Ytmfccaidgaelcaa
open Go.Abs Go Go.RowKit
theorem arrTwo {P : Program} {t e : TypeId} {d : Dd} (hu : P.underlying t = some (.array 2 e)) (h : Dd.Ty P t d) : ∃ a b, d = .agg [a, b] ∧ Dd.Ty P e a ∧ Dd.Ty P e b := by
  obtain ⟨l, rfl, h1, h2⟩ := h.arr_inv hu
  match l, h1 with
  | [a, b], _ => exact ⟨a, b, rfl, h2 a (by simp), h2 b (by simp)⟩
theorem encodeLeaves_true (d0 : Dd) (v0 : Value) (d1 : Dd) (v1 : Value) (d2 : Dd) (v2 : Value) (W : World) (h0 : Dd.Ty Try.prog 26 d0) (r0 : V noPl (fun _ => False) W d0.aw v0) (z0 : d0.sz ≤ 1048576) (h1 : Dd.Ty Try.prog 49 d1) (r1 : V noPl (fun _ => False) W d1.aw v1) (z1 : d1.sz ≤ 1048576) (h2 : Dd.Ty Try.prog 50 d2) (r2 : V noPl (fun _ => False) W d2.aw v2) (z2 : d2.sz ≤ 1048576) :
    Says 4 #[v0, v1, v2] W := by
  obtain ⟨x, e0, ok, h64, hB⟩ := open_df h0
  obtain ⟨s, g1, g2, g3⟩ := open_sm _ d1 (Nat.le_refl _) h1
  have e1 : d1.aw = .agg s.cl := by
    obtain ⟨l, rfl, _, _⟩ := h1.st_inv Try.underlying49
    rw [← g1]; rfl
  obtain ⟨a, b, rfl, ha, hb⟩ := arrTwo Try.underlying50 h2
  obtain ⟨k0, rfl, wa⟩ := ha.int_inv Try.underlying5
  obtain ⟨k1, rfl, wb⟩ := hb.int_inv Try.underlying5
  have hbud : I64' x.budget := h64 x.budget (by
    obtain ⟨id, site, name, firm, part, params, given, vars, refs, arrays, budget, body⟩ := x
    simp [Df.w])
  rw [e0] at r0
  rw [e1] at r1
  exact FC.calls (leavesLaw_fc x s k0 k1 ok hbud (Nat.le_trans hB z0) (Nat.le_trans g3 z1) (wf8 wa) (wf8 wb)) (vs := [v0, v1, v2]) trivial (.cons r0 (.cons r1 (.cons r2 .nil)))
end Go.Proofs.Ytmfccaidgaelcaa
