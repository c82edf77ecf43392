/- EncodeOpens for every input that came in, of bulk at most 1048576. No conditions. -/
import Derived.Test.YtmfccaidgaelcaaEc27
import Derived.Test.YtmfccaidgaelcaaEc17
import Derived.Test.YtmfccaidgaelcaaOpens
set_option linter.unusedVariables false
set_option linter.unusedSimpArgs false
namespace Go.Proofs.Ytmfccaidgaelcaa
open Go.Abs Go Go.RowKit
theorem arrTwoO {P : Program} {t e : TypeId} {d : Dd} (hu : P.underlying t = some (.array 2 e)) (h : Dd.Ty P t d) : ∃ a b, d = .agg [a, b] ∧ Dd.Ty P e a ∧ Dd.Ty P e b := by
  obtain ⟨l, rfl, h1, h2⟩ := h.arr_inv hu
  match l, h1 with
  | [a, b], _ => exact ⟨a, b, rfl, h2 a (by simp), h2 b (by simp)⟩
theorem encodeOpens_true (d0 : Dd) (v0 : Value) (d1 : Dd) (v1 : Value) (d2 : Dd) (v2 : Value) (W : World) (h0 : Dd.Ty Try.prog 26 d0) (r0 : V noPl (fun _ => False) W d0.aw v0) (z0 : d0.sz ≤ 1048576) (h1 : Dd.Ty Try.prog 83 d1) (r1 : V noPl (fun _ => False) W d1.aw v1) (z1 : d1.sz ≤ 1048576) (h2 : Dd.Ty Try.prog 5 d2) (r2 : V noPl (fun _ => False) W d2.aw v2) (z2 : d2.sz ≤ 1048576) :
    Says 9 #[v0, v1, v2] W := by
  obtain ⟨x, e0, ok, h64, hB⟩ := open_df h0
  obtain ⟨a, b, rfl, ha, hb⟩ := arrTwoO Try.underlying83 h1
  obtain ⟨k0, rfl, wa⟩ := ha.int_inv Try.underlying3
  obtain ⟨k1, rfl, wb⟩ := hb.int_inv Try.underlying3
  obtain ⟨n, rfl, wn⟩ := h2.int_inv Try.underlying5
  rw [e0] at r0
  exact FC.calls (opensLaw_fc x k0 k1 n ok (Nat.le_trans hB z0) (wf8 wn)) (vs := [v0, v1, v2]) trivial (.cons r0 (.cons r1 (.cons r2 .nil)))
end Go.Proofs.Ytmfccaidgaelcaa
