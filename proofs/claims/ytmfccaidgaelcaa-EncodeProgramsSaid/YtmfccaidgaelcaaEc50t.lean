/- EncodePrograms for every input that came in. No conditions. -/
import Derived.Test.YtmfccaidgaelcaaEc50
import Derived.Test.YtmfccaidgaelcaaEc18t
import Derived.Test.YtmfccaidgaelcaaOpens
set_option linter.unusedVariables false
set_option linter.unusedSimpArgs false
namespace Go.Proofs.Ytmfccaidgaelcaa
open Go.Abs Go Go.RowKit
theorem encodePrograms_true (d0 : Dd) (v0 : Value) (d1 : Dd) (v1 : Value) (W : World) (h0 : Dd.Ty Try.prog 75 d0) (r0 : V noPl (fun _ => False) W d0.aw v0) (h1 : Dd.Ty Try.prog 28 d1) (r1 : V noPl (fun _ => False) W d1.aw v1) :
    Says 8 #[v0, v1] W := by
  obtain ⟨l, rfl, g1, g2⟩ := h0.st_inv Try.underlying75
  obtain ⟨b, rfl⟩ : ∃ b, l = [b] := by
    match l, g1 with
    | [b], _ => exact ⟨b, rfl⟩
  have hb : Dd.Ty Try.prog 31 b := g2 0 _ b rfl rfl
  obtain ⟨xs, e2, lB, lx⟩ := hb.ints_inv Try.underlying31 Try.underlying5
  obtain ⟨a, c, rfl, ha, hc⟩ := arr2 Try.underlying28 h1
  obtain ⟨k0, rfl, wa⟩ := ha.int_inv Try.underlying27
  obtain ⟨k1, rfl, wb⟩ := hc.int_inv Try.underlying27
  have e3 : (Dd.agg [b]).aw = .agg [rdI .u8 xs] := by
    show A.agg (Dd.cellsL [b]) = _
    rw [Dd.cellsL, e2, Dd.cellsL]; rfl
  rw [e3] at r0
  exact FC.calls (programs_fc xs (fun y hy => wf8 (lx y hy)) lB k0 k1 (wf16 wa) (wf16 wb)) (vs := [v0, v1]) trivial (.cons r0 (.cons r1 .nil))
end Go.Proofs.Ytmfccaidgaelcaa
