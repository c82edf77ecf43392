/- EncodeMatchesReference for every input that came in, of bulk at most 1048576. No conditions. -/
import Derived.Test.YtmfccaidgaelcaaEc35
import Derived.Test.YtmfccaidgaelcaaOpens
set_option linter.unusedVariables false
set_option linter.unusedSimpArgs false
namespace Go.Proofs.Ytmfccaidgaelcaa
open Go.Abs Go Go.RowKit
theorem arrThree {P : Program} {t e : TypeId} {d : Dd} (hu : P.underlying t = some (.array 3 e)) (h : Dd.Ty P t d) : ∃ a b c, d = .agg [a, b, c] ∧ Dd.Ty P e a ∧ Dd.Ty P e b ∧ Dd.Ty P e c := by
  obtain ⟨l, rfl, h1, h2⟩ := h.arr_inv hu
  match l, h1 with
  | [a, b, c], _ => exact ⟨a, b, c, rfl, h2 a (by simp), h2 b (by simp), h2 c (by simp)⟩
theorem encodeMatchesReference_true (d0 : Dd) (v0 : Value) (d1 : Dd) (v1 : Value) (d2 : Dd) (v2 : Value) (W : World) (h0 : Dd.Ty Try.prog 26 d0) (r0 : V noPl (fun _ => False) W d0.aw v0) (z0 : d0.sz ≤ 1048576) (h1 : Dd.Ty Try.prog 70 d1) (r1 : V noPl (fun _ => False) W d1.aw v1) (z1 : d1.sz ≤ 1048576) (h2 : Dd.Ty Try.prog 31 d2) (r2 : V noPl (fun _ => False) W d2.aw v2) (z2 : d2.sz ≤ 1048576) :
    Says 7 #[v0, v1, v2] W := by
  obtain ⟨x, e0, ok, h64, hB⟩ := open_df h0
  obtain ⟨a, b, c, rfl, ha, hb, hc⟩ := arrThree Try.underlying70 h1
  obtain ⟨k0, rfl, wa⟩ := ha.int_inv Try.underlying27
  obtain ⟨k1, rfl, wb⟩ := hb.int_inv Try.underlying27
  obtain ⟨k2, rfl, wc⟩ := hc.int_inv Try.underlying27
  obtain ⟨xs, e2, _, lx⟩ := h2.ints_inv Try.underlying31 Try.underlying5
  obtain ⟨l, rfl, _, _⟩ := h2.sl_inv Try.underlying31
  simp only [Dd.cells, List.cons.injEq, and_true] at e2
  have hl : l.length = xs.length := by
    have := congrArg (fun a => match a with | A.ro n _ => n | _ => 0) e2
    simpa [rdI] using this
  have hsz : xs.length ≤ 1048576 := by
    have : ∀ l : List Dd, l.length ≤ Dd.szL l := fun l => by
      induction l with
      | nil => exact Nat.zero_le _
      | cons d l ih => have : 1 ≤ d.sz := by cases d <;> simp [Dd.sz]
                       simp only [List.length_cons, Dd.szL]; omega
    have := this l
    simp only [Dd.sz] at z2
    omega
  rw [show (Dd.sl l).aw = .ro l.length (Dd.cellsL l) from rfl, e2] at r2
  rw [e0] at r0
  exact FC.calls (matchLaw_fc x k0 k1 k2 xs ok h64 (Nat.le_trans hB z0) (wf16 wa) (wf16 wb) (wf16 wc) (fun y hy => wf8 (lx y hy)) hsz) (vs := [v0, v1, v2]) trivial (.cons r0 (.cons r1 (.cons r2 .nil)))
end Go.Proofs.Ytmfccaidgaelcaa
