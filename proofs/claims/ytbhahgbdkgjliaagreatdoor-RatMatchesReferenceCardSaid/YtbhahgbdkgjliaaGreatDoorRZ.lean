/- How the arguments of the statements on fractions are opened. No conditions. -/
import Derived.Test.YtbhahgbdkgjliaaGreatDoorRTab
import Derived.Test.YtbhahgbdkgjliaaGreatDoorR1
import Derived.DataShut
set_option linter.unusedVariables false
set_option linter.unusedSimpArgs false
namespace Go.Proofs.YtbhahgbdkgjliaaGreatDoor
open Go.Abs Go Go.RowKit
abbrev I64 (x : Int) : Prop := -9223372036854775808 ≤ x ∧ x ≤ 9223372036854775807
def arr2A (x y : Int) : A := .agg [i64 x, i64 y]
theorem wf64 {z : Int} (h : (Lit.int .i64 z).wf = true) : I64 z := by
  have h' := (Lit.wf_int_iff _ _).1 h
  have e0 : IntKind.i64.min = -9223372036854775808 := by decide
  have e1 : IntKind.i64.max = 9223372036854775807 := by decide
  exact ⟨by omega, by omega⟩
theorem wf32 {z : Int} (h : (Lit.int .i32 z).wf = true) : -2147483648 ≤ z ∧ z ≤ 2147483647 := by
  have h' := (Lit.wf_int_iff _ _).1 h
  have e0 : IntKind.i32.min = -2147483648 := by decide
  have e1 : IntKind.i32.max = 2147483647 := by decide
  exact ⟨by omega, by omega⟩
theorem wf8 {z : Int} (h : (Lit.int .u8 z).wf = true) : ∃ n : Nat, z = n ∧ n < 256 := by
  have h' := (Lit.wf_int_iff _ _).1 h
  have e0 : IntKind.u8.min = 0 := by decide
  have e1 : IntKind.u8.max = 255 := by decide
  exact ⟨z.toNat, by omega, by omega⟩
theorem arr2 {P : Program} {t e : TypeId} {d : Dd} (hu : P.underlying t = some (.array 2 e)) (h : Dd.Ty P t d) : ∃ a b, d = .agg [a, b] ∧ Dd.Ty P e a ∧ Dd.Ty P e b := by
  obtain ⟨l, rfl, h1, h2⟩ := h.arr_inv hu
  match l, h1 with
  | [a, b], _ => exact ⟨a, b, rfl, h2 a (by simp), h2 b (by simp)⟩
theorem arr2_of {d : Dd} (h : Dd.Ty Tryz.prog 22 d) : ∃ x y, d.aw = arr2A x y ∧ I64 x ∧ I64 y := by
  obtain ⟨a, b, rfl, h0, h1⟩ := arr2 Tryz.underlying22 h
  obtain ⟨x, rfl, w0⟩ := h0.int_inv Tryz.underlying3
  obtain ⟨y, rfl, w1⟩ := h1.int_inv Tryz.underlying3
  exact ⟨x, y, rfl, wf64 w0, wf64 w1⟩
abbrev Says (F : FuncId) (vs : Array Value) (W : World) : Prop := Calls Tryz.prog F vs W fun e w' => e = .returned (.bool true) ∧ Below W.heap.size W w'
end Go.Proofs.YtbhahgbdkgjliaaGreatDoor
