/- How fractions and results are compared. No conditions. -/
import Derived.Test.YtbhahgbdkgjliaaGreatDoorR3
import Derived.Laws.StructEq
set_option linter.unusedVariables false
set_option linter.unusedSimpArgs false
namespace Go.Proofs.YtbhahgbdkgjliaaGreatDoor
open Go.Abs Go Go.RowKit
theorem eq26 : EqOk Tryz.prog 25 [.int .i64, .int .i64] := by
  refine ⟨by kernel_rfl, fun xs ys w hx hy => ?_⟩
  obtain ⟨v0, l, rfl, f0, hx⟩ := fit_cons hx
  obtain ⟨v1, l, rfl, f1, hx⟩ := fit_cons hx
  obtain rfl := fit_nil hx
  obtain ⟨u0, l, rfl, g0, hy⟩ := fit_cons hy
  obtain ⟨u1, l, rfl, g1, hy⟩ := fit_cons hy
  obtain rfl := fit_nil hy
  obtain ⟨a0, rfl⟩ := fit_int f0
  obtain ⟨a1, rfl⟩ := fit_int f1
  obtain ⟨b0, rfl⟩ := fit_int g0
  obtain ⟨b1, rfl⟩ := fit_int g1
  have u3 := Tryz.underlying3
  have a3 := Tryz.isAgg3
  have z3 := Tryz.sizeOf3
  rw [show (10000 : Nat) = 9999 + 1 from rfl, Op.equalIn]
  simp only [Sem.run_bind, run_underlying Tryz.underlying25, Result.andThen_ok]
  go_simp
  by_cases h1 : a0 = b0 <;> by_cases h2 : a1 = b1 <;> simp [h1, h2, veqL, veq]
theorem eq29 : EqOk Tryz.prog 28 [.int .i64, .int .i64, .int .i64] := by
  refine ⟨by kernel_rfl, fun xs ys w hx hy => ?_⟩
  obtain ⟨v0, l, rfl, f0, hx⟩ := fit_cons hx
  obtain ⟨v1, l, rfl, f1, hx⟩ := fit_cons hx
  obtain ⟨v2, l, rfl, f2, hx⟩ := fit_cons hx
  obtain rfl := fit_nil hx
  obtain ⟨u0, l, rfl, g0, hy⟩ := fit_cons hy
  obtain ⟨u1, l, rfl, g1, hy⟩ := fit_cons hy
  obtain ⟨u2, l, rfl, g2, hy⟩ := fit_cons hy
  obtain rfl := fit_nil hy
  obtain ⟨a0, rfl⟩ := fit_int f0
  obtain ⟨a1, rfl⟩ := fit_int f1
  obtain ⟨a2, rfl⟩ := fit_int f2
  obtain ⟨b0, rfl⟩ := fit_int g0
  obtain ⟨b1, rfl⟩ := fit_int g1
  obtain ⟨b2, rfl⟩ := fit_int g2
  have e26 := eq26.2 [.int .i64 a0, .int .i64 a1] [.int .i64 b0, .int .i64 b1] w rfl rfl
  have u3 := Tryz.underlying3
  have a3 := Tryz.isAgg3
  have z3 := Tryz.sizeOf3
  have u27 := Tryz.underlying26
  have a27 := Tryz.isAgg26
  have z27 := Tryz.sizeOf26
  have a26 := Tryz.isAgg25
  have z26 := Tryz.sizeOf25
  have u26 := Tryz.underlying25
  rw [show (10000 : Nat) = 9998 + 1 + 1 from rfl, Op.equalIn]
  simp only [Sem.run_bind, run_underlying Tryz.underlying28, Result.andThen_ok]
  go_simp
  by_cases h1 : a0 = b0 <;> by_cases h2 : a1 = b1 <;> by_cases h3 : a2 = b2 <;> simp [h1, h2, h3, veqL, veq]
theorem eok : EOk Tryz.prog [(25, [.int .i64, .int .i64]), (28, [.int .i64, .int .i64, .int .i64])] := EOk.cons eq26 (EOk.cons eq29 (EOk.nil _))
end Go.Proofs.YtbhahgbdkgjliaaGreatDoor
