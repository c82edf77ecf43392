/- Fractions: differences, quotients, comparisons, sums. No program. -/
import Derived.Test.YtbhahgbdkgjliaaGreatDoorRP3
set_option linter.unusedVariables false
set_option linter.unusedSimpArgs false
namespace Go.Proofs.YtbhahgbdkgjliaaGreatDoor
namespace Rt
theorem Fit.neg {q : Rat} (h : Fit q) : Fit (-q) := ⟨by rw [Rat.neg_num, Int.natAbs_neg]; exact h.1, h.2⟩
theorem Fit.inv {q : Rat} (h : Fit q) (h0 : q ≠ 0) : Fit q⁻¹ := by
  have hn : q.num ≠ 0 := fun e => h0 (Rat.num_eq_zero.1 e)
  refine ⟨?_, ?_⟩
  · rw [Rat.num_inv, Int.natAbs_mul]
    have : q.num.sign.natAbs = 1 := Int.natAbs_sign_of_ne_zero hn
    rw [this, Nat.one_mul, Int.natAbs_natCast]; exact h.2
  · rw [Rat.den_inv, if_neg hn]; exact h.1
theorem inv_pos {q : Rat} (h : 0 < q.num) : q⁻¹.num = q.den ∧ (q⁻¹.den : Int) = q.num := by
  rw [Rat.num_inv, Rat.den_inv, if_neg (by omega), Int.sign_eq_one_of_pos h, Int.one_mul]
  exact ⟨rfl, by omega⟩
theorem inv_neg {q : Rat} (h : q.num < 0) : q⁻¹.num = 0 - (q.den : Int) ∧ (q⁻¹.den : Int) = 0 - q.num := by
  rw [Rat.num_inv, Rat.den_inv, if_neg (by omega), Int.sign_eq_neg_one_of_neg h]
  exact ⟨by omega, by omega⟩
/-- The quotient, with its error. -/
def dv (a b : Rat) : R := if b = 0 then zro else res (a / b)
def nw (n d : Int) : R := if d = 0 then zro else res (Rat.divInt n d)
def cmp (a b : Rat) : Int := if a = b then 0 else if a < b then -1 else 1
def mn (a b : Rat) : Rat := if b < a then b else a
def mx (a b : Rat) : Rat := if a < b then b else a
/-- The sum of a list, behind a sum. -/
def sumF (s : Rat) : List Rat → R
  | [] => ok s
  | x :: l => if Fit (s + x) then sumF (s + x) l else big
theorem cmp_lt {a b : Rat} (h : a < b) : cmp a b = -1 := by unfold cmp; rw [if_neg (Rat.ne_of_lt h), if_pos h]
theorem cmp_gt {a b : Rat} (h : b < a) : cmp a b = 1 := by
  unfold cmp; rw [if_neg (Rat.ne_of_gt h), if_neg (fun h2 => Rat.lt_irrefl (Rat.lt_of_le_of_ne (Rat.le_trans (Rat.le_of_lt h) (Rat.le_of_lt h2)) (fun e => Rat.ne_of_gt h (Rat.le_antisymm (Rat.le_of_lt h2) (Rat.le_of_lt h)))))]
theorem cmp_self (a : Rat) : cmp a a = 0 := by unfold cmp; rw [if_pos rfl]
theorem tri (a b : Rat) : a < b ∨ a = b ∨ b < a := by
  rcases Rat.le_total (a := a) (b := b) with h | h
  · rcases Rat.le_iff_lt_or_eq.1 h with h | h
    · exact .inl h
    · exact .inr (.inl h)
  · rcases Rat.le_iff_lt_or_eq.1 h with h | h
    · exact .inr (.inr h)
    · exact .inr (.inl h.symm)
theorem lt_asymm {a b : Rat} (h : a < b) : ¬ b < a := fun h2 => Rat.ne_of_lt h (Rat.le_antisymm (Rat.le_of_lt h) (Rat.le_of_lt h2))
end Rt
end Go.Proofs.YtbhahgbdkgjliaaGreatDoor
