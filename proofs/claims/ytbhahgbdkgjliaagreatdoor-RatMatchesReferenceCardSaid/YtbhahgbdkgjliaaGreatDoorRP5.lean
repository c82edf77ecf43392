/- Fractions: how comparisons go with sums and products. No program. -/
import Derived.Test.YtbhahgbdkgjliaaGreatDoorRP4
set_option linter.unusedVariables false
set_option linter.unusedSimpArgs false
namespace Go.Proofs.YtbhahgbdkgjliaaGreatDoor
namespace Rt
theorem num_sub_neg {a b : Rat} (h : a < b) : (a - b).num < 0 := by
  have h1 : ¬ b ≤ a := Rat.not_le.2 h
  rw [Rat.le_iff_sub_nonneg, ← Rat.num_nonneg] at h1
  omega
theorem num_sub_pos {a b : Rat} (h : b < a) : 0 < (a - b).num := by
  have h1 : b ≤ a := Rat.le_of_lt h
  rw [Rat.le_iff_sub_nonneg, ← Rat.num_nonneg] at h1
  have h2 : (a - b).num ≠ 0 := fun e => by
    have e2 := Rat.num_eq_zero.1 e
    have e3 : a - b + b = 0 + b := by rw [e2]
    rw [Rat.sub_add_cancel, Rat.zero_add] at e3
    exact Rat.ne_of_lt h e3.symm
  omega
theorem cmp_add (a b c : Rat) : cmp (a + c) (b + c) = cmp a b := by
  rcases tri a b with h | h | h
  · rw [cmp_lt h, cmp_lt (Rat.add_lt_add_right.2 h)]
  · rw [h, cmp_self, cmp_self]
  · rw [cmp_gt h, cmp_gt (Rat.add_lt_add_right.2 h)]
theorem cmp_mul (a b c : Rat) (hc : 0 < c) : cmp (a * c) (b * c) = cmp a b := by
  rcases tri a b with h | h | h
  · rw [cmp_lt h, cmp_lt ((Rat.mul_lt_mul_right hc).2 h)]
  · rw [h, cmp_self, cmp_self]
  · rw [cmp_gt h, cmp_gt ((Rat.mul_lt_mul_right hc).2 h)]
theorem lt_tr {a b c : Rat} (h : a < b) (k : b < c) : a < c :=
  Rat.lt_of_le_of_ne (Rat.le_trans (Rat.le_of_lt h) (Rat.le_of_lt k)) (fun e => by subst e; exact lt_asymm h k)
theorem num_pos {c : Rat} : 0 < c.num ↔ 0 < c := by
  constructor
  · intro h
    have h1 : 0 ≤ c := Rat.num_nonneg.1 (by omega)
    exact Rat.lt_of_le_of_ne h1 (fun e => by rw [← e] at h; exact absurd h (by decide))
  · intro h
    have h1 := Rat.num_nonneg.2 (Rat.le_of_lt h)
    have h2 : c.num ≠ 0 := fun e => Rat.ne_of_gt h (Rat.num_eq_zero.1 e)
    omega
theorem mn_lt {a b : Rat} (h : a < b) : mn a b = a := by unfold mn; rw [if_neg (lt_asymm h)]
theorem mn_gt {a b : Rat} (h : b < a) : mn a b = b := by unfold mn; rw [if_pos h]
theorem mn_self (a : Rat) : mn a a = a := by unfold mn; rw [if_neg Rat.lt_irrefl]
theorem mx_lt {a b : Rat} (h : a < b) : mx a b = b := by unfold mx; rw [if_pos h]
theorem mx_gt {a b : Rat} (h : b < a) : mx a b = a := by unfold mx; rw [if_neg (lt_asymm h)]
theorem mx_self (a : Rat) : mx a a = a := by unfold mx; rw [if_neg Rat.lt_irrefl]
end Rt
end Go.Proofs.YtbhahgbdkgjliaaGreatDoor
