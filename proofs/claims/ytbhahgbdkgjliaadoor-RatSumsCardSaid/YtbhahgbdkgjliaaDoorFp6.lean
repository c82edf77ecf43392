/- Powers of two as fractions. No program. -/
import Derived.Test.YtbhahgbdkgjliaaDoorFp4
set_option linter.unusedVariables false
set_option linter.unusedSimpArgs false
namespace Go.Proofs.YtbhahgbdkgjliaaDoor
namespace Rt
def pw (n : Int) : Rat := (2 : Rat) ^ n
theorem two_ne : (2 : Rat) ≠ 0 := by decide
theorem pw_pos (n : Int) : 0 < pw n := Rat.zpow_pos (by decide)
theorem pw_ne (n : Int) : pw n ≠ 0 := fun e => Rat.ne_of_gt (pw_pos n) e
theorem pw_mul (a b : Int) : pw a * pw b = pw (a + b) := (Rat.zpow_add two_ne a b).symm
theorem pw_div (a b : Int) : pw a / pw b = pw (a - b) := by
  rw [Rat.div_def]
  show pw a * ((2 : Rat) ^ b)⁻¹ = _
  rw [← Rat.zpow_neg, Int.sub_eq_add_neg]
  exact pw_mul a (-b)
theorem pw_nat (n : Nat) : (pw n).num = ((2 ^ n : Nat) : Int) ∧ (pw n).den = 1 := by
  have e : pw n = (2 : Rat) ^ n := Rat.zpow_natCast 2 n
  rw [e, Rat.num_pow, Rat.den_pow]
  refine ⟨?_, ?_⟩
  · show (2 : Int) ^ n = _
    rw [Int.natCast_pow]; rfl
  · show 1 ^ n = 1
    exact Nat.one_pow n
theorem pw_neg (n : Nat) : (pw (-(n : Int))).num = 1 ∧ (pw (-(n : Int))).den = 2 ^ n := by
  have e : pw (-(n : Int)) = (pw n)⁻¹ := Rat.zpow_neg 2 n
  obtain ⟨h1, h2⟩ := pw_nat n
  have hp : 0 < 2 ^ n := Nat.pow_pos (by decide)
  obtain ⟨h3, h4⟩ := inv_pos (q := pw n) (by rw [h1]; omega)
  rw [e]
  rw [h2] at h3
  rw [h1] at h4
  exact ⟨h3, by omega⟩
theorem m_eq : M = 2 ^ 62 := rfl
theorem le62 (n : Nat) : 2 ^ n ≤ M ↔ n ≤ 62 := by rw [m_eq]; exact Nat.pow_le_pow_iff_right (by decide)
theorem pw_fit (n : Int) : Fit (pw n) ↔ -62 ≤ n ∧ n ≤ 62 := by
  rcases Int.le_total 0 n with h | h
  · obtain ⟨k, rfl⟩ : ∃ k : Nat, n = k := ⟨n.toNat, by omega⟩
    obtain ⟨h1, h2⟩ := pw_nat k
    unfold Fit
    rw [h1, h2, Int.natAbs_natCast, le62]
    unfold M
    omega
  · obtain ⟨k, rfl⟩ : ∃ k : Nat, n = -(k : Int) := ⟨n.natAbs, by omega⟩
    obtain ⟨h1, h2⟩ := pw_neg k
    unfold Fit
    rw [h1, h2, le62, show (1 : Int).natAbs = 1 from rfl]
    unfold M
    omega
theorem pw_dbl (a : Int) : pw a + pw a = pw (a + 1) := by
  have h : pw (a + 1) = pw a * 2 := Rat.zpow_add_one two_ne a
  rw [h, show (2 : Rat) = 1 + 1 from by decide +kernel, Rat.mul_add, Rat.mul_one]
theorem pow_add_le (a b : Nat) (h : b ≤ a) : 2 ^ a + 2 ^ b ≤ M ↔ a ≤ 61 := by
  have h1 : 2 ^ b ≤ 2 ^ a := Nat.pow_le_pow_right (by decide) h
  have h2 : 0 < 2 ^ b := Nat.pow_pos (by decide)
  have h3 : 2 ^ (a + 1) = 2 ^ a + 2 ^ a := by rw [Nat.pow_succ]; omega
  constructor
  · intro k
    have h4 : ¬ M ≤ 2 ^ a := by omega
    rw [m_eq, Nat.pow_le_pow_iff_right (by decide)] at h4
    omega
  · intro k
    have h4 : 2 ^ (a + 1) ≤ M := (le62 _).2 (by omega)
    omega
theorem pow_one_le (j : Nat) (_ : 0 < j) : 2 ^ j + 1 ≤ M ↔ j ≤ 61 := by
  have := pow_add_le j 0 (Nat.zero_le _)
  rwa [Nat.pow_zero] at this
theorem odd_gcd (j m : Nat) (hj : 0 < j) : Nat.gcd (2 ^ j + 1) (2 ^ m) = 1 := by
  refine Nat.Coprime.pow_right m ?_
  show Nat.gcd (2 ^ j + 1) 2 = 1
  obtain ⟨i, rfl⟩ : ∃ i, j = i + 1 := ⟨j - 1, by omega⟩
  rw [Nat.gcd_comm, Nat.gcd_rec, Nat.pow_succ, show (2 ^ i * 2 + 1) % 2 = 1 by omega]
  rfl
theorem cast_pw (n : Nat) : pw n = (((2 ^ n : Nat) : Int) : Rat) := by
  obtain ⟨h1, h2⟩ := pw_nat n
  exact Rat.ext (by rw [h1]; rfl) (by rw [h2]; rfl)
theorem sum_hi (a b : Nat) (h : b < a) : Fit (pw a + pw b) ↔ a ≤ 61 := by
  have e : pw a + pw b = (((2 ^ a + 2 ^ b : Nat) : Int) : Rat) := by
    rw [cast_pw, cast_pw, ← Rat.intCast_add, ← Int.natCast_add]
  rw [e]
  unfold Fit
  rw [show (((2 ^ a + 2 ^ b : Nat) : Int) : Rat).num = ((2 ^ a + 2 ^ b : Nat) : Int) from rfl, show (((2 ^ a + 2 ^ b : Nat) : Int) : Rat).den = 1 from rfl, Int.natAbs_natCast, pow_add_le a b (by omega)]
  unfold M
  omega
theorem sum_lo (j m : Nat) (hj : 0 < j) (hm : m ≤ 62) : Fit (pw ((j : Int) - m) + pw (-(m : Int))) ↔ j ≤ 61 := by
  have e : pw ((j : Int) - m) + pw (-(m : Int)) = Rat.divInt ((2 ^ j + 1 : Nat) : Int) ((2 ^ m : Nat) : Int) := by
    rw [Rat.divInt_eq_div, ← cast_pw m, ← pw_div, Rat.div_def, Rat.div_def, Int.natCast_add, Rat.intCast_add, ← cast_pw j, Rat.add_mul]
    have e2 : pw (-(m : Int)) = (pw m)⁻¹ := Rat.zpow_neg 2 m
    rw [e2, show (((1 : Nat) : Int) : Rat) = 1 from rfl, Rat.one_mul]
  have hp : 0 < 2 ^ m := Nat.pow_pos (by decide)
  have hd : ((2 ^ m : Nat) : Int) ≠ 0 := by omega
  have hg := odd_gcd j m hj
  rw [e]
  unfold Fit
  rw [new_num _ _ hd, new_den _ _ hd, val_abs, Int.natAbs_natCast, Int.natAbs_natCast, hg, Nat.div_one, Nat.div_one, pow_one_le j hj, le62]
  omega
/-- When the sum of two powers fits. -/
def fitsB (a b : Int) : Bool := if max a b = min a b then decide (max a b ≤ 61) else decide (max a b ≤ 61) && decide (max a b - min (min a b) 0 ≤ 61)
theorem sum_lt (a b : Int) (ha : -62 ≤ a ∧ a ≤ 62) (hb : -62 ≤ b ∧ b ≤ 62) (h : b < a) : Fit (pw a + pw b) ↔ a ≤ 61 ∧ a - min b 0 ≤ 61 := by
  rcases Int.le_total 0 b with k | k
  · obtain ⟨x, rfl⟩ : ∃ x : Nat, a = x := ⟨a.toNat, by omega⟩
    obtain ⟨y, rfl⟩ : ∃ y : Nat, b = y := ⟨b.toNat, by omega⟩
    rw [sum_hi x y (by omega)]
    omega
  · obtain ⟨m, rfl⟩ : ∃ m : Nat, b = -(m : Int) := ⟨b.natAbs, by omega⟩
    obtain ⟨j, hj⟩ : ∃ j : Nat, a = (j : Int) - m := ⟨(a + m).toNat, by omega⟩
    subst hj
    rw [sum_lo j m (by omega) (by omega)]
    omega
theorem fits_iff (a b : Int) (ha : -62 ≤ a ∧ a ≤ 62) (hb : -62 ≤ b ∧ b ≤ 62) : decide (Fit (pw a + pw b)) = fitsB a b := by
  unfold fitsB
  rcases Int.lt_trichotomy a b with h | h | h
  · rw [if_neg (by omega), Rat.add_comm, decide_eq_decide.2 (sum_lt b a hb ha h), show max a b = b by omega, show min a b = a by omega]
    exact Bool.decide_and _ _
  · subst h
    rw [if_pos (by omega), pw_dbl, show max a a = a by omega]
    exact decide_eq_decide.2 ((pw_fit (a + 1)).trans (by omega))
  · rw [if_neg (by omega), decide_eq_decide.2 (sum_lt a b ha hb h), show max a b = a by omega, show min a b = b by omega]
    exact Bool.decide_and _ _
end Rt
end Go.Proofs.YtbhahgbdkgjliaaDoor
