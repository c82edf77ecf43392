/- Long division: what each step finds. No program. -/
import Derived.Lib.BitFns
set_option linter.unusedVariables false
set_option linter.unusedSimpArgs false
namespace Go.Proofs.YtbhahgbdkgjliaaGreatDoor
namespace Rt
open Go.Lib
theorem bitLen_bounds : ∀ (n x : Nat), x ≤ n → x ≠ 0 → x < 2 ^ 64 → 1 ≤ bitLen x ∧ 2 ^ (bitLen x - 1) ≤ x ∧ x < 2 ^ bitLen x
  | 0, x, h, h0, _ => absurd (Nat.le_zero.1 h) h0
  | n + 1, x, h, h0, h64 => by
    have e := bitLen_half x h0 h64
    by_cases h1 : x / 2 = 0
    · have hx : x = 1 := by omega
      subst hx
      decide
    · obtain ⟨g1, g2, g3⟩ := bitLen_bounds n (x / 2) (by omega) h1 (by omega)
      rw [e]
      refine ⟨by omega, ?_, ?_⟩
      · rw [show 1 + bitLen (x / 2) - 1 = (bitLen (x / 2) - 1) + 1 from by omega, Nat.pow_succ]
        omega
      · rw [show 1 + bitLen (x / 2) = bitLen (x / 2) + 1 from by omega, Nat.pow_succ]
        omega
/-- How far a divisor is shifted. -/
theorem shift_bounds {y : Nat} (h0 : 0 < y) (h1 : y < 18446744073709551616) : ∃ s, s ≤ 63 ∧ 64 - bitLen y = s ∧ bitLen y = 64 - s ∧ 9223372036854775808 ≤ y * 2 ^ s ∧ y * 2 ^ s < 18446744073709551616 := by
  obtain ⟨g1, g2, g3⟩ := bitLen_bounds y y (Nat.le_refl _) (by omega) h1
  have g4 := bitLen_le y 64 (Nat.le_refl _) h1
  generalize bitLen y = b at *
  refine ⟨64 - b, by omega, rfl, by omega, ?_, ?_⟩
  · have : 2 ^ (b - 1) * 2 ^ (64 - b) = 9223372036854775808 := by rw [← Nat.pow_add, show b - 1 + (64 - b) = 63 from by omega]
    rw [← this]
    exact Nat.mul_le_mul_right _ g2
  · have : 2 ^ b * 2 ^ (64 - b) = 18446744073709551616 := by rw [← Nat.pow_add, show b + (64 - b) = 64 from by omega]
    rw [← this]
    exact Nat.mul_lt_mul_of_pos_right g3 (Nat.two_pow_pos _)
/-- What a round of the search for a digit keeps: the divisor is a * 2^32 + b. -/
structure Dig (u v a b q r : Nat) : Prop where
  eq : u = q * a + r
  lt : r < 4294967296
  ge : (u * 4294967296 + v) / (a * 4294967296 + b) ≤ q
  le : q ≤ 4294967297
variable {u v a b q r : Nat}
theorem Dig.start (ha : 2147483648 ≤ a) (ha2 : a < 4294967296) (hb : b < 4294967296) (hu : u < a * 4294967296 + b) (hv : v < 4294967296) : Dig u v a b (u / a) (u % a) := by
  have hm := Nat.mod_lt u (show 0 < a by omega)
  refine ⟨by have := Nat.div_add_mod u a; rw [Nat.mul_comm] at this; omega, by omega, ?_, ?_⟩
  · refine (Nat.le_div_iff_mul_le (by omega)).2 ?_
    have h1 := Nat.div_mul_le_self (u * 4294967296 + v) (a * 4294967296 + b)
    generalize (u * 4294967296 + v) / (a * 4294967296 + b) = Q at h1 ⊢
    rw [Nat.mul_add, ← Nat.mul_assoc] at h1
    omega
  · have h3 : u / a < 4294967298 := (Nat.div_lt_iff_lt_mul (by omega)).2 (by omega)
    omega
theorem Dig.done (h : Dig u v a b q r) (hy : 0 < a) (h2 : q * b ≤ 4294967296 * r + v) : q = (u * 4294967296 + v) / (a * 4294967296 + b) := by
  refine Nat.le_antisymm ((Nat.le_div_iff_mul_le (by omega)).2 ?_) h.ge
  have e := h.eq
  rw [Nat.mul_add, ← Nat.mul_assoc]
  omega
theorem Dig.less (h : Dig u v a b q r) (_ : 0 < a) (hu : u < a * 4294967296 + b) (hv : v < 4294967296) (hc : 4294967296 ≤ q ∨ 4294967296 * r + v < q * b) : (u * 4294967296 + v) / (a * 4294967296 + b) ≤ q - 1 ∧ 1 ≤ q := by
  have hlt : (u * 4294967296 + v) / (a * 4294967296 + b) < q := by
    refine (Nat.div_lt_iff_lt_mul (by omega)).2 ?_
    rcases hc with hc | hc
    · have : 4294967296 * (a * 4294967296 + b) ≤ q * (a * 4294967296 + b) := Nat.mul_le_mul_right _ hc
      omega
    · have e := h.eq
      rw [Nat.mul_add, ← Nat.mul_assoc]
      omega
  exact ⟨Nat.le_sub_one_of_lt hlt, Nat.lt_of_le_of_lt (Nat.zero_le _) hlt⟩
theorem Dig.next (h : Dig u v a b q r) (hy : 0 < a) (hu : u < a * 4294967296 + b) (hv : v < 4294967296) (hc : 4294967296 ≤ q ∨ 4294967296 * r + v < q * b) (hr : r + a < 4294967296) : Dig u v a b (q - 1) (r + a) := by
  obtain ⟨h1, h2⟩ := h.less hy hu hv hc
  have e := h.eq
  have := h.le
  refine ⟨?_, hr, h1, by omega⟩
  obtain ⟨p, rfl⟩ : ∃ p, q = p + 1 := ⟨q - 1, by omega⟩
  rw [Nat.add_mul] at e
  simp only [Nat.add_sub_cancel]
  omega
theorem Dig.last (h : Dig u v a b q r) (hy : 0 < a) (hb : b < 4294967296) (hu : u < a * 4294967296 + b) (hv : v < 4294967296) (hc : 4294967296 ≤ q ∨ 4294967296 * r + v < q * b) (hr : ¬ r + a < 4294967296) : q - 1 = (u * 4294967296 + v) / (a * 4294967296 + b) := by
  obtain ⟨h1, h2⟩ := h.less hy hu hv hc
  have e := h.eq
  have h5 := h.le
  refine Nat.le_antisymm ((Nat.le_div_iff_mul_le (by omega)).2 ?_) h1
  obtain ⟨p, rfl⟩ : ∃ p, q = p + 1 := ⟨q - 1, by omega⟩
  rw [Nat.add_mul] at e
  simp only [Nat.add_sub_cancel]
  have h6 : p * b ≤ 18446744073709551616 := Nat.le_trans (Nat.mul_le_mul (show p ≤ 4294967296 by omega) (Nat.le_of_lt hb)) (by decide)
  have e9 : p * (a * 4294967296 + b) = p * a * 4294967296 + p * b := by rw [Nat.mul_add, Nat.mul_assoc]
  rw [e9]
  omega
theorem long_div' {B N y S u v1 v0 z Q1 U2 Q0 U3 : Nat} (hS : 0 < S) (hy : 0 < y) (e1 : y * S = z) (e2 : N * S = (u * B + v1) * B + v0) (d1 : z * Q1 + U2 = u * B + v1) (d2 : z * Q0 + U3 = U2 * B + v0) (l2 : U3 < z) :
    N / y = Q1 * B + Q0 ∧ N % y = U3 / S := by
  have hz : 0 < z := by rw [← e1]; exact Nat.mul_pos hy hS
  have e3 : N * S = z * (Q1 * B + Q0) + U3 := by
    rw [e2, ← d1, Nat.add_mul, Nat.add_assoc, ← d2, Nat.mul_add, Nat.mul_assoc, Nat.add_assoc]
  refine ⟨?_, ?_⟩
  · rw [← Nat.mul_div_mul_right N y hS, e3, e1, Nat.mul_add_div hz, Nat.div_eq_of_lt l2, Nat.add_zero]
  · have h4 : N * S % z = U3 := by rw [e3, Nat.mul_add_mod, Nat.mod_eq_of_lt l2]
    rw [← e1, Nat.mul_mod_mul_right] at h4
    rw [← h4, Nat.mul_div_cancel _ hS]
/-- The division of four digits by two. -/
theorem long_div {N y S u v1 v0 z : Nat} (hS : 0 < S) (hy : 0 < y) (e1 : y * S = z) (e2 : N * S = (u * 4294967296 + v1) * 4294967296 + v0) :
    N / y = (u * 4294967296 + v1) / z * 4294967296 + ((u * 4294967296 + v1) % z * 4294967296 + v0) / z ∧ N % y = (((u * 4294967296 + v1) % z * 4294967296 + v0) % z) / S :=
  have hz : 0 < z := by rw [← e1]; exact Nat.mul_pos hy hS
  long_div' hS hy e1 e2 (Nat.div_add_mod _ _) (Nat.div_add_mod _ _) (Nat.mod_lt _ hz)
end Rt
end Go.Proofs.YtbhahgbdkgjliaaGreatDoor
