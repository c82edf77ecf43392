/- Fractions: what is computed of signs and sizes is the fraction. No program. -/
import Derived.Test.YtbhahgbdkgjliaaGreatDoorRP1
import Derived.Test.YtbhahgbdkgjliaaGreatDoorR3
set_option linter.unusedVariables false
set_option linter.unusedSimpArgs false
namespace Go.Proofs.YtbhahgbdkgjliaaGreatDoor
namespace Rt
/-- A sign and a size as a number. -/
def val (p : Bool × Nat) : Int := if p.1 = true then -(p.2 : Int) else p.2
theorem val_plus (n1 n2 : Bool) (m1 m2 : Nat) : val (wplus n1 m1 n2 m2) = val (n1, m1) + val (n2, m2) := by
  unfold wplus val
  cases n1 <;> cases n2 <;> simp <;> (try split) <;> (try simp) <;> omega
theorem val_sgn (x y : Int) : val (sgn x y, x.natAbs * y.natAbs) = x * y := by
  unfold val sgn
  rw [Int.natCast_mul]
  have hx : x < 0 ∨ 0 ≤ x := by omega
  have hy : y < 0 ∨ 0 ≤ y := by omega
  rcases hx with hx | hx <;> rcases hy with hy | hy
  · rw [show (x.natAbs : Int) = -x by omega, show (y.natAbs : Int) = -y by omega]; simp [hx, hy, Int.neg_mul_neg]
  · rw [show (x.natAbs : Int) = -x by omega, show (y.natAbs : Int) = y by omega]; simp [hx, show ¬ y < 0 by omega, Int.neg_mul]
  · rw [show (x.natAbs : Int) = x by omega, show (y.natAbs : Int) = -y by omega]; simp [hy, show ¬ x < 0 by omega, Int.mul_neg]
  · rw [show (x.natAbs : Int) = x by omega, show (y.natAbs : Int) = y by omega]; simp [show ¬ x < 0 by omega, show ¬ y < 0 by omega]
theorem val_abs (p : Bool × Nat) : (val p).natAbs = p.2 := by
  unfold val; split <;> omega
theorem sgn_nn {x y : Int} (hx : 0 ≤ x) (hy : 0 ≤ y) : sgn x y = false := by
  unfold sgn; simp [show ¬ x < 0 by omega, show ¬ y < 0 by omega]
theorem mkR_res {q : Rat} {n : Bool} {m d : Nat} (hn : q.num = val (n, m)) (hd : q.den = d) : mkR n m d = res q := by
  have ha : q.num.natAbs = m := by rw [hn]; exact val_abs (n, m)
  unfold mkR res
  by_cases h : m ≤ M ∧ d ≤ M
  · rw [if_pos h, if_pos (show Fit q from ⟨by rw [ha]; exact h.1, by rw [hd]; exact h.2⟩)]
    unfold ok
    rw [hn, hd]; rfl
  · rw [if_neg h, if_neg (fun hq : Fit q => h ⟨by rw [← ha]; exact hq.1, by rw [← hd]; exact hq.2⟩)]
theorem tdiv_val (p : Bool × Nat) (h : Nat) : (val p).tdiv (h : Int) = val (p.1, p.2 / h) := by
  unfold val
  obtain ⟨n, m⟩ := p
  cases n
  · rfl
  · simp only [if_true]
    rw [Int.neg_tdiv]; rfl
theorem gcd_mod (m g : Nat) : Nat.gcd (m % g) g = Nat.gcd m g := by
  rw [Nat.gcd_comm m g, Nat.gcd_rec g m]
theorem den_pos' (q : Rat) : 0 < q.den := q.den_pos
theorem Fit.num {q : Rat} (h : Fit q) : -4611686018427387904 ≤ q.num ∧ q.num ≤ 4611686018427387904 := by
  have := h.1
  unfold M at this
  omega
theorem Fit.den {q : Rat} (h : Fit q) : q.den ≤ 4611686018427387904 := h.2
theorem add_zero_iff (a b : Rat) : tt a b = 0 ↔ a + b = 0 := by
  rw [← Rat.num_eq_zero, add_num]
  have hd : (hh a b : Int) ∣ tt a b := Int.ofNat_dvd_left.2 (Nat.gcd_dvd_left _ _)
  constructor
  · intro h; rw [h]; simp
  · intro h
    obtain ⟨k, hk⟩ := hd
    have hp : 0 < hh a b := Nat.gcd_pos_of_pos_right _ (Nat.gcd_pos_of_pos_left _ a.den_pos)
    rw [hk, Int.mul_tdiv_cancel_left _ (by omega)] at h
    rw [hk, h, Int.mul_zero]
theorem res_zero : res 0 = ⟨0, 1, 0⟩ := by
  unfold res
  rw [if_pos (by decide)]; rfl
theorem new_num (n d : Int) (_ : d ≠ 0) : (Rat.divInt n d).num = val (!(decide (n < 0) == decide (d < 0)), n.natAbs / Nat.gcd n.natAbs d.natAbs) := by
  rw [Rat.num_divInt]
  have hg : d.gcd n = Nat.gcd n.natAbs d.natAbs := by rw [Int.gcd_comm]; rfl
  rw [hg]
  have hdvd : (Nat.gcd n.natAbs d.natAbs : Int) ∣ d.sign * n := Int.dvd_mul_of_dvd_right (Int.ofNat_dvd_left.2 (Nat.gcd_dvd_left _ _))
  rw [← Int.tdiv_eq_ediv_of_dvd hdvd]
  have e : d.sign * n = val (!(decide (n < 0) == decide (d < 0)), n.natAbs) := by
    unfold val
    have hn : n < 0 ∨ 0 ≤ n := by omega
    rcases hn with hn | hn <;> rcases Int.lt_trichotomy d 0 with hd | hd | hd
    · rw [Int.sign_eq_neg_one_of_neg hd]; simp [hn, hd]; omega
    · omega
    · rw [Int.sign_eq_one_of_pos hd]; simp [hn, show ¬ d < 0 by omega]; omega
    · rw [Int.sign_eq_neg_one_of_neg hd]; simp [hd, show ¬ n < 0 by omega]; omega
    · omega
    · rw [Int.sign_eq_one_of_pos hd]; simp [show ¬ n < 0 by omega, show ¬ d < 0 by omega]; omega
  rw [e, tdiv_val]
theorem new_den (n d : Int) (hd : d ≠ 0) : (Rat.divInt n d).den = d.natAbs / Nat.gcd n.natAbs d.natAbs := by
  rw [Rat.den_divInt, if_neg hd, Int.gcd_comm]; rfl
end Rt
end Go.Proofs.YtbhahgbdkgjliaaGreatDoor
