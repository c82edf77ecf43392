/- Fractions as rational numbers: what the operations on small numbers compute. No program. -/
import Init.Data.Rat
set_option linter.unusedVariables false
set_option linter.unusedSimpArgs false
namespace Go.Proofs.YtbhahgbdkgjliaaGreatDoor
namespace Rt
abbrev M : Nat := 4611686018427387904
/-- Numerator and denominator are at most 2^62 in size. -/
def Fit (q : Rat) : Prop := q.num.natAbs ≤ M ∧ q.den ≤ M
instance (q : Rat) : Decidable (Fit q) := inferInstanceAs (Decidable (_ ∧ _))
/-- A fraction with an error. -/
structure R where
  n : Int
  d : Int
  e : Int
  deriving DecidableEq
def ok (q : Rat) : R := ⟨q.num, q.den, 0⟩
def big : R := ⟨0, 0, 2⟩
def zro : R := ⟨0, 0, 20⟩
def bad : R := ⟨0, 0, 3⟩
def res (q : Rat) : R := if Fit q then ok q else big
theorem mul_num (a b : Rat) : (a * b).num = a.num.tdiv (Nat.gcd a.num.natAbs b.den) * b.num.tdiv (Nat.gcd b.num.natAbs a.den) := by
  show (Rat.mul a b).num = _
  unfold Rat.mul
  simp only [Int.divExact_eq_tdiv]
theorem mul_den (a b : Rat) : (a * b).den = (a.den / Nat.gcd b.num.natAbs a.den) * (b.den / Nat.gcd a.num.natAbs b.den) := by
  show (Rat.mul a b).den = _
  unfold Rat.mul
  simp only [Nat.divExact_eq_div]
/-- The numerator over the least common denominator. -/
def tt (a b : Rat) : Int := a.num * (b.den / Nat.gcd a.den b.den : Nat) + b.num * (a.den / Nat.gcd a.den b.den : Nat)
def hh (a b : Rat) : Nat := (tt a b).natAbs.gcd (Nat.gcd a.den b.den)
theorem add_num (a b : Rat) : (a + b).num = (tt a b).tdiv (hh a b) := by
  show (Rat.add a b).num = _
  unfold Rat.add
  unfold hh tt
  dsimp only
  split
  · rename_i hg
    rw [hg]; simp
  · simp only [Rat.maybeNormalize_eq]
    rw [Int.tdiv_eq_ediv_of_dvd (Int.ofNat_dvd_left.2 (Nat.gcd_dvd_left _ _))]
    simp
theorem add_den (a b : Rat) : (a + b).den = (a.den / Nat.gcd a.den b.den) * (b.den / hh a b) := by
  have h1 : hh a b ∣ b.den := Nat.dvd_trans (Nat.gcd_dvd_right _ _) (Nat.gcd_dvd_right _ _)
  have e : (a + b).den = (a.den / Nat.gcd a.den b.den) * b.den / hh a b := by
    show (Rat.add a b).den = _
    unfold Rat.add
    unfold hh tt
    dsimp only
    split
    · rename_i hg
      rw [hg]; simp
    · simp only [Rat.maybeNormalize_eq, Nat.divExact_eq_div]
  rw [e, Nat.mul_div_assoc _ h1]
end Rt
end Go.Proofs.YtbhahgbdkgjliaaGreatDoor
