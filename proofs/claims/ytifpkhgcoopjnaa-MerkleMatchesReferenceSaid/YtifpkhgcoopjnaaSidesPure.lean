/- Plain functions: on which side a place lies, from the top down. No conditions. -/
import Derived.Test.YtifpkhgcoopjnaaMerklePure
namespace Go.Proofs.Ytifpkhgcoopjnaa.Mk
open Go.RowKit
/-- From the top down: does the place lie in the first part? f: fuel. -/
def sidesF : Nat → Nat → Nat → List Bool
  | 0, _, _ => []
  | f + 1, n, i => if n ≤ 1 then [] else if i < half n then true :: sidesF f (half n) i else false :: sidesF f (n - half n) (i - half n)
def sides (n i : Nat) : List Bool := sidesF n n i
theorem sidesF_fuel : ∀ (f n i : Nat), n ≤ f → ∀ f', n ≤ f' → sidesF f n i = sidesF f' n i := by
  intro f
  induction f with
  | zero =>
    intro n i hl f' _
    cases f' with
    | zero => rfl
    | succ f' => simp only [sidesF]; rw [if_pos (by omega)]
  | succ f ih =>
    intro n i hl f' hl'
    cases f' with
    | zero => simp only [sidesF]; rw [if_pos (by omega)]
    | succ f' =>
      simp only [sidesF]
      by_cases h0 : n ≤ 1
      · rw [if_pos h0, if_pos h0]
      · rw [if_neg h0, if_neg h0]
        have hh := half_lt (n := n) (by omega)
        have hp := half_pos n
        rw [ih (half n) i (by omega) f' (by omega), ih (n - half n) _ (by omega) f' (by omega)]
theorem sides_one (n i : Nat) (h : n ≤ 1) : sides n i = [] := by
  unfold sides
  cases n with
  | zero => rfl
  | succ n => simp only [sidesF]; rw [if_pos h]
theorem sides_left {n i : Nat} (h : 2 ≤ n) (hi : i < half n) : sides n i = true :: sides (half n) i := by
  unfold sides
  obtain ⟨m, hn⟩ : ∃ m, n = m + 1 := ⟨n - 1, by omega⟩
  have hh := half_lt h
  conv => lhs; rw [hn]
  simp only [sidesF]
  rw [← hn, if_neg (by omega), if_pos hi, sidesF_fuel m (half n) i (by omega) _ (Nat.le_refl _)]
theorem sides_right {n i : Nat} (h : 2 ≤ n) (hi : half n ≤ i) : sides n i = false :: sides (n - half n) (i - half n) := by
  unfold sides
  obtain ⟨m, hn⟩ : ∃ m, n = m + 1 := ⟨n - 1, by omega⟩
  have hh := half_lt h
  have hp := half_pos n
  conv => lhs; rw [hn]
  simp only [sidesF]
  rw [← hn, if_neg (by omega), if_neg (by omega), sidesF_fuel m (n - half n) _ (by omega) _ (Nat.le_refl _)]
theorem sides_length : ∀ (f n i : Nat), n ≤ f → i < n → (sides n i).length < n := by
  intro f
  induction f with
  | zero => intro n i h hi; omega
  | succ f ih =>
    intro n i h hi
    by_cases h2 : 2 ≤ n
    · have hh := half_lt h2
      have hp := half_pos n
      by_cases hl : i < half n
      · rw [sides_left h2 hl, List.length_cons]
        have := ih (half n) i (by omega) hl
        omega
      · rw [sides_right h2 (by omega), List.length_cons]
        have := ih (n - half n) (i - half n) (by omega) (by omega)
        omega
    · rw [sides_one n i (by omega)]
      simp; omega
/-- From the leaf up. -/
def steps (n i : Nat) : List Bool := (sides n i).reverse
end Go.Proofs.Ytifpkhgcoopjnaa.Mk
