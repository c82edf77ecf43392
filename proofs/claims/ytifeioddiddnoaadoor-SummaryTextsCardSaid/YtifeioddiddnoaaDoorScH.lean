/- Summaries are joined. No conditions. -/
import Derived.Test.YtifeioddiddnoaaDoorScG
import Derived.Test.YtifeioddiddnoaaDoorScEp
import Derived.Test.YtifeioddiddnoaaDoorShelf
set_option linter.unusedVariables false
set_option linter.unusedSimpArgs false
namespace Go.Proofs.YtifeioddiddnoaaDoor
open Go.Abs Go Go.RowKit
set_option maxRecDepth 20000
theorem insR_len' (l : List Pr) : (isort l).length = l.length := by rw [← sorted_all, List.length_reverse, sorted_len l _ (Nat.le_refl _)]
theorem isort_mem (l : List Pr) (z : Pr) (h : z ∈ isort l) : z ∈ l := by
  rw [← sorted_all, List.mem_reverse] at h
  exact sorted_mem l z _ (Nat.le_refl _) h
theorem flP_noRo : ∀ l : List Pr, noRoL (flC Pr.cl l) = true
  | [] => rfl
  | x :: l => noRoL_append (a := x.cl) rfl (flP_noRo l)
theorem flP_nop {M : List Pr} (i : Nat) (rg : Reg) (p : List Nat) (c : List A) (h1 : [Reg.one (flC Pr.cl M)][i]? = some rg) (h2 : rg.get p = some c) : noRoL c = true := by
  cases i with
  | succ i => simp at h1
  | zero =>
    simp only [List.getElem?_cons_zero, Option.some.injEq] at h1
    subst h1
    cases p with
    | cons _ _ => simp [Reg.get] at h2
    | nil =>
      simp only [Reg.get, Option.some.injEq] at h2
      subst h2; exact flP_noRo M
theorem prOf_bd : ∀ k, k < 64 → ∀ x, x ∈ prOf k → x.bd := by
  intro k _ x hx
  unfold prOf at hx
  rw [List.mem_filterMap] at hx
  obtain ⟨i, hi, h⟩ := hx
  have hi : i < 6 := by simpa using hi
  split at h
  · have : ∀ i, i < 6 → ∀ x, prAll[i]? = some x → (0 ≤ x.a ∧ x.a ≤ 2) ∧ (0 ≤ x.b ∧ x.b ≤ 2) := by
      intro i hi x hx
      match i, hi with
      | 0, _ => cases hx; decide
      | 1, _ => cases hx; decide
      | 2, _ => cases hx; decide
      | 3, _ => cases hx; decide
      | 4, _ => cases hx; decide
      | 5, _ => cases hx; decide
    have := this i hi x h
    exact ⟨by omega, by omega, by omega, by omega⟩
  · cases h
theorem ior_nat (a b : Nat) : ior (a : Int) (b : Int) = ((a ||| b : Nat) : Int) := by unfold ior; simp
theorem or_nat {a b : Nat} (ha : a < 4294967296) (hb : b < 4294967296) : IntKind.i64.wrap ((BitVec.ofInt 64 (a : Int) ||| BitVec.ofInt 64 (b : Int)).toNat : Nat) = ((a ||| b : Nat) : Int) := by
  rw [or_i64 ⟨by omega, by omega⟩ ⟨by omega, by omega⟩, ior_nat]
theorem and_nat {a b : Nat} (ha : a < 4294967296) (hb : b < 4294967296) : IntKind.i64.wrap ((BitVec.ofInt 64 (a : Int) &&& BitVec.ofInt 64 (b : Int)).toNat : Nat) = ((a &&& b : Nat) : Int) := by
  have e : (BitVec.ofInt 64 (a : Int) &&& BitVec.ofInt 64 (b : Int)).toNat = a &&& b := by
    rw [BitVec.toNat_and, BitVec.toNat_ofInt, BitVec.toNat_ofInt]
    congr 1 <;> omega
  rw [e]
  have : a &&& b ≤ a := Nat.and_le_left
  exact wrap_i64 ⟨by omega, by omega⟩
theorem max_int (a b : Nat) : (if (a : Int) < (b : Int) then (b : Int) else (a : Int)) = ((max a b : Nat) : Int) := by split <;> omega
end Go.Proofs.YtifeioddiddnoaaDoor
