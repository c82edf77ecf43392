/- Plain laws on matrices of bounds. No program. No conditions. -/
import Derived.WalkKit
set_option linter.unusedVariables false
set_option linter.unusedSimpArgs false
namespace Go.Proofs.Ytajlmkokfgbjdaa.Gp

/-- Nothing is known. -/
def noGap : Int := 1099511627776
def row0 (params v : Nat) : List Int := (List.replicate params noGap).set v 0
def newTo (vars params k : Nat) : List (List Int) := (List.range vars).map fun v => if v < k then row0 params v else []
def new (vars params : Nat) : List (List Int) := newTo vars params vars
theorem newTo_length (vars params k : Nat) : (newTo vars params k).length = vars := by simp [newTo]
theorem newTo_getD (vars params k i : Nat) (h : i < vars) : (newTo vars params k).getD i [] = if i < k then row0 params i else [] := by simp [newTo, List.getD, h]
theorem newTo_succ (vars params k : Nat) (h : k < vars) : (newTo vars params k).set k (row0 params k) = newTo vars params (k + 1) := by
  apply List.ext_getElem (by simp [newTo])
  intro i h1 h2
  rw [List.getElem_set]
  simp only [newTo, List.getElem_map, List.getElem_range]
  by_cases hi : k = i
  · subst hi; simp
  · rw [if_neg hi]
    by_cases h3 : i < k
    · rw [if_pos h3, if_pos (by omega)]
    · rw [if_neg h3, if_neg (by omega)]
theorem row0_ge (params v : Nat) (h : params ≤ v) : row0 params v = List.replicate params noGap := by
  unfold row0
  rw [List.set_eq_of_length_le (by simpa using h)]
theorem row0_length (params v : Nat) : (row0 params v).length = params := by simp [row0]
theorem set_set {α : Type} (l : List α) (i : Nat) (x y : α) : (l.set i x).set i y = l.set i y := by simp
/-- A number that may be a bound. -/
def inR (n : Int) : Bool := decide (n = 1099511627776 ∨ (-17179869184 ≤ n ∧ n ≤ 17179869184))
def rowOk (l : List Int) : Bool := l.all inR
def valid (g : List (List Int)) (vars params : Int) : Bool := decide ((g.length : Int) = vars) && g.all fun l => decide ((l.length : Int) = params) && rowOk l
def sum (a k : Int) : Int := if a = 1099511627776 ∨ inR (a + k) = false then 1099511627776 else a + k
theorem inR_sum (a k : Int) : inR (sum a k) = true := by
  unfold sum
  split
  · rfl
  · rename_i h
    cases h1 : inR (a + k)
    · exact absurd (.inr h1) h
    · rfl
theorem inR_bounds {n : Int} (h : inR n = true) : -17179869184 ≤ n ∧ n ≤ 1099511627776 := by
  unfold inR at h
  have := of_decide_eq_true h
  omega
def at_ (g : List (List Int)) (i j : Nat) : Int := (g.getD i []).getD j 0
/-- f holds at each place of g. -/
def every (g : List (List Int)) (f : Nat → Nat → Bool) : Bool := (List.range g.length).all fun i => (List.range (g.getD i []).length).all fun j => f i j
theorem every_true {g : List (List Int)} {f : Nat → Nat → Bool} (h : ∀ i, i < g.length → ∀ j, j < (g.getD i []).length → f i j = true) : every g f = true := by
  unfold every
  rw [List.all_eq_true]
  intro i hi
  rw [List.all_eq_true]
  intro j hj
  exact h i (List.mem_range.1 hi) j (List.mem_range.1 hj)
theorem every_spec {g : List (List Int)} {f : Nat → Nat → Bool} (h : every g f = true) (i : Nat) (hi : i < g.length) (j : Nat) (hj : j < (g.getD i []).length) : f i j = true := by
  unfold every at h
  rw [List.all_eq_true] at h
  have h1 := h i (List.mem_range.2 hi)
  rw [List.all_eq_true] at h1
  exact h1 j (List.mem_range.2 hj)
theorem every_false {g : List (List Int)} {f : Nat → Nat → Bool} {i j : Nat} (hi : i < g.length) (hj : j < (g.getD i []).length) (h : f i j = false) : every g f = false := by
  cases he : every g f with
  | false => rfl
  | true => rw [every_spec he i hi j hj] at h; cases h
def leq (g h : List (List Int)) : Bool := every g fun i j => decide (at_ g i j ≤ at_ h i j)
def has (g : List (List Int)) (vs : List Int) : Bool := every g fun i j => decide (vs.getD i 0 - vs.getD j 0 ≤ at_ g i j)
/-- A bound, or nothing known. -/
def bound (g : List (List Int)) (v p : Int) : Int := if 0 ≤ v ∧ v < g.length ∧ 0 ≤ p ∧ p < (g.getD v.toNat []).length then at_ g v.toNat p.toNat else 1099511627776

/-- A leaf of an expression: operator, variable, number. -/
abbrev Leaf := Int × Int × Int
/-- Expressions of this chapter: a leaf, perhaps with two leaves below. -/
abbrev X := Leaf × Option (Leaf × Leaf)
def isVar (vars : Int) (l : Leaf) : Bool := decide (l.1 = 2 ∧ 0 ≤ l.2.1 ∧ l.2.1 < vars)
def isNum (l : Leaf) : Bool := decide (l.1 = 1 ∧ -2147483648 ≤ l.2.2 ∧ l.2.2 ≤ 2147483648)
def shift2 (op vars : Int) (a b : Leaf) : Option (Int × Int) :=
  if (op = 4 ∧ isVar vars a = true) ∧ isNum b = true then some (a.2.1, b.2.2)
  else if (op = 4 ∧ isNum a = true) ∧ isVar vars b = true then some (b.2.1, a.2.2)
  else if (op = 5 ∧ isVar vars a = true) ∧ isNum b = true then some (a.2.1, -b.2.2)
  else none
def shift (vars : Int) (x : X) : Option (Int × Int) :=
  if isVar vars x.1 = true then some (x.1.2.1, 0) else match x.2 with
    | none => none
    | some (a, b) => shift2 x.1.1 vars a b
theorem shift_bounds {vars : Int} {x : X} {w c : Int} (h : shift vars x = some (w, c)) : 0 ≤ w ∧ w < vars ∧ -2147483648 ≤ c ∧ c ≤ 2147483648 := by
  have hv : ∀ l, isVar vars l = true → 0 ≤ l.2.1 ∧ l.2.1 < vars := fun l h => (of_decide_eq_true h).2
  have hn : ∀ l, isNum l = true → -2147483648 ≤ l.2.2 ∧ l.2.2 ≤ 2147483648 := fun l h => (of_decide_eq_true h).2
  unfold shift at h
  split at h
  · rename_i h1
    have := hv _ h1
    simp only [Option.some.injEq, Prod.mk.injEq] at h
    omega
  · split at h
    · cases h
    · rename_i a b _
      unfold shift2 at h
      split at h
      · rename_i h1
        have := hv _ h1.1.2
        have := hn _ h1.2
        simp only [Option.some.injEq, Prod.mk.injEq] at h
        omega
      · split at h
        · rename_i h1
          have := hv _ h1.2
          have := hn _ h1.1.2
          simp only [Option.some.injEq, Prod.mk.injEq] at h
          omega
        · split at h
          · rename_i h1
            have := hv _ h1.1.2
            have := hn _ h1.2
            simp only [Option.some.injEq, Prod.mk.injEq] at h
            omega
          · cases h
end Go.Proofs.Ytajlmkokfgbjdaa.Gp
