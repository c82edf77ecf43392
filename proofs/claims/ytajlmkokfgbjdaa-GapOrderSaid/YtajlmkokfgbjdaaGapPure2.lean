/- Plain laws on matrices that are told element by element. No program. No conditions. -/
import Derived.Test.YtajlmkokfgbjdaaGapPure
set_option linter.unusedVariables false
set_option linter.unusedSimpArgs false
namespace Go.Proofs.Ytajlmkokfgbjdaa.Gp

/-- The matrix with the shape of g whose elements are G. -/
def tab (g : List (List Int)) (G : Nat → Nat → Int) : List (List Int) := (List.range g.length).map fun i => (List.range (g.getD i []).length).map fun j => G i j
theorem tab_length (g : List (List Int)) (G : Nat → Nat → Int) : (tab g G).length = g.length := by simp [tab]
theorem tab_row (g : List (List Int)) (G : Nat → Nat → Int) (i : Nat) (h : i < g.length) : (tab g G).getD i [] = (List.range (g.getD i []).length).map fun j => G i j := by simp [tab, List.getD, h]
theorem tab_rowlen (g : List (List Int)) (G : Nat → Nat → Int) (i : Nat) : ((tab g G).getD i []).length = (g.getD i []).length := by
  by_cases h : i < g.length
  · rw [tab_row _ _ _ h]; simp
  · rw [List.getD_eq_getElem?_getD, List.getD_eq_getElem?_getD, List.getElem?_eq_none (by rw [tab_length]; omega), List.getElem?_eq_none (by omega)]
theorem tab_at (g : List (List Int)) (G : Nat → Nat → Int) (i j : Nat) (h : i < g.length) (hj : j < (g.getD i []).length) : at_ (tab g G) i j = G i j := by
  unfold at_
  rw [tab_row _ _ _ h]
  rw [List.getD_eq_getElem?_getD (l := List.map _ _), List.getElem?_map, List.getElem?_range hj]
  rfl
theorem tab_congr {g : List (List Int)} {G G' : Nat → Nat → Int} (h : ∀ i, i < g.length → ∀ j, j < (g.getD i []).length → G i j = G' i j) : tab g G = tab g G' := by
  unfold tab
  refine List.map_congr_left fun i hi => List.map_congr_left fun j hj => ?_
  exact h i (List.mem_range.1 hi) j (List.mem_range.1 hj)
theorem getD_ext {l l' : List Int} (h : l.length = l'.length) (h2 : ∀ j, j < l.length → l.getD j 0 = l'.getD j 0) : l = l' := by
  apply List.ext_getElem h
  intro j h3 h4
  have := h2 j h3
  simpa [List.getD, h3, h4] using this
theorem ext_at {g h : List (List Int)} (h1 : g.length = h.length) (h2 : ∀ i, i < g.length → (g.getD i []).length = (h.getD i []).length) (h3 : ∀ i, i < g.length → ∀ j, j < (g.getD i []).length → at_ g i j = at_ h i j) : g = h := by
  apply List.ext_getElem h1
  intro i h4 h5
  have e : g.getD i [] = h.getD i [] := getD_ext (h2 i h4) (fun j hj => h3 i h4 j hj)
  simpa [List.getD, h4, h5] using e
theorem tab_self (g : List (List Int)) : tab g (at_ g) = g := ext_at (tab_length _ _) (fun i _ => tab_rowlen _ _ _) (fun i hi j hj => by
  rw [tab_length] at hi
  rw [tab_rowlen] at hj
  exact tab_at g _ i j hi hj)
theorem tab_upd (g : List (List Int)) (G : Nat → Nat → Int) (i j : Nat) (x : Int) (hi : i < g.length) : (tab g G).set i (((tab g G).getD i []).set j x) = tab g (fun a b => if a = i ∧ b = j then x else G a b) := by
  apply List.ext_getElem (by simp [tab])
  intro a h1 h2
  have ha : a < g.length := by simpa [tab] using h2
  rw [List.getElem_set]
  by_cases hai : i = a
  · subst hai
    rw [if_pos rfl, tab_row _ _ _ hi]
    simp only [tab, List.getElem_map, List.getElem_range]
    apply List.ext_getElem (by simp)
    intro b h3 h4
    rw [List.getElem_set]
    simp only [List.getElem_map, List.getElem_range]
    by_cases hbj : j = b
    · subst hbj; simp
    · rw [if_neg hbj, if_neg (fun h => hbj h.2.symm)]
  · rw [if_neg hai]
    simp only [tab, List.getElem_map, List.getElem_range]
    refine List.map_congr_left fun b _ => ?_
    rw [if_neg (fun h => hai h.1.symm)]
theorem tab_tab (g : List (List Int)) (G H : Nat → Nat → Int) : tab (tab g G) H = tab g H := by
  unfold tab
  simp only [List.length_map, List.length_range]
  refine List.map_congr_left fun i hi => ?_
  have := tab_rowlen g G i
  unfold tab at this
  rw [this]

def shiftTo (g : List (List Int)) (o : Option (Int × Int)) (whole : Bool) (j : Nat) : Int := match o with
  | some (w, c) => if whole = true then sum (at_ g w.toNat j) c else 1099511627776
  | none => 1099511627776
def set_ (g : List (List Int)) (v : Int) (x : X) (whole : Bool) : List (List Int) := tab g fun i j => if (i : Int) = v then shiftTo g (shift g.length x) whole j else at_ g i j
def less (out g : List (List Int)) (x y : Nat) (k : Int) : List (List Int) := tab out fun i j => if i = x then min (at_ out i j) (sum (at_ g y j) k) else at_ out i j
def assume_ (g : List (List Int)) (op : Int) (holds : Bool) (a b : X) (w0 w1 : Bool) : List (List Int) :=
  match shift g.length a, shift g.length b with
  | some (x, xc), some (y, yc) =>
    if w0 = true ∧ w1 = true then
      if op = 2 ∧ holds = true then less g g x.toNat y.toNat (yc - xc - 1)
      else if op = 2 then less g g y.toNat x.toNat (xc - yc)
      else if op = 3 ∧ holds = true then less g g x.toNat y.toNat (yc - xc)
      else if op = 3 then less g g y.toNat x.toNat (xc - yc - 1)
      else if op = 4 ∧ holds = true then less (less g g x.toNat y.toNat (yc - xc)) g y.toNat x.toNat (xc - yc)
      else g
    else g
  | _, _ => g
def join (g h : List (List Int)) : List (List Int) := tab g fun i j => max (at_ g i j) (at_ h i j)
def wid (a b : Int) : Int := if a < b then 1099511627776 else a
def widen (g h : List (List Int)) : List (List Int) := tab g fun i j => wid (at_ g i j) (at_ h i j)
/-- All numbers may be bounds. -/
def Fine (g : List (List Int)) : Prop := ∀ i j, inR (at_ g i j) = true
theorem inR_zero : inR 0 = true := by rfl
theorem tab_fine {g : List (List Int)} {G : Nat → Nat → Int} (h : ∀ i, i < g.length → ∀ j, j < (g.getD i []).length → inR (G i j) = true) : Fine (tab g G) := by
  intro i j
  by_cases hi : i < g.length
  · by_cases hj : j < (g.getD i []).length
    · rw [tab_at _ _ _ _ hi hj]; exact h i hi j hj
    · unfold at_
      rw [List.getD_eq_getElem?_getD (l := (tab g G).getD i []), List.getElem?_eq_none (by rw [tab_rowlen]; omega)]
      exact inR_zero
  · unfold at_
    rw [List.getD_eq_getElem?_getD (l := tab g G), List.getElem?_eq_none (by rw [tab_length]; omega)]
    exact inR_zero
end Go.Proofs.Ytajlmkokfgbjdaa.Gp
