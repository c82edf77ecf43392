/- Plain laws of gaps for the statements on order and widening. No program. -/
import Derived.Test.YtajlmkokfgbjdaaFb2
set_option linter.unusedVariables false
set_option linter.unusedSimpArgs false
namespace Go.Proofs.Ytajlmkokfgbjdaa
open Go.RowKit
/-- Valid gaps of n variables and p parameters. -/
structure Gp.Ok (g : List (List Int)) (n p : Nat) : Prop where
  len : g.length = n
  rect : Rect g p
  fine : Gp.Fine g
namespace Gp
variable {g h k : List (List Int)} {n p : Nat}
theorem Ok.row (a : Ok g n p) {i : Nat} (hi : i < n) : (g.getD i []).length = p := a.rect i (by rw [a.len]; exact hi)
theorem Ok.small (a : Ok g n p) (h0 : 0 < n) (h1 : n ≤ 1000) (h2 : p ≤ 1000) : Small g := by
  refine ⟨by rw [a.len]; exact h0, by rw [a.len]; exact h1, fun i => ?_⟩
  by_cases hi : i < n
  · rw [a.row hi]; exact h2
  · rw [List.getD_eq_getElem?_getD, List.getElem?_eq_none (by rw [a.len]; omega)]; exact Nat.zero_le _
theorem Ok.covers (a : Ok g n p) (b : Ok h n p) : Covers g h := ⟨by rw [a.len, b.len]; exact Nat.le_refl _, fun i hi => by rw [a.row (by rw [a.len] at hi; exact hi), b.row (by rw [a.len] at hi; exact hi)]; exact Nat.le_refl _⟩
theorem Ok.bounds (a : Ok g n p) (i j : Nat) : -17179869184 ≤ at_ g i j ∧ at_ g i j ≤ 1099511627776 := inR_bounds (a.fine i j)
theorem Ok.tab (a : Ok g n p) {G : Nat → Nat → Int} (hG : ∀ i, i < n → ∀ j, j < p → inR (G i j) = true) : Ok (tab g G) n p :=
  ⟨by rw [tab_length, a.len], fun i hi => by rw [tab_rowlen]; rw [tab_length] at hi; exact a.rect i hi, tab_fine fun i hi j hj => by rw [a.len] at hi; rw [a.row hi] at hj; exact hG i hi j hj⟩
theorem Ok.at (a : Ok g n p) (G : Nat → Nat → Int) {i j : Nat} (hi : i < n) (hj : j < p) : at_ (Gp.tab g G) i j = G i j := tab_at g G i j (by rw [a.len]; exact hi) (by rw [a.row hi]; exact hj)
theorem Ok.leq (a : Ok g n p) : leq g h = true ↔ ∀ i, i < n → ∀ j, j < p → at_ g i j ≤ at_ h i j := by
  unfold Gp.leq
  constructor
  · intro e i hi j hj
    exact of_decide_eq_true (every_spec e i (by rw [a.len]; exact hi) j (by rw [a.row hi]; exact hj))
  · intro e
    exact every_true fun i hi j hj => decide_eq_true (by rw [a.len] at hi; rw [a.row hi] at hj; exact e i hi j hj)
theorem Ok.has (a : Ok g n p) {v : List Int} : has g v = true ↔ ∀ i, i < n → ∀ j, j < p → v.getD i 0 - v.getD j 0 ≤ at_ g i j := by
  unfold Gp.has
  constructor
  · intro e i hi j hj
    exact of_decide_eq_true (every_spec e i (by rw [a.len]; exact hi) j (by rw [a.row hi]; exact hj))
  · intro e
    exact every_true fun i hi j hj => decide_eq_true (by rw [a.len] at hi; rw [a.row hi] at hj; exact e i hi j hj)
theorem Ok.ext (a : Ok g n p) (b : Ok h n p) (e : ∀ i, i < n → ∀ j, j < p → at_ g i j = at_ h i j) : g = h :=
  ext_at (by rw [a.len, b.len]) (fun i hi => by rw [a.len] at hi; rw [a.row hi, b.row hi]) (fun i hi j hj => by rw [a.len] at hi; rw [a.row hi] at hj; exact e i hi j hj)
theorem inR_max {a b : Int} (ha : inR a = true) (hb : inR b = true) : inR (max a b) = true := by
  rcases Int.le_total a b with h | h
  · rw [Int.max_eq_right h]; exact hb
  · rw [Int.max_eq_left h]; exact ha
theorem inR_min {a b : Int} (ha : inR a = true) (hb : inR b = true) : inR (min a b) = true := by
  rcases Int.le_total a b with h | h
  · rw [Int.min_eq_left h]; exact ha
  · rw [Int.min_eq_right h]; exact hb
theorem inR_of {a : Int} (h : a = 1099511627776 ∨ (-17179869184 ≤ a ∧ a ≤ 17179869184)) : inR a = true := decide_eq_true h
theorem Ok.join (a : Ok g n p) (b : Ok h n p) : Ok (join g h) n p := a.tab fun i _ j _ => inR_max (a.fine i j) (b.fine i j)
theorem inR_wid {a b : Int} (ha : inR a = true) : inR (wid a b) = true := by
  unfold wid; split
  · rfl
  · exact ha
theorem Ok.widen (a : Ok g n p) : Ok (widen g h) n p := a.tab fun i _ j _ => inR_wid (a.fine i j)
theorem Ok.join_at (a : Ok g n p) {i j : Nat} (hi : i < n) (hj : j < p) : at_ (Gp.join g h) i j = max (at_ g i j) (at_ h i j) := a.at _ hi hj
theorem Ok.widen_at (a : Ok g n p) {i j : Nat} (hi : i < n) (hj : j < p) : at_ (Gp.widen g h) i j = wid (at_ g i j) (at_ h i j) := a.at _ hi hj
theorem new_ok (n p : Nat) : Ok (new n p) n p := by
  refine ⟨newTo_length _ _ _, fun i hi => ?_, fun i j => ?_⟩
  · rw [show (new n p).length = n from newTo_length _ _ _] at hi
    rw [show new n p = newTo n p n from rfl, newTo_getD _ _ _ _ hi, if_pos hi]; exact row0_length p i
  · unfold at_
    by_cases hi : i < n
    · rw [show new n p = newTo n p n from rfl, newTo_getD _ _ _ _ hi, if_pos hi]
      unfold row0
      rw [List.getD_eq_getElem?_getD]
      cases hj : ((List.replicate p noGap).set i 0)[j]? with
      | none => rfl
      | some x =>
        have hm := List.mem_of_getElem? hj
        rcases List.mem_or_eq_of_mem_set hm with h | h
        · rw [List.eq_of_mem_replicate h]; rfl
        · rw [h]; rfl
    · rw [List.getD_eq_getElem?_getD (l := new n p), List.getElem?_eq_none (by rw [show (new n p).length = n from newTo_length _ _ _]; omega)]
      rfl
theorem inR_pick {N : List Int} {i : Nat} {z : Int} (hz : inR z = true) : inR (pick N i z) = true := by
  unfold pick; split
  · rename_i h; exact h.2
  · exact hz
theorem madeOf_ok (n p : Nat) (N : List Int) : Ok (madeOf n p N) n p := (new_ok n p).tab fun i _ j _ => inR_pick ((new_ok n p).fine i j)
def nn (V : Nat) : Nat := 1 + V % 5
def pp (V P : Nat) : Nat := min (P % 4) (1 + V % 5)
theorem made_ok (V P : Nat) (N : List Int) : Ok (made V P N) (nn V) (pp V P) := madeOf_ok _ _ N
theorem nn_pos (V : Nat) : 0 < nn V := by unfold nn; omega
theorem nn_le (V : Nat) : nn V ≤ 5 := by unfold nn; omega
theorem pp_le (V P : Nat) : pp V P ≤ 3 := by unfold pp; omega
theorem pp_nn (V P : Nat) : pp V P ≤ nn V := by unfold pp nn; omega
theorem tmod4 {k : Int} (h0 : 0 ≤ k) (h1 : k ≤ 255) : 0 ≤ k.tdiv 4 ∧ k.tdiv 4 ≤ 63 := by
  rw [Int.tdiv_eq_ediv_of_nonneg h0]; omega
theorem tight_ok (a : Ok g n p) {v more : List Int} (hv : ∀ i, -2147483648 ≤ v.getD i 0 ∧ v.getD i 0 ≤ 2147483647) (hm : ∀ i, 0 ≤ more.getD i 0 ∧ more.getD i 0 ≤ 255) : Ok (tight g p v more) n p := by
  refine a.tab fun i _ j _ => ?_
  unfold tightAt
  split
  · rfl
  · have h1 := hv i
    have h2 := hv j
    have h3 := more_bounds hm (i * p + j)
    have h4 := tmod4 h3.1 h3.2
    exact inR_of (.inr (by omega))
theorem tight_has (a : Ok g n p) {v more : List Int} (hv : ∀ i, -2147483648 ≤ v.getD i 0 ∧ v.getD i 0 ≤ 2147483647) (hm : ∀ i, 0 ≤ more.getD i 0 ∧ more.getD i 0 ≤ 255) : Gp.has (tight g p v more) v = true := by
  refine (tight_ok a hv hm).has.2 fun i hi j hj => ?_
  rw [show at_ (tight g p v more) i j = tightAt p v more i j from a.at _ hi hj]
  have h1 := hv i
  have h2 := hv j
  unfold tightAt
  split
  · omega
  · have h3 := more_bounds hm (i * p + j)
    have h4 := tmod4 h3.1 h3.2
    omega
section
variable (a : Ok g n p) (b : Ok h n p) (c : Ok k n p)
include a
theorem leq_refl : Gp.leq g g = true := a.leq.2 fun _ _ _ _ => Int.le_refl _
theorem widen_self : widen g g = g := a.widen.ext a fun i hi j hj => by rw [a.widen_at hi hj]; unfold wid; rw [if_neg (by omega)]
theorem join_self : join g g = g := (a.join a).ext a fun i hi j hj => by rw [a.join_at hi hj]; omega
theorem leq_trans (h1 : Gp.leq g h = true) (b : Ok h n p) (h2 : Gp.leq h k = true) : Gp.leq g k = true := a.leq.2 fun i hi j hj => Int.le_trans (a.leq.1 h1 i hi j hj) (b.leq.1 h2 i hi j hj)
include b
omit b in
theorem leq_widen_l (_ : Ok h n p) : Gp.leq g (widen g h) = true := a.leq.2 fun i hi j hj => by
  rw [a.widen_at hi hj]; have := a.bounds i j; unfold wid; split <;> omega
theorem leq_widen_r : Gp.leq h (widen g h) = true := b.leq.2 fun i hi j hj => by
  rw [a.widen_at hi hj]; have := b.bounds i j; unfold wid; split <;> omega
omit b in
theorem leq_join_l (_ : Ok h n p) : Gp.leq g (join g h) = true := a.leq.2 fun i hi j hj => by rw [a.join_at hi hj]; omega
theorem leq_join_r : Gp.leq h (join g h) = true := b.leq.2 fun i hi j hj => by rw [a.join_at hi hj]; omega
theorem join_comm : join g h = join h g := (a.join b).ext (b.join a) fun i hi j hj => by rw [a.join_at hi hj, b.join_at hi hj]; omega
theorem join_leq : Gp.leq g h = decide (join g h = h) := by
  cases e : Gp.leq g h with
  | true =>
    refine (decide_eq_true ?_).symm
    exact (a.join b).ext b fun i hi j hj => by rw [a.join_at hi hj]; have := a.leq.1 e i hi j hj; omega
  | false =>
    refine (decide_eq_false fun e2 => ?_).symm
    have : Gp.leq g h = true := by have := leq_join_l a b; rw [e2] at this; exact this
    rw [e] at this; cases this
theorem leq_antisymm (h1 : Gp.leq g h = true) (h2 : Gp.leq h g = true) : g = h := a.ext b fun i hi j hj => Int.le_antisymm (a.leq.1 h1 i hi j hj) (b.leq.1 h2 i hi j hj)
theorem join_least (h1 : Gp.leq g k = true) : Gp.leq (join g h) k = Gp.leq h k := by
  cases e : Gp.leq h k with
  | true => exact (a.join b).leq.2 fun i hi j hj => by rw [a.join_at hi hj]; have := a.leq.1 h1 i hi j hj; have := b.leq.1 e i hi j hj; omega
  | false =>
    cases e2 : Gp.leq (join g h) k with
    | false => rfl
    | true => have := leq_trans b (leq_join_r a b) (a.join b) e2; rw [e] at this; cases this
theorem has_leq {v : List Int} (h1 : Gp.leq g h = true) (h2 : Gp.has g v = true) : Gp.has h v = true := b.has.2 fun i hi j hj => Int.le_trans (a.has.1 h2 i hi j hj) (a.leq.1 h1 i hi j hj)
end
theorem bound_at (a : Ok g n p) {i j : Nat} (hi : i < n) (hj : j < p) : bound g i j = at_ g i j := by
  unfold bound
  rw [Int.toNat_natCast, Int.toNat_natCast, if_pos ⟨by omega, by rw [a.len]; omega, by omega, by rw [a.row hi]; omega⟩]
theorem wid_or (a b : Int) : wid a b = a ∨ wid a b = 1099511627776 := by unfold wid; split <;> simp
theorem values_bounds {m : Nat} {l : List Int} (hb : ∀ i, -2147483648 ≤ l.getD i 0 ∧ l.getD i 0 ≤ 2147483647) (i : Nat) : -2147483648 ≤ (values m l).getD i 0 ∧ (values m l).getD i 0 ≤ 2147483647 := by
  by_cases h : i < m
  · rw [values_getD _ _ _ h]; exact hb i
  · rw [List.getD_eq_getElem?_getD, List.getElem?_eq_none (by rw [values_length]; omega)]; decide
end Gp
end Go.Proofs.Ytajlmkokfgbjdaa
