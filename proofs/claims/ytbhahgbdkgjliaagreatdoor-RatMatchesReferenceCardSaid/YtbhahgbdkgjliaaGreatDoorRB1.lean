/- Numbers as lists of bits, the least first. No program. -/
import Init.Data.Nat
import Init.Data.List
import Init.Omega
set_option linter.unusedVariables false
set_option linter.unusedSimpArgs false
namespace Go.Proofs.YtbhahgbdkgjliaaGreatDoor
namespace Rb
/-- A number whose first bits are those of a list, with another number behind them. -/
def bvI : List Int → Int → Int
  | [], x => x
  | b :: l, x => b + 2 * bvI l x
def isB (l : List Int) : Prop := ∀ x, x ∈ l → x = 0 ∨ x = 1
def bz (l : List Int) : Int := bvI l 0
/-- The bits of a number. -/
def bL (n : Nat) : List Int := if h : n = 0 then [] else ((n % 2 : Nat) : Int) :: bL (n / 2)
termination_by n
decreasing_by omega
theorem bL_zero : bL 0 = [] := by rw [bL, dif_pos rfl]
theorem bL_pos {n : Nat} (h : n ≠ 0) : bL n = ((n % 2 : Nat) : Int) :: bL (n / 2) := by rw [bL, dif_neg h]
theorem isB_nil : isB [] := fun _ h => by simp at h
theorem isB_cons {b : Int} {l : List Int} (h : isB (b :: l)) : (b = 0 ∨ b = 1) ∧ isB l := ⟨h b (by simp), fun x hx => h x (by simp [hx])⟩
theorem isB_mk {b : Int} {l : List Int} (hb : b = 0 ∨ b = 1) (h : isB l) : isB (b :: l) := fun x hx => by
  rcases List.mem_cons.1 hx with rfl | hx
  · exact hb
  · exact h x hx
theorem isB_snoc {b : Int} {l : List Int} (h : isB l) (hb : b = 0 ∨ b = 1) : isB (l ++ [b]) := fun x hx => by
  rcases List.mem_append.1 hx with hx | hx
  · exact h x hx
  · rw [List.mem_singleton.1 hx]; exact hb
theorem isB_take {l : List Int} (h : isB l) (k : Nat) : isB (l.take k) := fun x hx => h x (List.mem_of_mem_take hx)
theorem isB_drop {l : List Int} (h : isB l) (k : Nat) : isB (l.drop k) := fun x hx => h x (List.mem_of_mem_drop hx)
theorem bL_isB (n : Nat) : isB (bL n) := by
  induction n using Nat.strongRecOn with
  | _ n ih =>
    by_cases h : n = 0
    · rw [h, bL_zero]; exact isB_nil
    · rw [bL_pos h]
      exact isB_mk (by omega) (ih (n / 2) (by omega))
theorem bv_bL (n : Nat) : bz (bL n) = n := by
  induction n using Nat.strongRecOn with
  | _ n ih =>
    by_cases h : n = 0
    · rw [h, bL_zero]; rfl
    · have := ih (n / 2) (by omega)
      rw [bL_pos h]
      show ((n % 2 : Nat) : Int) + 2 * bz (bL (n / 2)) = n
      rw [this]; omega
theorem bvI_app : ∀ (l m : List Int) (x : Int), bvI (l ++ m) x = bvI l (bvI m x)
  | [], _, _ => rfl
  | b :: l, m, x => by rw [List.cons_append, bvI, bvI, bvI_app l m x]
theorem bvI_snoc (l : List Int) (b x : Int) : bvI (l ++ [b]) x = bvI l (b + 2 * x) := by rw [bvI_app]; rfl
theorem bv_nonneg : ∀ {l : List Int}, isB l → 0 ≤ bz l
  | [], _ => Int.le_refl 0
  | b :: l, h => by
    have h1 := isB_cons h
    have h2 := bv_nonneg h1.2
    show 0 ≤ b + 2 * bz l
    omega
theorem bvI_neg : ∀ {l : List Int} {x : Int}, isB l → x ≤ -1 → bvI l x ≤ -1
  | [], _, _, hx => hx
  | b :: l, x, h, hx => by
    have h1 := isB_cons h
    have h2 := bvI_neg h1.2 hx
    show b + 2 * bvI l x ≤ -1
    omega
theorem bv_lt : ∀ {l : List Int}, isB l → bz l < (2 ^ l.length : Nat)
  | [], _ => by show (0 : Int) < ((2 ^ 0 : Nat) : Int); decide
  | b :: l, h => by
    have h1 := isB_cons h
    have h2 := bv_lt h1.2
    show b + 2 * bz l < ((2 ^ (l.length + 1) : Nat) : Int)
    rw [Nat.pow_succ]
    omega
theorem bL_len : ∀ (k n : Nat), n < 2 ^ k → (bL n).length ≤ k
  | 0, n, h => by
    have : n = 0 := by simpa using h
    rw [this, bL_zero]; exact Nat.le_refl _
  | k + 1, n, h => by
    by_cases h0 : n = 0
    · rw [h0, bL_zero]; simp
    · rw [bL_pos h0, List.length_cons]
      have := bL_len k (n / 2) (by rw [Nat.pow_succ] at h; omega)
      omega
/-- The number of a list of bits. -/
def nv (l : List Int) : Nat := (bz l).toNat
theorem nv_eq {l : List Int} (h : isB l) : (nv l : Int) = bz l := Int.toNat_of_nonneg (bv_nonneg h)
theorem nv_bL (n : Nat) : nv (bL n) = n := by unfold nv; rw [bv_bL]; rfl
theorem nv_lt {l : List Int} (h : isB l) : nv l < 2 ^ l.length := by
  have := bv_lt h
  have := nv_eq h
  omega
theorem canon_len {l : List Int} (h : isB l) : (bL (nv l)).length ≤ l.length := bL_len _ _ (nv_lt h)
/-- A list of bits without zeros at its end. -/
theorem canon : ∀ {l : List Int}, isB l → (l = [] ∨ l.getLast? = some 1) → l = bL (nv l)
  | [], _, _ => by show [] = bL 0; rw [bL_zero]
  | [b], h, hl => by
    have hb : b = 1 := by
      rcases hl with h | h
      · simp at h
      · simpa using h
    subst hb
    show [1] = bL 1
    rw [bL_pos (by decide), show (1 : Nat) / 2 = 0 from rfl, bL_zero]; rfl
  | b :: c :: l, h, hl => by
    have h1 := isB_cons h
    have hl2 : (c :: l).getLast? = some 1 := by
      rcases hl with h | h
      · simp at h
      · simpa [List.getLast?_cons_cons] using h
    have ih := canon h1.2 (.inr hl2)
    have e1 := nv_eq h
    have e2 := nv_eq h1.2
    have e3 : bz (b :: c :: l) = b + 2 * bz (c :: l) := rfl
    have h0 : nv (c :: l) ≠ 0 := fun hz => by rw [hz, bL_zero] at ih; simp at ih
    have hn : nv (b :: c :: l) = b.toNat + 2 * nv (c :: l) := by omega
    rw [hn, bL_pos (by omega), show (b.toNat + 2 * nv (c :: l)) / 2 = nv (c :: l) by omega, ← ih]
    congr 1
    omega
/-- A bit of a list. -/
def gt (l : List Int) (i : Nat) : Int := l.getD i 0
theorem gt_bit {l : List Int} (h : isB l) (i : Nat) : gt l i = 0 ∨ gt l i = 1 := by
  unfold gt
  by_cases hi : i < l.length
  · rw [List.getD_eq_getElem?_getD, List.getElem?_eq_getElem hi]
    exact h _ (List.getElem_mem hi)
  · rw [List.getD_eq_getElem?_getD, List.getElem?_eq_none (by omega)]; exact .inl rfl
theorem bv_drop (l : List Int) (i : Nat) : bz (l.drop i) = gt l i + 2 * bz (l.drop (i + 1)) := by
  unfold gt
  by_cases hi : i < l.length
  · rw [List.drop_eq_getElem_cons hi, List.getD_eq_getElem?_getD, List.getElem?_eq_getElem hi]; rfl
  · rw [List.drop_eq_nil_of_le (by omega), List.drop_eq_nil_of_le (by omega), List.getD_eq_getElem?_getD, List.getElem?_eq_none (by omega)]; rfl
/-- The lower bits of a number, with another number behind them. -/
def vF (f : Nat → Int) : Nat → Int → Int
  | 0, x => x
  | i + 1, x => vF f i (f i + 2 * x)
theorem vF_bv (l : List Int) : ∀ i, vF (gt l) i (bz (l.drop i)) = bz l
  | 0 => rfl
  | i + 1 => by rw [vF, ← bv_drop, vF_bv l i]
theorem vF_lt {f g : Nat → Int} (hf : ∀ i, f i = 0 ∨ f i = 1) (hg : ∀ i, g i = 0 ∨ g i = 1) : ∀ (i : Nat) (x y : Int), y < x → vF g i y < vF f i x
  | 0, _, _, h => h
  | i + 1, x, y, h => by
    rw [vF, vF]
    refine vF_lt hf hg i _ _ ?_
    have := hf i; have := hg i
    omega
/-- How two numbers compare. -/
def cm (a b : Int) : Int := if a < b then -1 else if a = b then 0 else 1
theorem cm_bits {l m : List Int} (hl : isB l) (hm : isB m) {i : Nat} (h : bz (l.drop (i + 1)) = bz (m.drop (i + 1))) (hne : gt l i ≠ gt m i) : gt l i - gt m i = cm (bz l) (bz m) := by
  have e1 := vF_bv l i
  have e2 := vF_bv m i
  have d1 := bv_drop l i
  have d2 := bv_drop m i
  have b1 := gt_bit hl i
  have b2 := gt_bit hm i
  unfold cm
  rcases Int.lt_or_gt_of_ne hne with k | k
  · have := vF_lt (gt_bit hm) (gt_bit hl) i (bz (m.drop i)) (bz (l.drop i)) (by omega)
    rw [if_pos (by omega)]; omega
  · have := vF_lt (gt_bit hl) (gt_bit hm) i (bz (l.drop i)) (bz (m.drop i)) (by omega)
    rw [if_neg (by omega), if_neg (by omega)]; omega
end Rb
end Go.Proofs.YtbhahgbdkgjliaaGreatDoor
