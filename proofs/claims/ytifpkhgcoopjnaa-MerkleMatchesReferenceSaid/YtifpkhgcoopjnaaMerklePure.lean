/- Plain functions of the Merkle trees on lists of words. No conditions. -/
import Derived.Test.YtifpkhgcoopjnaaDigestLists
namespace Go.Proofs.Ytifpkhgcoopjnaa.Mk
open Go.RowKit

/-- The greatest power of 2 that is less than n. -/
def half (n : Nat) : Nat := 2 ^ Nat.log2 (n - 1)
theorem half_unique {n k e : Nat} (hk : k = 2 ^ e) (h1 : k < n) (h2 : n ≤ 2 * k) : k = half n := by
  unfold half
  have h : Nat.log2 (n - 1) = e := by
    rw [Nat.log2_eq_iff (by omega)]
    subst hk
    rw [Nat.pow_succ]
    omega
  rw [h, hk]
theorem half_pos (n : Nat) : 0 < half n := Nat.pow_pos (by omega)
theorem half_lt {n : Nat} (h : 2 ≤ n) : half n < n := by
  unfold half
  have := Nat.log2_self_le (n := n - 1) (by omega)
  omega
theorem half_ge {n : Nat} (h : 2 ≤ n) : n ≤ 2 * half n := by
  unfold half
  have := Nat.lt_log2_self (n := n - 1)
  rw [Nat.pow_succ] at this
  omega

/-- The top of a list; f: fuel. -/
def topF : Nat → List Int → BitVec 64
  | 0, _ => 0#64
  | f + 1, l =>
    if l.length = 0 then 0#64
    else if l.length = 1 then Dg.join 0#64 (B (l.getD 0 0))
    else Dg.join (topF f (l.take (half l.length))) (topF f (l.drop (half l.length)))
def top (l : List Int) : BitVec 64 := topF l.length l
theorem topF_fuel : ∀ (f : Nat) (l : List Int), l.length ≤ f → ∀ f', l.length ≤ f' → topF f l = topF f' l := by
  intro f
  induction f with
  | zero =>
    intro l hl f' _
    have h0 : l.length = 0 := by omega
    cases f' with
    | zero => rfl
    | succ f' => simp only [topF, h0, if_true]
  | succ f ih =>
    intro l hl f' hl'
    cases f' with
    | zero =>
      have h0 : l.length = 0 := by omega
      simp only [topF, h0, if_true]
    | succ f' =>
      simp only [topF]
      by_cases h0 : l.length = 0
      · rw [if_pos h0, if_pos h0]
      · rw [if_neg h0, if_neg h0]
        by_cases h1 : l.length = 1
        · rw [if_pos h1, if_pos h1]
        · rw [if_neg h1, if_neg h1]
          have hh := half_lt (n := l.length) (by omega)
          have hp := half_pos l.length
          rw [ih (l.take (half l.length)) (by rw [List.length_take]; omega) f' (by rw [List.length_take]; omega), ih (l.drop (half l.length)) (by rw [List.length_drop]; omega) f' (by rw [List.length_drop]; omega)]
theorem top_nil : top [] = 0#64 := rfl
theorem top_one (x : Int) : top [x] = Dg.join 0#64 (B x) := rfl
theorem top_many (l : List Int) (h : 2 ≤ l.length) : top l = Dg.join (top (l.take (half l.length))) (top (l.drop (half l.length))) := by
  unfold top
  obtain ⟨n, hn⟩ : ∃ n, l.length = n + 1 := ⟨l.length - 1, by omega⟩
  have hh := half_lt h
  have hp := half_pos l.length
  conv => lhs; rw [hn]
  simp only [topF]
  rw [if_neg (by omega), if_neg (by omega)]
  rw [topF_fuel n (l.take (half l.length)) (by rw [List.length_take]; omega) _ (Nat.le_refl _), topF_fuel n (l.drop (half l.length)) (by rw [List.length_drop]; omega) _ (Nat.le_refl _)]
def root (l : List Int) : BitVec 64 := Dg.join (B l.length) (top l)
/-- The error of a place. -/
def place (n i : Int) : Int := if 4096 < n then 2 else if i < 0 ∨ n ≤ i then 1 else 0

/-- The tops beside the way down to a place; f: fuel. -/
def downF : Nat → List Int → Nat → List Int
  | 0, _, _ => []
  | f + 1, l, i =>
    if l.length ≤ 1 then []
    else if i < half l.length then I (top (l.drop (half l.length))) :: downF f (l.take (half l.length)) i
    else I (top (l.take (half l.length))) :: downF f (l.drop (half l.length)) (i - half l.length)
def down (l : List Int) (i : Nat) : List Int := downF l.length l i
theorem downF_fuel : ∀ (f : Nat) (l : List Int) (i : Nat), l.length ≤ f → ∀ f', l.length ≤ f' → downF f l i = downF f' l i := by
  intro f
  induction f with
  | zero =>
    intro l i hl f' _
    cases f' with
    | zero => rfl
    | succ f' => simp only [downF]; rw [if_pos (by omega)]
  | succ f ih =>
    intro l i hl f' hl'
    cases f' with
    | zero => simp only [downF]; rw [if_pos (by omega)]
    | succ f' =>
      simp only [downF]
      by_cases h0 : l.length ≤ 1
      · rw [if_pos h0, if_pos h0]
      · rw [if_neg h0, if_neg h0]
        have hh := half_lt (n := l.length) (by omega)
        have hp := half_pos l.length
        rw [ih (l.take (half l.length)) i (by rw [List.length_take]; omega) f' (by rw [List.length_take]; omega), ih (l.drop (half l.length)) _ (by rw [List.length_drop]; omega) f' (by rw [List.length_drop]; omega)]
theorem down_one {l : List Int} (i : Nat) (h : l.length ≤ 1) : down l i = [] := by
  unfold down
  cases l with
  | nil => rfl
  | cons x l => simp only [List.length_cons, downF]; rw [if_pos (by simpa using h)]
theorem down_left {l : List Int} {i : Nat} (h : 2 ≤ l.length) (hi : i < half l.length) : down l i = I (top (l.drop (half l.length))) :: down (l.take (half l.length)) i := by
  unfold down
  obtain ⟨n, hn⟩ : ∃ n, l.length = n + 1 := ⟨l.length - 1, by omega⟩
  have hh := half_lt h
  have hp := half_pos l.length
  conv => lhs; rw [hn]
  simp only [downF]
  rw [if_neg (by omega), if_pos hi]
  rw [downF_fuel n (l.take (half l.length)) i (by rw [List.length_take]; omega) _ (Nat.le_refl _)]
theorem down_right {l : List Int} {i : Nat} (h : 2 ≤ l.length) (hi : half l.length ≤ i) : down l i = I (top (l.take (half l.length))) :: down (l.drop (half l.length)) (i - half l.length) := by
  unfold down
  obtain ⟨n, hn⟩ : ∃ n, l.length = n + 1 := ⟨l.length - 1, by omega⟩
  have hh := half_lt h
  have hp := half_pos l.length
  conv => lhs; rw [hn]
  simp only [downF]
  rw [if_neg (by omega), if_neg (by omega)]
  rw [downF_fuel n (l.drop (half l.length)) _ (by rw [List.length_drop]; omega) _ (Nat.le_refl _)]
/-- The path of a place. -/
def path (l : List Int) (i : Nat) : List Int := (down l i).reverse
/-- A list whose first a and last a elements have been turned round. -/
def revTo (l : List Int) (a : Nat) : List Int := (List.range l.length).map fun i => if i < a ∨ l.length ≤ i + a then l.getD (l.length - 1 - i) 0 else l.getD i 0
theorem revTo_length (l : List Int) (a : Nat) : (revTo l a).length = l.length := by simp [revTo]
theorem revTo_get (l : List Int) (a i : Nat) (h : i < l.length) : (revTo l a).getD i 0 = if i < a ∨ l.length ≤ i + a then l.getD (l.length - 1 - i) 0 else l.getD i 0 := by
  simp [revTo, List.getD, h]
theorem ext_getD {l r : List Int} (hl : l.length = r.length) (h : ∀ i, i < l.length → l.getD i 0 = r.getD i 0) : l = r := by
  apply List.ext_getElem hl
  intro i h1 h2
  have := h i h1
  simpa [List.getD, h1, h2] using this
theorem revTo_zero (l : List Int) : revTo l 0 = l := by
  refine ext_getD (revTo_length l 0) fun i hi => ?_
  rw [revTo_length] at hi
  rw [revTo_get l 0 i hi, if_neg (by omega)]
theorem revTo_end (l : List Int) (a : Nat) (h : l.length ≤ 2 * a + 1) : revTo l a = l.reverse := by
  refine ext_getD (by rw [revTo_length, List.length_reverse]) fun i hi => ?_
  rw [revTo_length] at hi
  have hr : l.reverse.getD i 0 = l.getD (l.length - 1 - i) 0 := by
    simp only [List.getD]
    rw [List.getElem?_reverse hi]
  rw [revTo_get l a i hi, hr]
  by_cases hc : i < a ∨ l.length ≤ i + a
  · rw [if_pos hc]
  · rw [if_neg hc]
    have : l.length - 1 - i = i := by omega
    rw [this]
theorem getD_set' (l : List Int) (k : Nat) (v : Int) (i : Nat) (hi : i < l.length) : (l.set k v).getD i 0 = if k = i then v else l.getD i 0 := by
  simp only [List.getD, List.getElem?_set]
  by_cases e : k = i
  · subst e; simp [hi]
  · simp [e]
theorem revTo_succ (l : List Int) (a : Nat) (h : 2 * a + 1 < l.length) :
    ((revTo l a).set a ((revTo l a).getD (l.length - 1 - a) 0)).set (l.length - 1 - a) ((revTo l a).getD a 0) = revTo l (a + 1) := by
  refine ext_getD (by simp [revTo_length]) fun i hi => ?_
  rw [List.length_set, List.length_set, revTo_length] at hi
  rw [getD_set' _ _ _ _ (by rw [List.length_set, revTo_length]; exact hi), getD_set' _ _ _ _ (by rw [revTo_length]; exact hi), revTo_get l (a + 1) i hi]
  by_cases e1 : l.length - 1 - a = i
  · rw [if_pos e1, revTo_get l a a (by omega), if_neg (by omega), if_pos (by omega)]
    congr 1; omega
  · rw [if_neg e1]
    by_cases e2 : a = i
    · rw [if_pos e2, revTo_get l a _ (by omega), if_neg (by omega), if_pos (by omega)]
      congr 1; omega
    · rw [if_neg e2, revTo_get l a i hi]
      by_cases hc : i < a ∨ l.length ≤ i + a
      · rw [if_pos hc, if_pos (by omega)]
      · rw [if_neg hc, if_neg (by omega)]
end Go.Proofs.Ytifpkhgcoopjnaa.Mk
