/- Plain laws of the Merkle trees: a path leads to the root; its length; changed lists. No conditions. -/
import Derived.Test.YtifpkhgcoopjnaaGrown
namespace Go.Proofs.Ytifpkhgcoopjnaa
open Go.RowKit
namespace Mk

/-- What comes up, read from the top down. -/
def climb (leaf : Int) : List Bool → List Int → Int
  | [], _ => joinI (0, leaf)
  | s :: ss, ds => joinI (pr s (climb leaf ss (ds.drop 1)) (ds.getD 0 0))
theorem getD_rev_append {α : Type} (l : List α) (a d : α) (k : Nat) (hk : k < l.length) : (l.reverse ++ [a]).getD k d = l.reverse.getD k d := by
  rw [List.getD_eq_getElem?_getD, List.getElem?_append_left (by rw [List.length_reverse]; exact hk), List.getD_eq_getElem?_getD]
theorem getD_rev_last {α : Type} (l : List α) (a d : α) : (l.reverse ++ [a]).getD l.length d = a := by
  rw [List.getD_eq_getElem?_getD, List.getElem?_append_right (by rw [List.length_reverse]; exact Nat.le_refl _), List.length_reverse, Nat.sub_self]; rfl
theorem upAt_congr (ss ss' : List Bool) (ps ps' : List Int) (leaf : Int) (n : Nat) (h1 : ∀ k, k < n → ss.getD k false = ss'.getD k false) (h2 : ∀ k, k < n → ps.getD k 0 = ps'.getD k 0) :
    upAt ss ps leaf n = upAt ss' ps' leaf n := by
  induction n with
  | zero => rfl
  | succ n ih =>
    show joinI (pr _ _ _) = joinI (pr _ _ _)
    rw [h1 n (by omega), h2 n (by omega), ih (fun k hk => h1 k (by omega)) (fun k hk => h2 k (by omega))]
theorem upAt_climb (leaf : Int) : ∀ (ss : List Bool) (ds : List Int), ss.length = ds.length → upAt ss.reverse ds.reverse leaf ss.length = climb leaf ss ds := by
  intro ss
  induction ss with
  | nil => intro ds _; rfl
  | cons s ss ih =>
    intro ds h
    match ds, h with
    | d :: ds, h =>
      have h' : ss.length = ds.length := by simpa using h
      rw [List.reverse_cons, List.reverse_cons]
      show joinI (pr _ (upAt _ _ _ _) _) = joinI (pr _ (climb _ _ _) _)
      rw [getD_rev_last, h', getD_rev_last, ← h', upAt_congr _ ss.reverse _ ds.reverse leaf ss.length (fun k hk => getD_rev_append _ _ _ _ hk) (fun k hk => getD_rev_append _ _ _ _ (by omega)), ih ds h']
      rfl

theorem down_length : ∀ (f : Nat) (l : List Int) (i : Nat), l.length ≤ f → i < l.length → (down l i).length = (sides l.length i).length := by
  intro f
  induction f with
  | zero => intro l i h hi; omega
  | succ f ih =>
    intro l i h hi
    by_cases h2 : 2 ≤ l.length
    · have hh := half_lt h2
      have hp := half_pos l.length
      by_cases hl : i < half l.length
      · rw [down_left h2 hl, sides_left h2 hl, List.length_cons, List.length_cons]
        have ht : (l.take (half l.length)).length = half l.length := by rw [List.length_take]; omega
        have := ih (l.take (half l.length)) i (by omega) (by omega)
        rw [ht] at this
        omega
      · rw [down_right h2 (by omega), sides_right h2 (by omega), List.length_cons, List.length_cons]
        have ht : (l.drop (half l.length)).length = l.length - half l.length := by rw [List.length_drop]
        have := ih (l.drop (half l.length)) (i - half l.length) (by omega) (by omega)
        rw [ht] at this
        omega
    · rw [down_one i (by omega), sides_one _ i (by omega)]
      rfl
theorem path_length {l : List Int} {i : Nat} (hi : i < l.length) : (path l i).length = (steps l.length i).length := by
  unfold path steps
  rw [List.length_reverse, List.length_reverse]
  exact down_length l.length l i (Nat.le_refl _) hi
theorem getD_take (l : List Int) (h i : Nat) (hi : i < h) : (l.take h).getD i 0 = l.getD i 0 := by simp [List.getD, List.getElem?_take, hi]
theorem getD_drop (l : List Int) (h i : Nat) (hi : h ≤ i) : (l.drop h).getD (i - h) 0 = l.getD i 0 := by
  rw [List.getD_eq_getElem?_getD, List.getElem?_drop, List.getD_eq_getElem?_getD, show h + (i - h) = i by omega]

theorem climb_top : ∀ (f : Nat) (l : List Int) (i : Nat), l.length ≤ f → i < l.length → climb (l.getD i 0) (sides l.length i) (down l i) = I (top l) := by
  intro f
  induction f with
  | zero => intro l i h hi; omega
  | succ f ih =>
    intro l i h hi
    by_cases h2 : 2 ≤ l.length
    · have hh := half_lt h2
      have hp := half_pos l.length
      rw [top_many l h2]
      by_cases hl : i < half l.length
      · rw [down_left h2 hl, sides_left h2 hl]
        have ht : (l.take (half l.length)).length = half l.length := by rw [List.length_take]; omega
        have := ih (l.take (half l.length)) i (by omega) (by omega)
        rw [ht, getD_take l _ i hl] at this
        show joinI (pr true (climb _ _ _) _) = _
        rw [List.drop_succ_cons, List.drop_zero, this]
        show I (Dg.join (B (I _)) (B (I _))) = _
        rw [B_I, B_I]
      · rw [down_right h2 (by omega), sides_right h2 (by omega)]
        have ht : (l.drop (half l.length)).length = l.length - half l.length := by rw [List.length_drop]
        have := ih (l.drop (half l.length)) (i - half l.length) (by omega) (by omega)
        rw [ht, getD_drop l _ i (by omega)] at this
        show joinI (pr false (climb _ _ _) _) = _
        rw [List.drop_succ_cons, List.drop_zero, this]
        show I (Dg.join (B (I _)) (B (I _))) = _
        rw [B_I, B_I]
    · rw [down_one i (by omega), sides_one _ i (by omega)]
      obtain ⟨x, rfl⟩ : ∃ x, l = [x] := List.length_eq_one_iff.1 (by omega)
      obtain rfl : i = 0 := by simpa using hi
      rw [top_one]
      rfl
theorem upAt_path {l : List Int} {i : Nat} (hi : i < l.length) : upAt (steps l.length i) (path l i) (l.getD i 0) (steps l.length i).length = I (top l) := by
  rw [← climb_top l.length l i (Nat.le_refl _) hi]
  have h := down_length l.length l i (Nat.le_refl _) hi
  unfold steps path
  rw [List.length_reverse]
  exact upAt_climb _ _ _ h.symm
theorem check_path {l : List Int} {i : Nat} (hi : i < l.length) (hn : l.length ≤ 4096) : check (I (root l)) l.length i (l.getD i 0) (path l i) = 0 := by
  have h2 : joinI ((l.length : Int), upAt (steps l.length i) (path l i) (l.getD i 0) (steps l.length i).length) = I (root l) := by
    rw [upAt_path hi]
    show I (Dg.join (B _) (B (I _))) = I (Dg.join _ _)
    rw [B_I]
  unfold check
  rw [if_pos (place_ok hi hn)]
  unfold checkAt
  rw [Int.toNat_natCast, Int.toNat_natCast, if_pos ⟨path_length hi, h2⟩]

theorem half_le {n k : Nat} (h2 : 2 ≤ n) (h : n ≤ 2 ^ (k + 1)) : half n ≤ 2 ^ k := by
  unfold half
  have : Nat.log2 (n - 1) < k + 1 := (Nat.log2_lt (by omega)).2 (by omega)
  exact Nat.pow_le_pow_right (by omega) (by omega)
theorem sides_le : ∀ (k n i : Nat), n ≤ 2 ^ k → i < n → (sides n i).length ≤ k := by
  intro k
  induction k with
  | zero => intro n i h hi; rw [sides_one n i (by simpa using h)]; exact Nat.le_refl _
  | succ k ih =>
    intro n i h hi
    by_cases h2 : 2 ≤ n
    · have hh := half_lt h2
      have hp := half_pos n
      have hle := half_le h2 h
      by_cases hl : i < half n
      · rw [sides_left h2 hl, List.length_cons]
        have := ih (half n) i hle hl
        omega
      · rw [sides_right h2 (by omega), List.length_cons]
        have hge := half_ge h2
        have := ih (n - half n) (i - half n) (by omega) (by omega)
        omega
    · rw [sides_one n i (by omega)]; exact Nat.zero_le _
theorem path_le {l : List Int} {i : Nat} (hi : i < l.length) (hn : l.length ≤ 4096) : (path l i).length ≤ 12 := by
  rw [path_length hi]
  unfold steps
  rw [List.length_reverse]
  exact sides_le 12 _ _ (by omega) hi

/-- The path does not depend on what lies at its place. -/
theorem down_set (v : Int) : ∀ (f : Nat) (l : List Int) (i : Nat), l.length ≤ f → i < l.length → down (l.set i v) i = down l i := by
  intro f
  induction f with
  | zero => intro l i h hi; omega
  | succ f ih =>
    intro l i h hi
    by_cases h2 : 2 ≤ l.length
    · have hh := half_lt h2
      have hp := half_pos l.length
      have h2' : 2 ≤ (l.set i v).length := by rw [List.length_set]; exact h2
      by_cases hl : i < half l.length
      · rw [down_left h2 hl, down_left h2' (by rw [List.length_set]; exact hl), List.length_set]
        have ht : (l.take (half l.length)).length = half l.length := by rw [List.length_take]; omega
        rw [List.drop_set_of_lt hl, List.take_set, ih (l.take (half l.length)) i (by omega) (by omega)]
      · rw [down_right h2 (by omega), down_right h2' (by rw [List.length_set]; omega), List.length_set]
        have ht : (l.drop (half l.length)).length = l.length - half l.length := by rw [List.length_drop]
        rw [List.take_set_of_le (by omega), List.drop_set, if_neg hl, ih (l.drop (half l.length)) (i - half l.length) (by omega) (by omega)]
    · rw [down_one i (by rw [List.length_set]; omega), down_one i (by omega)]
theorem path_set {l : List Int} {i : Nat} (v : Int) (hi : i < l.length) : path (l.set i v) i = path l i := by
  unfold path; rw [down_set v l.length l i (Nat.le_refl _) hi]
theorem check_set {l : List Int} {i : Nat} (v : Int) (hi : i < l.length) (hn : l.length ≤ 4096) : check (I (root (l.set i v))) l.length i v (path l i) = 0 := by
  have h := check_path (l := l.set i v) (i := i) (by rw [List.length_set]; exact hi) (by rw [List.length_set]; exact hn)
  rw [List.length_set, path_set v hi] at h
  have hv : (l.set i v).getD i 0 = v := by simp [List.getD, hi]
  rw [hv] at h
  exact h
/-- Another length of the path is refused. -/
theorem check_length {root n i leaf : Int} {ps : List Int} (hp : place n i = 0) (h : ps.length ≠ (steps n.toNat i.toNat).length) : check root n i leaf ps = 40 := by
  unfold check checkAt
  rw [if_pos hp, if_neg (fun e => h e.1)]
theorem check_bad {root n i leaf : Int} {ps : List Int} (hp : place n i ≠ 0) : check root n i leaf ps = place n i := by
  unfold check
  rw [if_neg hp]
end Mk
end Go.Proofs.Ytifpkhgcoopjnaa
