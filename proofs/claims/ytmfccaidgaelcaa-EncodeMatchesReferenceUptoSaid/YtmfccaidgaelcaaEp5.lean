/- Merkle trees on lists of words, plainly: tops, paths, what comes up. No program. -/
import Derived.Test.YtmfccaidgaelcaaEp3
set_option linter.unusedVariables false
set_option linter.unusedSimpArgs false
namespace Go.Proofs.Ytmfccaidgaelcaa.Mk
abbrev B (x : Int) : BitVec 64 := Dg.B x
def I (x : BitVec 64) : Int := (x.toNat : Int)
theorem B_I (x : BitVec 64) : B (I x) = x := by
  show BitVec.ofInt 64 (x.toNat : Int) = x
  rw [BitVec.ofInt_natCast]; simp
end Go.Proofs.Ytmfccaidgaelcaa.Mk
namespace Go.Proofs.Ytmfccaidgaelcaa.Dg
def join (a b : BitVec 64) : BitVec 64 := step (step 11820040416388919760#64 a) b
end Go.Proofs.Ytmfccaidgaelcaa.Dg
namespace Go.Proofs.Ytmfccaidgaelcaa.Mk
/-- The greatest power of 2 that is less than n. -/
def half (n : Nat) : Nat := 2 ^ Nat.log2 (n - 1)
theorem half_unique {n k e : Nat} (hk : k = 2 ^ e) (h1 : k < n) (h2 : n ≤ 2 * k) : k = half n := by
  unfold half
  have h : Nat.log2 (n - 1) = e := by
    rw [Nat.log2_eq_iff (by omega)]
    subst hk
    rw [Nat.pow_succ]
    omega
  rw [h, hk]
theorem half_pos (n : Nat) : 0 < half n := Nat.pow_pos (by omega)
theorem half_lt {n : Nat} (h : 2 ≤ n) : half n < n := by
  unfold half
  have := Nat.log2_self_le (n := n - 1) (by omega)
  omega
theorem half_ge {n : Nat} (h : 2 ≤ n) : n ≤ 2 * half n := by
  unfold half
  have := Nat.lt_log2_self (n := n - 1)
  rw [Nat.pow_succ] at this
  omega

/-- The top of a list; f: fuel. -/
def topF : Nat → List Int → BitVec 64
  | 0, _ => 0#64
  | f + 1, l =>
    if l.length = 0 then 0#64
    else if l.length = 1 then Dg.join 0#64 (B (l.getD 0 0))
    else Dg.join (topF f (l.take (half l.length))) (topF f (l.drop (half l.length)))
def top (l : List Int) : BitVec 64 := topF l.length l
theorem topF_fuel : ∀ (f : Nat) (l : List Int), l.length ≤ f → ∀ f', l.length ≤ f' → topF f l = topF f' l := by
  intro f
  induction f with
  | zero =>
    intro l hl f' _
    have h0 : l.length = 0 := by omega
    cases f' with
    | zero => rfl
    | succ f' => simp only [topF, h0, if_true]
  | succ f ih =>
    intro l hl f' hl'
    cases f' with
    | zero =>
      have h0 : l.length = 0 := by omega
      simp only [topF, h0, if_true]
    | succ f' =>
      simp only [topF]
      by_cases h0 : l.length = 0
      · rw [if_pos h0, if_pos h0]
      · rw [if_neg h0, if_neg h0]
        by_cases h1 : l.length = 1
        · rw [if_pos h1, if_pos h1]
        · rw [if_neg h1, if_neg h1]
          have hh := half_lt (n := l.length) (by omega)
          have hp := half_pos l.length
          rw [ih (l.take (half l.length)) (by rw [List.length_take]; omega) f' (by rw [List.length_take]; omega), ih (l.drop (half l.length)) (by rw [List.length_drop]; omega) f' (by rw [List.length_drop]; omega)]
theorem top_nil : top [] = 0#64 := rfl
theorem top_one (x : Int) : top [x] = Dg.join 0#64 (B x) := rfl
theorem top_many (l : List Int) (h : 2 ≤ l.length) : top l = Dg.join (top (l.take (half l.length))) (top (l.drop (half l.length))) := by
  unfold top
  obtain ⟨n, hn⟩ : ∃ n, l.length = n + 1 := ⟨l.length - 1, by omega⟩
  have hh := half_lt h
  have hp := half_pos l.length
  conv => lhs; rw [hn]
  simp only [topF]
  rw [if_neg (by omega), if_neg (by omega)]
  rw [topF_fuel n (l.take (half l.length)) (by rw [List.length_take]; omega) _ (Nat.le_refl _), topF_fuel n (l.drop (half l.length)) (by rw [List.length_drop]; omega) _ (Nat.le_refl _)]
def root (l : List Int) : BitVec 64 := Dg.join (B l.length) (top l)
/-- The error of a place. -/
def place (n i : Int) : Int := if 4096 < n then 2 else if i < 0 ∨ n ≤ i then 1 else 0

/-- The tops beside the way down to a place; f: fuel. -/
def downF : Nat → List Int → Nat → List Int
  | 0, _, _ => []
  | f + 1, l, i =>
    if l.length ≤ 1 then []
    else if i < half l.length then I (top (l.drop (half l.length))) :: downF f (l.take (half l.length)) i
    else I (top (l.take (half l.length))) :: downF f (l.drop (half l.length)) (i - half l.length)
def down (l : List Int) (i : Nat) : List Int := downF l.length l i
theorem downF_fuel : ∀ (f : Nat) (l : List Int) (i : Nat), l.length ≤ f → ∀ f', l.length ≤ f' → downF f l i = downF f' l i := by
  intro f
  induction f with
  | zero =>
    intro l i hl f' _
    cases f' with
    | zero => rfl
    | succ f' => simp only [downF]; rw [if_pos (by omega)]
  | succ f ih =>
    intro l i hl f' hl'
    cases f' with
    | zero => simp only [downF]; rw [if_pos (by omega)]
    | succ f' =>
      simp only [downF]
      by_cases h0 : l.length ≤ 1
      · rw [if_pos h0, if_pos h0]
      · rw [if_neg h0, if_neg h0]
        have hh := half_lt (n := l.length) (by omega)
        have hp := half_pos l.length
        rw [ih (l.take (half l.length)) i (by rw [List.length_take]; omega) f' (by rw [List.length_take]; omega), ih (l.drop (half l.length)) _ (by rw [List.length_drop]; omega) f' (by rw [List.length_drop]; omega)]
theorem down_one {l : List Int} (i : Nat) (h : l.length ≤ 1) : down l i = [] := by
  unfold down
  cases l with
  | nil => rfl
  | cons x l => simp only [List.length_cons, downF]; rw [if_pos (by simpa using h)]
theorem down_left {l : List Int} {i : Nat} (h : 2 ≤ l.length) (hi : i < half l.length) : down l i = I (top (l.drop (half l.length))) :: down (l.take (half l.length)) i := by
  unfold down
  obtain ⟨n, hn⟩ : ∃ n, l.length = n + 1 := ⟨l.length - 1, by omega⟩
  have hh := half_lt h
  have hp := half_pos l.length
  conv => lhs; rw [hn]
  simp only [downF]
  rw [if_neg (by omega), if_pos hi]
  rw [downF_fuel n (l.take (half l.length)) i (by rw [List.length_take]; omega) _ (Nat.le_refl _)]
theorem down_right {l : List Int} {i : Nat} (h : 2 ≤ l.length) (hi : half l.length ≤ i) : down l i = I (top (l.take (half l.length))) :: down (l.drop (half l.length)) (i - half l.length) := by
  unfold down
  obtain ⟨n, hn⟩ : ∃ n, l.length = n + 1 := ⟨l.length - 1, by omega⟩
  have hh := half_lt h
  have hp := half_pos l.length
  conv => lhs; rw [hn]
  simp only [downF]
  rw [if_neg (by omega), if_neg (by omega)]
  rw [downF_fuel n (l.drop (half l.length)) _ (by rw [List.length_drop]; omega) _ (Nat.le_refl _)]
/-- The path of a place. -/
def path (l : List Int) (i : Nat) : List Int := (down l i).reverse
/-- A list whose first a and last a elements have been turned round. -/
def revTo (l : List Int) (a : Nat) : List Int := (List.range l.length).map fun i => if i < a ∨ l.length ≤ i + a then l.getD (l.length - 1 - i) 0 else l.getD i 0
theorem revTo_length (l : List Int) (a : Nat) : (revTo l a).length = l.length := by simp [revTo]
theorem revTo_get (l : List Int) (a i : Nat) (h : i < l.length) : (revTo l a).getD i 0 = if i < a ∨ l.length ≤ i + a then l.getD (l.length - 1 - i) 0 else l.getD i 0 := by
  simp [revTo, List.getD, h]
theorem ext_getD {l r : List Int} (hl : l.length = r.length) (h : ∀ i, i < l.length → l.getD i 0 = r.getD i 0) : l = r := by
  apply List.ext_getElem hl
  intro i h1 h2
  have := h i h1
  simpa [List.getD, h1, h2] using this
theorem revTo_zero (l : List Int) : revTo l 0 = l := by
  refine ext_getD (revTo_length l 0) fun i hi => ?_
  rw [revTo_length] at hi
  rw [revTo_get l 0 i hi, if_neg (by omega)]
theorem revTo_end (l : List Int) (a : Nat) (h : l.length ≤ 2 * a + 1) : revTo l a = l.reverse := by
  refine ext_getD (by rw [revTo_length, List.length_reverse]) fun i hi => ?_
  rw [revTo_length] at hi
  have hr : l.reverse.getD i 0 = l.getD (l.length - 1 - i) 0 := by
    simp only [List.getD]
    rw [List.getElem?_reverse hi]
  rw [revTo_get l a i hi, hr]
  by_cases hc : i < a ∨ l.length ≤ i + a
  · rw [if_pos hc]
  · rw [if_neg hc]
    have : l.length - 1 - i = i := by omega
    rw [this]
theorem getD_set' (l : List Int) (k : Nat) (v : Int) (i : Nat) (hi : i < l.length) : (l.set k v).getD i 0 = if k = i then v else l.getD i 0 := by
  simp only [List.getD, List.getElem?_set]
  by_cases e : k = i
  · subst e; simp [hi]
  · simp [e]
theorem revTo_succ (l : List Int) (a : Nat) (h : 2 * a + 1 < l.length) :
    ((revTo l a).set a ((revTo l a).getD (l.length - 1 - a) 0)).set (l.length - 1 - a) ((revTo l a).getD a 0) = revTo l (a + 1) := by
  refine ext_getD (by simp [revTo_length]) fun i hi => ?_
  rw [List.length_set, List.length_set, revTo_length] at hi
  rw [getD_set' _ _ _ _ (by rw [List.length_set, revTo_length]; exact hi), getD_set' _ _ _ _ (by rw [revTo_length]; exact hi), revTo_get l (a + 1) i hi]
  by_cases e1 : l.length - 1 - a = i
  · rw [if_pos e1, revTo_get l a a (by omega), if_neg (by omega), if_pos (by omega)]
    congr 1; omega
  · rw [if_neg e1]
    by_cases e2 : a = i
    · rw [if_pos e2, revTo_get l a _ (by omega), if_neg (by omega), if_pos (by omega)]
      congr 1; omega
    · rw [if_neg e2, revTo_get l a i hi]
      by_cases hc : i < a ∨ l.length ≤ i + a
      · rw [if_pos hc, if_pos (by omega)]
      · rw [if_neg hc, if_neg (by omega)]
/-- From the top down: does the place lie in the first part? f: fuel. -/
def sidesF : Nat → Nat → Nat → List Bool
  | 0, _, _ => []
  | f + 1, n, i => if n ≤ 1 then [] else if i < half n then true :: sidesF f (half n) i else false :: sidesF f (n - half n) (i - half n)
def sides (n i : Nat) : List Bool := sidesF n n i
theorem sidesF_fuel : ∀ (f n i : Nat), n ≤ f → ∀ f', n ≤ f' → sidesF f n i = sidesF f' n i := by
  intro f
  induction f with
  | zero =>
    intro n i hl f' _
    cases f' with
    | zero => rfl
    | succ f' => simp only [sidesF]; rw [if_pos (by omega)]
  | succ f ih =>
    intro n i hl f' hl'
    cases f' with
    | zero => simp only [sidesF]; rw [if_pos (by omega)]
    | succ f' =>
      simp only [sidesF]
      by_cases h0 : n ≤ 1
      · rw [if_pos h0, if_pos h0]
      · rw [if_neg h0, if_neg h0]
        have hh := half_lt (n := n) (by omega)
        have hp := half_pos n
        rw [ih (half n) i (by omega) f' (by omega), ih (n - half n) _ (by omega) f' (by omega)]
theorem sides_one (n i : Nat) (h : n ≤ 1) : sides n i = [] := by
  unfold sides
  cases n with
  | zero => rfl
  | succ n => simp only [sidesF]; rw [if_pos h]
theorem sides_left {n i : Nat} (h : 2 ≤ n) (hi : i < half n) : sides n i = true :: sides (half n) i := by
  unfold sides
  obtain ⟨m, hn⟩ : ∃ m, n = m + 1 := ⟨n - 1, by omega⟩
  have hh := half_lt h
  conv => lhs; rw [hn]
  simp only [sidesF]
  rw [← hn, if_neg (by omega), if_pos hi, sidesF_fuel m (half n) i (by omega) _ (Nat.le_refl _)]
theorem sides_right {n i : Nat} (h : 2 ≤ n) (hi : half n ≤ i) : sides n i = false :: sides (n - half n) (i - half n) := by
  unfold sides
  obtain ⟨m, hn⟩ : ∃ m, n = m + 1 := ⟨n - 1, by omega⟩
  have hh := half_lt h
  have hp := half_pos n
  conv => lhs; rw [hn]
  simp only [sidesF]
  rw [← hn, if_neg (by omega), if_neg (by omega), sidesF_fuel m (n - half n) _ (by omega) _ (Nat.le_refl _)]
theorem sides_length : ∀ (f n i : Nat), n ≤ f → i < n → (sides n i).length < n := by
  intro f
  induction f with
  | zero => intro n i h hi; omega
  | succ f ih =>
    intro n i h hi
    by_cases h2 : 2 ≤ n
    · have hh := half_lt h2
      have hp := half_pos n
      by_cases hl : i < half n
      · rw [sides_left h2 hl, List.length_cons]
        have := ih (half n) i (by omega) hl
        omega
      · rw [sides_right h2 (by omega), List.length_cons]
        have := ih (n - half n) (i - half n) (by omega) (by omega)
        omega
    · rw [sides_one n i (by omega)]
      simp; omega
/-- From the leaf up. -/
def steps (n i : Nat) : List Bool := (sides n i).reverse
/-- The digest of a pair of words. -/
def joinI (p : Int × Int) : Int := I (Dg.join (B p.1) (B p.2))
/-- The pair of what came up and of what lies beside it. -/
def pr (s : Bool) (u p : Int) : Int × Int := if s = true then (u, p) else (p, u)
/-- What has come up behind k steps. -/
def upAt (ss : List Bool) (ps : List Int) (leaf : Int) : Nat → Int
  | 0 => joinI (0, leaf)
  | k + 1 => joinI (pr (ss.getD k false) (upAt ss ps leaf k) (ps.getD k 0))
/-- The pair of step k. -/
def pairAt (ss : List Bool) (ps : List Int) (leaf : Int) (k : Nat) : Int × Int := pr (ss.getD k false) (upAt ss ps leaf k) (ps.getD k 0)
theorem upAt_succ (ss : List Bool) (ps : List Int) (leaf : Int) (k : Nat) : upAt ss ps leaf (k + 1) = joinI (pairAt ss ps leaf k) := rfl
/-- The pairs of the leaf and of the first k steps. -/
def pairsTo (ss : List Bool) (ps : List Int) (leaf : Int) (k : Nat) : List (Int × Int) := (0, leaf) :: (List.range k).map (pairAt ss ps leaf)
theorem pairsTo_length (ss : List Bool) (ps : List Int) (leaf : Int) (k : Nat) : (pairsTo ss ps leaf k).length = k + 1 := by simp [pairsTo]
theorem pairsTo_succ (ss : List Bool) (ps : List Int) (leaf : Int) (k : Nat) : pairsTo ss ps leaf (k + 1) = pairsTo ss ps leaf k ++ [pairAt ss ps leaf k] := by
  simp [pairsTo, List.range_succ]
/-- All pairs: with the number of leaves at the end. -/
def pairs (n i : Nat) (leaf : Int) (ps : List Int) : List (Int × Int) := pairsTo (steps n i) ps leaf (steps n i).length ++ [((n : Int), upAt (steps n i) ps leaf (steps n i).length)]
theorem pairs_length (n i : Nat) (leaf : Int) (ps : List Int) : (pairs n i leaf ps).length = (steps n i).length + 2 := by simp [pairs, pairsTo_length]
theorem steps_length {n i : Nat} (h : i < n) : (steps n i).length < n := by unfold steps; rw [List.length_reverse]; exact sides_length n n i (Nat.le_refl _) h
/-- The error of an opening. -/
def checkAt (root : Int) (n i : Nat) (leaf : Int) (ps : List Int) : Int := if ps.length = (steps n i).length ∧ joinI ((n : Int), upAt (steps n i) ps leaf (steps n i).length) = root then 0 else 40
def check (root n i leaf : Int) (ps : List Int) : Int := if place n i = 0 then checkAt root n.toNat i.toNat leaf ps else place n i

theorem place_zero {n i : Int} (h : place n i = 0) : ∃ n' i' : Nat, n = n' ∧ i = i' ∧ i' < n' ∧ n' ≤ 4096 := by
  unfold place at h
  split at h
  · cases h
  · split at h
    · cases h
    · exact ⟨n.toNat, i.toNat, by omega, by omega, by omega, by omega⟩
theorem place_ok {n i : Nat} (hi : i < n) (hn : n ≤ 4096) : place n i = 0 := by unfold place; rw [if_neg (by omega), if_neg (by omega)]

/-- What comes up, read from the top down. -/
def climb (leaf : Int) : List Bool → List Int → Int
  | [], _ => joinI (0, leaf)
  | s :: ss, ds => joinI (pr s (climb leaf ss (ds.drop 1)) (ds.getD 0 0))
theorem getD_rev_append {α : Type} (l : List α) (a d : α) (k : Nat) (hk : k < l.length) : (l.reverse ++ [a]).getD k d = l.reverse.getD k d := by
  rw [List.getD_eq_getElem?_getD, List.getElem?_append_left (by rw [List.length_reverse]; exact hk), List.getD_eq_getElem?_getD]
theorem getD_rev_last {α : Type} (l : List α) (a d : α) : (l.reverse ++ [a]).getD l.length d = a := by
  rw [List.getD_eq_getElem?_getD, List.getElem?_append_right (by rw [List.length_reverse]; exact Nat.le_refl _), List.length_reverse, Nat.sub_self]; rfl
theorem upAt_congr (ss ss' : List Bool) (ps ps' : List Int) (leaf : Int) (n : Nat) (h1 : ∀ k, k < n → ss.getD k false = ss'.getD k false) (h2 : ∀ k, k < n → ps.getD k 0 = ps'.getD k 0) :
    upAt ss ps leaf n = upAt ss' ps' leaf n := by
  induction n with
  | zero => rfl
  | succ n ih =>
    show joinI (pr _ _ _) = joinI (pr _ _ _)
    rw [h1 n (by omega), h2 n (by omega), ih (fun k hk => h1 k (by omega)) (fun k hk => h2 k (by omega))]
theorem upAt_climb (leaf : Int) : ∀ (ss : List Bool) (ds : List Int), ss.length = ds.length → upAt ss.reverse ds.reverse leaf ss.length = climb leaf ss ds := by
  intro ss
  induction ss with
  | nil => intro ds _; rfl
  | cons s ss ih =>
    intro ds h
    match ds, h with
    | d :: ds, h =>
      have h' : ss.length = ds.length := by simpa using h
      rw [List.reverse_cons, List.reverse_cons]
      show joinI (pr _ (upAt _ _ _ _) _) = joinI (pr _ (climb _ _ _) _)
      rw [getD_rev_last, h', getD_rev_last, ← h', upAt_congr _ ss.reverse _ ds.reverse leaf ss.length (fun k hk => getD_rev_append _ _ _ _ hk) (fun k hk => getD_rev_append _ _ _ _ (by omega)), ih ds h']
      rfl

theorem down_length : ∀ (f : Nat) (l : List Int) (i : Nat), l.length ≤ f → i < l.length → (down l i).length = (sides l.length i).length := by
  intro f
  induction f with
  | zero => intro l i h hi; omega
  | succ f ih =>
    intro l i h hi
    by_cases h2 : 2 ≤ l.length
    · have hh := half_lt h2
      have hp := half_pos l.length
      by_cases hl : i < half l.length
      · rw [down_left h2 hl, sides_left h2 hl, List.length_cons, List.length_cons]
        have ht : (l.take (half l.length)).length = half l.length := by rw [List.length_take]; omega
        have := ih (l.take (half l.length)) i (by omega) (by omega)
        rw [ht] at this
        omega
      · rw [down_right h2 (by omega), sides_right h2 (by omega), List.length_cons, List.length_cons]
        have ht : (l.drop (half l.length)).length = l.length - half l.length := by rw [List.length_drop]
        have := ih (l.drop (half l.length)) (i - half l.length) (by omega) (by omega)
        rw [ht] at this
        omega
    · rw [down_one i (by omega), sides_one _ i (by omega)]
      rfl
theorem path_length {l : List Int} {i : Nat} (hi : i < l.length) : (path l i).length = (steps l.length i).length := by
  unfold path steps
  rw [List.length_reverse, List.length_reverse]
  exact down_length l.length l i (Nat.le_refl _) hi
theorem getD_take (l : List Int) (h i : Nat) (hi : i < h) : (l.take h).getD i 0 = l.getD i 0 := by simp [List.getD, List.getElem?_take, hi]
theorem getD_drop (l : List Int) (h i : Nat) (hi : h ≤ i) : (l.drop h).getD (i - h) 0 = l.getD i 0 := by
  rw [List.getD_eq_getElem?_getD, List.getElem?_drop, List.getD_eq_getElem?_getD, show h + (i - h) = i by omega]

theorem climb_top : ∀ (f : Nat) (l : List Int) (i : Nat), l.length ≤ f → i < l.length → climb (l.getD i 0) (sides l.length i) (down l i) = I (top l) := by
  intro f
  induction f with
  | zero => intro l i h hi; omega
  | succ f ih =>
    intro l i h hi
    by_cases h2 : 2 ≤ l.length
    · have hh := half_lt h2
      have hp := half_pos l.length
      rw [top_many l h2]
      by_cases hl : i < half l.length
      · rw [down_left h2 hl, sides_left h2 hl]
        have ht : (l.take (half l.length)).length = half l.length := by rw [List.length_take]; omega
        have := ih (l.take (half l.length)) i (by omega) (by omega)
        rw [ht, getD_take l _ i hl] at this
        show joinI (pr true (climb _ _ _) _) = _
        rw [List.drop_succ_cons, List.drop_zero, this]
        show I (Dg.join (B (I _)) (B (I _))) = _
        rw [B_I, B_I]
      · rw [down_right h2 (by omega), sides_right h2 (by omega)]
        have ht : (l.drop (half l.length)).length = l.length - half l.length := by rw [List.length_drop]
        have := ih (l.drop (half l.length)) (i - half l.length) (by omega) (by omega)
        rw [ht, getD_drop l _ i (by omega)] at this
        show joinI (pr false (climb _ _ _) _) = _
        rw [List.drop_succ_cons, List.drop_zero, this]
        show I (Dg.join (B (I _)) (B (I _))) = _
        rw [B_I, B_I]
    · rw [down_one i (by omega), sides_one _ i (by omega)]
      obtain ⟨x, rfl⟩ : ∃ x, l = [x] := List.length_eq_one_iff.1 (by omega)
      obtain rfl : i = 0 := by simpa using hi
      rw [top_one]
      rfl
theorem upAt_path {l : List Int} {i : Nat} (hi : i < l.length) : upAt (steps l.length i) (path l i) (l.getD i 0) (steps l.length i).length = I (top l) := by
  rw [← climb_top l.length l i (Nat.le_refl _) hi]
  have h := down_length l.length l i (Nat.le_refl _) hi
  unfold steps path
  rw [List.length_reverse]
  exact upAt_climb _ _ _ h.symm
theorem check_path {l : List Int} {i : Nat} (hi : i < l.length) (hn : l.length ≤ 4096) : check (I (root l)) l.length i (l.getD i 0) (path l i) = 0 := by
  have h2 : joinI ((l.length : Int), upAt (steps l.length i) (path l i) (l.getD i 0) (steps l.length i).length) = I (root l) := by
    rw [upAt_path hi]
    show I (Dg.join (B _) (B (I _))) = I (Dg.join _ _)
    rw [B_I]
  unfold check
  rw [if_pos (place_ok hi hn)]
  unfold checkAt
  rw [Int.toNat_natCast, Int.toNat_natCast, if_pos ⟨path_length hi, h2⟩]

theorem half_le {n k : Nat} (h2 : 2 ≤ n) (h : n ≤ 2 ^ (k + 1)) : half n ≤ 2 ^ k := by
  unfold half
  have : Nat.log2 (n - 1) < k + 1 := (Nat.log2_lt (by omega)).2 (by omega)
  exact Nat.pow_le_pow_right (by omega) (by omega)
theorem sides_le : ∀ (k n i : Nat), n ≤ 2 ^ k → i < n → (sides n i).length ≤ k := by
  intro k
  induction k with
  | zero => intro n i h hi; rw [sides_one n i (by simpa using h)]; exact Nat.le_refl _
  | succ k ih =>
    intro n i h hi
    by_cases h2 : 2 ≤ n
    · have hh := half_lt h2
      have hp := half_pos n
      have hle := half_le h2 h
      by_cases hl : i < half n
      · rw [sides_left h2 hl, List.length_cons]
        have := ih (half n) i hle hl
        omega
      · rw [sides_right h2 (by omega), List.length_cons]
        have hge := half_ge h2
        have := ih (n - half n) (i - half n) (by omega) (by omega)
        omega
    · rw [sides_one n i (by omega)]; exact Nat.zero_le _
theorem path_le {l : List Int} {i : Nat} (hi : i < l.length) (hn : l.length ≤ 4096) : (path l i).length ≤ 12 := by
  rw [path_length hi]
  unfold steps
  rw [List.length_reverse]
  exact sides_le 12 _ _ (by omega) hi

/-- The path does not depend on what lies at its place. -/
theorem down_set (v : Int) : ∀ (f : Nat) (l : List Int) (i : Nat), l.length ≤ f → i < l.length → down (l.set i v) i = down l i := by
  intro f
  induction f with
  | zero => intro l i h hi; omega
  | succ f ih =>
    intro l i h hi
    by_cases h2 : 2 ≤ l.length
    · have hh := half_lt h2
      have hp := half_pos l.length
      have h2' : 2 ≤ (l.set i v).length := by rw [List.length_set]; exact h2
      by_cases hl : i < half l.length
      · rw [down_left h2 hl, down_left h2' (by rw [List.length_set]; exact hl), List.length_set]
        have ht : (l.take (half l.length)).length = half l.length := by rw [List.length_take]; omega
        rw [List.drop_set_of_lt hl, List.take_set, ih (l.take (half l.length)) i (by omega) (by omega)]
      · rw [down_right h2 (by omega), down_right h2' (by rw [List.length_set]; omega), List.length_set]
        have ht : (l.drop (half l.length)).length = l.length - half l.length := by rw [List.length_drop]
        rw [List.take_set_of_le (by omega), List.drop_set, if_neg hl, ih (l.drop (half l.length)) (i - half l.length) (by omega) (by omega)]
    · rw [down_one i (by rw [List.length_set]; omega), down_one i (by omega)]
theorem path_set {l : List Int} {i : Nat} (v : Int) (hi : i < l.length) : path (l.set i v) i = path l i := by
  unfold path; rw [down_set v l.length l i (Nat.le_refl _) hi]
theorem check_set {l : List Int} {i : Nat} (v : Int) (hi : i < l.length) (hn : l.length ≤ 4096) : check (I (root (l.set i v))) l.length i v (path l i) = 0 := by
  have h := check_path (l := l.set i v) (i := i) (by rw [List.length_set]; exact hi) (by rw [List.length_set]; exact hn)
  rw [List.length_set, path_set v hi] at h
  have hv : (l.set i v).getD i 0 = v := by simp [List.getD, hi]
  rw [hv] at h
  exact h
/-- Another length of the path is refused. -/
theorem check_length {root n i leaf : Int} {ps : List Int} (hp : place n i = 0) (h : ps.length ≠ (steps n.toNat i.toNat).length) : check root n i leaf ps = 40 := by
  unfold check checkAt
  rw [if_pos hp, if_neg (fun e => h e.1)]
theorem check_bad {root n i leaf : Int} {ps : List Int} (hp : place n i ≠ 0) : check root n i leaf ps = place n i := by
  unfold check
  rw [if_neg hp]
end Go.Proofs.Ytmfccaidgaelcaa.Mk
