/- Summaries: what the program computes of sets of values. No program. -/
import Derived.Test.YtifeioddiddnoaaGreatDoorEpB
import Derived.KernelRfl
set_option linter.unusedVariables false
set_option linter.unusedSimpArgs false
namespace Go.Proofs.YtifeioddiddnoaaGreatDoor
structure Ab where
  lo : Int
  hi : Int
  m : Int
  r : Int
  mask : Int
  deriving DecidableEq, Repr
structure Pr where
  a : Int
  b : Int
  site : Int
  deriving DecidableEq, Repr
structure Sy where
  id : Int
  res : Ab
  throws : Int
  locks : Int
  loads : Int
  pairs : List Pr
  cost : Int
  deriving DecidableEq, Repr
def smod (a m : Int) : Int := (a.tmod m + m).tmod m
def Ab.step (a : Ab) : Int := if a.lo = a.hi then 0 else a.m
def abBy (lo hi m mask : Int) : Ab :=
  let h := if 0 < m then hi - (hi - lo).tmod m else hi
  if lo = h then ⟨lo, lo, 1, 0, mask⟩ else ⟨lo, h, m, smod lo m, mask⟩
def abOf (v mask : Int) : Ab := ⟨v, v, 1, 0, mask⟩
def iabs (a : Int) : Int := max a (-a)
/-- The greatest common divisor. -/
def igcd (a b : Int) : Int := (Int.gcd a b : Int)
def ior (a b : Int) : Int := ((a.toNat ||| b.toNat : Nat) : Int)
def iand (a b : Int) : Int := ((a.toNat &&& b.toNat : Nat) : Int)
def Ab.join (a b : Ab) : Ab := abBy (min a.lo b.lo) (max a.hi b.hi) (igcd (igcd a.step b.step) (iabs (a.lo - b.lo))) (ior a.mask b.mask)
/-- A set of values that is right, as far as joins need it. -/
structure Ab.ok (a : Ab) : Prop where
  lo : -2147483648 ≤ a.lo
  le : a.lo ≤ a.hi
  hi : a.hi ≤ 2147483647
  one : a.lo = a.hi → a.m = 1 ∧ a.r = 0
  m : a.lo < a.hi → 1 ≤ a.m ∧ a.m ≤ a.hi - a.lo ∧ (a.hi - a.lo) % a.m = 0 ∧ a.r = a.lo % a.m
  mask : 0 ≤ a.mask ∧ a.mask ≤ 4294967295
theorem smod_eq (a m : Int) (hm : 0 < m) : smod a m = a % m := by
  unfold smod
  have h1 : (a.tmod m + m) % m = a % m := by
    rw [Int.add_emod_right]
    by_cases h : 0 ≤ a
    · rw [Int.tmod_eq_emod_of_nonneg h, Int.emod_emod_of_dvd _ (Int.dvd_refl m)]
    · rw [Int.tmod_def, Int.sub_emod, Int.mul_emod_right, Int.sub_zero, Int.emod_emod_of_dvd _ (Int.dvd_refl m)]
  have h2 : 0 ≤ a.tmod m + m := by
    have := Int.tmod_lt_of_pos a hm
    have h3 : -m < a.tmod m := by
      have := Int.lt_tmod_of_pos a hm
      omega
    omega
  rw [Int.tmod_eq_emod_of_nonneg h2, h1]
/-- The pairs of different locks, in order. -/
def prAll : List Pr := [⟨0, 1, 0⟩, ⟨0, 2, 0⟩, ⟨1, 0, 0⟩, ⟨1, 2, 0⟩, ⟨2, 0, 0⟩, ⟨2, 1, 0⟩]
/-- The pairs that a number of 6 bits says. -/
def prOf (k : Nat) : List Pr := (List.range 6).filterMap fun i => if k.testBit i then prAll[i]? else none
/-- The 6 bits of a number that count for pairs. -/
def prBits (n : Nat) : Nat := (if n.testBit 1 then 1 else 0) + (if n.testBit 2 then 2 else 0) + (if n.testBit 3 then 4 else 0) + (if n.testBit 5 then 8 else 0) + (if n.testBit 6 then 16 else 0) + (if n.testBit 7 then 32 else 0)
/-- The summary that eight numbers say. -/
def syOf (id : Int) (n0 n1 n2 n3 n4 n5 n6 n7 : Nat) : Sy :=
  let lo : Int := ((n0 % 40 : Nat) : Int) - 20
  ⟨id, (abOf lo ((n1 % 4 : Nat) : Int)).join (abOf (lo + ((n2 % 30 : Nat) : Int)) 0), ((n3 % 8 * 2 : Nat) : Int), ((n4 % 8 : Nat) : Int), ((n5 % 8 : Nat) : Int), prOf (prBits n7), (n6 : Int)⟩
end Go.Proofs.YtifeioddiddnoaaGreatDoor
namespace Go.Proofs.YtifeioddiddnoaaGreatDoor
/-- A set of values: the ends, and what divides all differences (0 if there is one value). -/
structure Tr where
  lo : Int
  hi : Int
  g : Int
  mask : Int
structure Tr.ok (t : Tr) : Prop where
  le : t.lo ≤ t.hi
  g : 0 ≤ t.g
  z : t.g = 0 ↔ t.lo = t.hi
  d : t.g ∣ t.hi - t.lo
def nf (t : Tr) : Ab := if t.lo = t.hi then ⟨t.lo, t.lo, 1, 0, t.mask⟩ else ⟨t.lo, t.hi, t.g, t.lo % t.g, t.mask⟩
def Tr.join (s t : Tr) : Tr := ⟨min s.lo t.lo, max s.hi t.hi, igcd (igcd s.g t.g) (iabs (s.lo - t.lo)), ior s.mask t.mask⟩
theorem igcd_dvd {k a b : Int} : k ∣ igcd a b ↔ k ∣ a ∧ k ∣ b := by
  unfold igcd
  constructor
  · intro h
    exact ⟨Int.dvd_trans h (Int.gcd_dvd_left ..), Int.dvd_trans h (Int.gcd_dvd_right ..)⟩
  · rintro ⟨h1, h2⟩
    exact Int.dvd_coe_gcd h1 h2
theorem iabs_dvd {k a : Int} : k ∣ iabs a ↔ k ∣ a := by
  unfold iabs
  rcases Int.le_total a (-a) with h | h
  · rw [Int.max_eq_right h]; exact Int.dvd_neg
  · rw [Int.max_eq_left h]
theorem igcd_nonneg (a b : Int) : 0 ≤ igcd a b := Int.natCast_nonneg _
theorem join_dvd {s t : Tr} {k : Int} : k ∣ (s.join t).g ↔ k ∣ s.g ∧ k ∣ t.g ∧ k ∣ s.lo - t.lo := by
  unfold Tr.join
  rw [igcd_dvd, igcd_dvd, iabs_dvd, and_assoc]
theorem eq_of_dvd {a b : Int} (ha : 0 ≤ a) (hb : 0 ≤ b) (h : ∀ k, k ∣ a ↔ k ∣ b) : a = b := by
  have h1 := (h a).1 (Int.dvd_refl a)
  have h2 := (h b).2 (Int.dvd_refl b)
  exact Int.dvd_antisymm ha hb h1 h2
theorem sub_dvd {k x y z : Int} (h1 : k ∣ x - y) (h2 : k ∣ y - z) : k ∣ x - z := by
  have := Int.dvd_add h1 h2
  rwa [show x - y + (y - z) = x - z by omega] at this
theorem sub_dvd' {k x y : Int} (h1 : k ∣ x - y) : k ∣ y - x := by
  have := Int.dvd_neg.2 h1
  rwa [show -(x - y) = y - x by omega] at this
theorem join_all {s t : Tr} (hs : s.ok) (ht : t.ok) {k : Int} (h : k ∣ (s.join t).g) : k ∣ max s.hi t.hi - min s.lo t.lo := by
  obtain ⟨h1, h2, h3⟩ := join_dvd.1 h
  have a := Int.dvd_trans h1 hs.d
  have b := Int.dvd_trans h2 ht.d
  rcases Int.le_total s.hi t.hi with x | x <;> rcases Int.le_total s.lo t.lo with y | y
  · rw [Int.max_eq_right x, Int.min_eq_left y]; exact sub_dvd b (sub_dvd' h3)
  · rw [Int.max_eq_right x, Int.min_eq_right y]; exact b
  · rw [Int.max_eq_left x, Int.min_eq_left y]; exact a
  · rw [Int.max_eq_left x, Int.min_eq_right y]; exact sub_dvd a h3
theorem join_ok {s t : Tr} (hs : s.ok) (ht : t.ok) : (s.join t).ok where
  le := by show min s.lo t.lo ≤ max s.hi t.hi; have := hs.le; omega
  g := igcd_nonneg _ _
  z := by
    have d := join_all hs ht (Int.dvd_refl (s.join t).g)
    constructor
    · intro h
      rw [h] at d
      have := Int.zero_dvd.1 d
      show min s.lo t.lo = max s.hi t.hi
      omega
    · intro h
      have h : min s.lo t.lo = max s.hi t.hi := h
      have h1 := hs.le
      have h2 := ht.le
      have e1 : s.lo = s.hi := by omega
      have e2 : t.lo = t.hi := by omega
      have e3 : s.lo - t.lo = 0 := by omega
      have g1 := hs.z.2 e1
      have g2 := ht.z.2 e2
      refine Int.zero_dvd.1 (join_dvd.2 ⟨?_, ?_, ?_⟩)
      · rw [g1]; exact Int.dvd_refl 0
      · rw [g2]; exact Int.dvd_refl 0
      · rw [e3]; exact Int.dvd_refl 0
  d := join_all hs ht (Int.dvd_refl _)
theorem nf_step {t : Tr} (h : t.ok) : (nf t).step = t.g := by
  unfold nf
  split
  · rename_i e; simp only [Ab.step, if_true]; exact (h.z.2 e).symm
  · rename_i e; simp only [Ab.step, if_neg e]
theorem nf_lo (t : Tr) : (nf t).lo = t.lo := by unfold nf; split <;> rfl
theorem nf_hi {t : Tr} : (nf t).hi = t.hi := by
  unfold nf; split
  · rename_i e; exact e
  · rfl
theorem nf_mask (t : Tr) : (nf t).mask = t.mask := by unfold nf; split <;> rfl
theorem join_nf {s t : Tr} (hs : s.ok) (ht : t.ok) : (nf s).join (nf t) = nf (s.join t) := by
  have ok := join_ok hs ht
  unfold Ab.join
  rw [nf_step hs, nf_step ht, nf_lo, nf_lo, nf_hi, nf_hi, nf_mask, nf_mask]
  show abBy (s.join t).lo (s.join t).hi (s.join t).g (s.join t).mask = _
  obtain ⟨u, hu⟩ : ∃ u, u = s.join t := ⟨_, rfl⟩
  rw [← hu] at ok ⊢
  unfold abBy nf
  dsimp only
  have hh : (if 0 < u.g then u.hi - (u.hi - u.lo).tmod u.g else u.hi) = u.hi := by
    split
    · rw [Int.tmod_eq_zero_of_dvd ok.d]; omega
    · rfl
  rw [hh]
  split
  · rfl
  · rename_i e
    have : 0 < u.g := by
      have := ok.g
      have : u.g ≠ 0 := fun h => e (ok.z.1 h)
      omega
    rw [smod_eq _ _ this]
theorem tr_ext {s t : Tr} (h1 : s.lo = t.lo) (h2 : s.hi = t.hi) (h3 : s.g = t.g) (h4 : s.mask = t.mask) : s = t := by
  cases s; cases t; simp_all
theorem ior_comm (a b : Int) : ior a b = ior b a := by unfold ior; rw [Nat.or_comm]
theorem ior_assoc (a b c : Int) : ior (ior a b) c = ior a (ior b c) := by
  unfold ior; simp only [Int.toNat_natCast]; rw [Nat.or_assoc]
theorem ior_self {a : Int} (h : 0 ≤ a) : ior a a = a := by unfold ior; rw [Nat.or_self]; omega
theorem join_comm (s t : Tr) : s.join t = t.join s := by
  refine tr_ext ?_ ?_ ?_ (ior_comm _ _)
  · show min _ _ = min _ _; omega
  · show max _ _ = max _ _; omega
  · refine eq_of_dvd (igcd_nonneg _ _) (igcd_nonneg _ _) fun k => ?_
    rw [join_dvd, join_dvd]
    exact ⟨fun ⟨a, b, c⟩ => ⟨b, a, sub_dvd' c⟩, fun ⟨a, b, c⟩ => ⟨b, a, sub_dvd' c⟩⟩
theorem min_dvd {k x y z : Int} (h : k ∣ x - y) : k ∣ min x y - z ↔ k ∣ x - z := by
  rcases Int.le_total x y with a | a
  · rw [Int.min_eq_left a]
  · rw [Int.min_eq_right a]
    exact ⟨fun b => sub_dvd h b, fun b => sub_dvd (sub_dvd' h) b⟩
theorem join_assoc (s t u : Tr) : (s.join t).join u = s.join (t.join u) := by
  refine tr_ext ?_ ?_ ?_ (ior_assoc _ _ _)
  · show min (min _ _) _ = min _ (min _ _); omega
  · show max (max _ _) _ = max _ (max _ _); omega
  · refine eq_of_dvd (igcd_nonneg _ _) (igcd_nonneg _ _) fun k => ?_
    rw [join_dvd, join_dvd, join_dvd, join_dvd]
    constructor
    · rintro ⟨⟨a, b, c⟩, d, e⟩
      have e : k ∣ min s.lo t.lo - u.lo := e
      have e := (min_dvd c).1 e
      have f : k ∣ t.lo - u.lo := sub_dvd (sub_dvd' c) e
      refine ⟨a, ⟨b, d, f⟩, ?_⟩
      show k ∣ s.lo - min t.lo u.lo
      exact sub_dvd' ((min_dvd f).2 (sub_dvd' c))
    · rintro ⟨a, ⟨b, c, d⟩, e⟩
      have e : k ∣ s.lo - min t.lo u.lo := e
      have e := (min_dvd d).1 (sub_dvd' e)
      refine ⟨⟨a, b, sub_dvd' e⟩, c, ?_⟩
      show k ∣ min s.lo t.lo - u.lo
      exact (min_dvd (sub_dvd' e)).2 (sub_dvd (sub_dvd' e) d)
theorem join_self {s : Tr} (h : 0 ≤ s.g) (hm : 0 ≤ s.mask) : s.join s = s := by
  refine tr_ext ?_ ?_ ?_ (ior_self hm)
  · show min _ _ = _; omega
  · show max _ _ = _; omega
  · refine eq_of_dvd (igcd_nonneg _ _) h fun k => ?_
    rw [join_dvd]
    exact ⟨fun ⟨a, _, _⟩ => a, fun a => ⟨a, a, by rw [Int.sub_self]; exact Int.dvd_zero k⟩⟩
end Go.Proofs.YtifeioddiddnoaaGreatDoor
namespace Go.Proofs.YtifeioddiddnoaaGreatDoor
abbrev Wd8 := List UInt8
def joinSp : List Wd8 → Wd8
  | [] => []
  | [w] => w
  | w :: v :: ws => w ++ 32 :: joinSp (v :: ws)
def splitSp : Wd8 → List Wd8
  | [] => [[]]
  | c :: l => if c = 32 then [] :: splitSp l else match splitSp l with
    | w :: ws => (c :: w) :: ws
    | [] => [[c]]
theorem splitSp_ne (l : Wd8) : splitSp l ≠ [] := by
  cases l with
  | nil => simp [splitSp]
  | cons c l =>
    unfold splitSp
    split
    · simp
    · split <;> simp
theorem split_word : ∀ (w : Wd8) (l : Wd8), (∀ c, c ∈ w → c ≠ 32) → splitSp (w ++ 32 :: l) = w :: splitSp l
  | [], l, _ => by simp [splitSp]
  | c :: w, l, h => by
    have hc : c ≠ 32 := h c (by simp)
    rw [List.cons_append, splitSp.eq_2, if_neg hc, split_word w l (fun d hd => h d (by simp [hd]))]
theorem split_last : ∀ (w : Wd8), (∀ c, c ∈ w → c ≠ 32) → splitSp w = [w]
  | [], _ => rfl
  | c :: w, h => by
    have hc : c ≠ 32 := h c (by simp)
    rw [splitSp.eq_2, if_neg hc, split_last w (fun d hd => h d (by simp [hd]))]
theorem split_join : ∀ (ws : List Wd8), ws ≠ [] → (∀ w, w ∈ ws → ∀ c, c ∈ w → c ≠ 32) → splitSp (joinSp ws) = ws
  | [], h, _ => absurd rfl h
  | [w], _, h => by rw [joinSp, split_last w (h w (by simp))]
  | w :: v :: ws, _, h => by
    rw [joinSp, split_word w _ (h w (by simp)), split_join (v :: ws) (by simp) (fun x hx => h x (by simp [hx]))]
theorem join_split : ∀ (l : Wd8), joinSp (splitSp l) = l
  | [] => rfl
  | c :: l => by
    have ih := join_split l
    have hn := splitSp_ne l
    rw [splitSp.eq_2]
    split
    · rename_i h
      cases hs : splitSp l with
      | nil => exact absurd hs hn
      | cons v ws => rw [hs] at ih; rw [joinSp, ih, h]; rfl
    · cases hs : splitSp l with
      | nil => exact absurd hs hn
      | cons v ws =>
        rw [hs] at ih
        cases ws with
        | nil => simp only [joinSp] at ih ⊢; rw [ih]
        | cons u us => simp only [joinSp] at ih ⊢; rw [List.cons_append, ih]
end Go.Proofs.YtifeioddiddnoaaGreatDoor
namespace Go.Proofs.YtifeioddiddnoaaGreatDoor
def pcmp (x y : Pr) : Int := if x.a = y.a then x.b - y.b else x.a - y.a
/-- An element goes to the left as long as it is less; the list is told from its end. -/
def insR (x : Pr) : List Pr → List Pr
  | [] => [x]
  | y :: l => if pcmp x y < 0 then y :: insR x l else x :: y :: l
def isort (l : List Pr) : List Pr := (l.foldl (fun acc x => insR x acc) []).reverse
def cpG (x : Pr) : List Pr → List Pr
  | [] => [x]
  | y :: l => if pcmp y x = 0 then cpG x l else x :: cpG y l
def compactP : List Pr → List Pr
  | [] => []
  | x :: l => cpG x l
def mrg (a b : List Pr) : List Pr := compactP (isort (a ++ b))
def mrgAll : Bool := (List.range 64).all fun j => (List.range 64).all fun k => decide (mrg (prOf j) (prOf k) = prOf (j ||| k))
set_option maxRecDepth 100000 in
theorem mrgAll_true : mrgAll = true := by kernel_rfl
theorem mrg_or {j k : Nat} (hj : j < 64) (hk : k < 64) : mrg (prOf j) (prOf k) = prOf (j ||| k) := by
  have h := mrgAll_true
  unfold mrgAll at h
  have h1 := List.all_eq_true.1 h j (List.mem_range.2 hj)
  have h2 := List.all_eq_true.1 h1 k (List.mem_range.2 hk)
  exact of_decide_eq_true h2
end Go.Proofs.YtifeioddiddnoaaGreatDoor
namespace Go.Proofs.YtifeioddiddnoaaGreatDoor
def plessB (x y : Pr) : Bool := decide (x.a < y.a) || (decide (x.a = y.a) && decide (x.b < y.b))
def withP (l : List Pr) (a b : Int) : List Pr := l.takeWhile (fun y => plessB y ⟨a, b, 0⟩) ++ [⟨a, b, 0⟩] ++ l.filter (fun y => plessB ⟨a, b, 0⟩ y)
theorem withP_len (l : List Pr) (a b : Int) : (withP l a b).length ≤ 2 * l.length + 1 := by
  unfold withP
  have h1 := (List.takeWhile_prefix (p := fun y => plessB y ⟨a, b, 0⟩) (l := l)).length_le
  have h2 := List.length_filter_le (fun y => plessB ⟨a, b, 0⟩ y) l
  simp only [List.length_append, List.length_cons, List.length_nil]
  omega
/-- The pairs that 16 bits say, as they are put in one after the other. -/
def prSt (n : Nat) (l : List Pr) (a b : Nat) : List Pr := if a ≠ b ∧ n.testBit ((3 * a + b) % 16) = true then withP l a b else l
def prFold (n : Nat) : List Pr := [(0, 0), (0, 1), (0, 2), (1, 0), (1, 1), (1, 2), (2, 0), (2, 1), (2, 2)].foldl (fun l p => prSt n l p.1 p.2) []
theorem prSt_of (n : Nat) (l : List Pr) (a b : Nat) : prSt n l a b = if a ≠ b ∧ n.testBit ((3 * a + b) % 16) = true then withP l a b else l := rfl
end Go.Proofs.YtifeioddiddnoaaGreatDoor
namespace Go.Proofs.YtifeioddiddnoaaGreatDoor
def prN (bs : Nat → Bool) : List Pr := [(0, 0), (0, 1), (0, 2), (1, 0), (1, 1), (1, 2), (2, 0), (2, 1), (2, 2)].foldl (fun l p => if p.1 ≠ p.2 ∧ bs ((3 * p.1 + p.2) % 16) = true then withP l p.1 p.2 else l) []
def prB (b1 b2 b3 b5 b6 b7 : Bool) : List Pr :=
  let l0 := []
  let l1 := if b1 then withP l0 0 1 else l0
  let l2 := if b2 then withP l1 0 2 else l1
  let l3 := if b3 then withP l2 1 0 else l2
  let l5 := if b5 then withP l3 1 2 else l3
  let l6 := if b6 then withP l5 2 0 else l5
  if b7 then withP l6 2 1 else l6
theorem prFold_B (n : Nat) : prFold n = prB (n.testBit 1) (n.testBit 2) (n.testBit 3) (n.testBit 5) (n.testBit 6) (n.testBit 7) := by
  simp [prFold, prSt, prB]
def prK (b1 b2 b3 b5 b6 b7 : Bool) : Nat := (if b1 then 1 else 0) + (if b2 then 2 else 0) + (if b3 then 4 else 0) + (if b5 then 8 else 0) + (if b6 then 16 else 0) + (if b7 then 32 else 0)
def prTest : Bool := [false, true].all fun b1 => [false, true].all fun b2 => [false, true].all fun b3 => [false, true].all fun b5 => [false, true].all fun b6 => [false, true].all fun b7 => decide (prB b1 b2 b3 b5 b6 b7 = prOf (prK b1 b2 b3 b5 b6 b7))
set_option maxRecDepth 100000 in
theorem prTest_true : prTest = true := by kernel_rfl
theorem allB {p : Bool → Bool} (h : [false, true].all p = true) (b : Bool) : p b = true := List.all_eq_true.1 h b (by cases b <;> simp)
theorem prB_eq (b1 b2 b3 b5 b6 b7 : Bool) : prB b1 b2 b3 b5 b6 b7 = prOf (prK b1 b2 b3 b5 b6 b7) :=
  of_decide_eq_true (allB (allB (allB (allB (allB (allB prTest_true b1) b2) b3) b5) b6) b7)
theorem prFold_eq (n : Nat) : prFold n = prOf (prBits n) := by rw [prFold_B, prB_eq]; rfl
/-- The list after so many rounds. -/
def prPre (n k : Nat) : List Pr := ([(0, 0), (0, 1), (0, 2), (1, 0), (1, 1), (1, 2), (2, 0), (2, 1), (2, 2)].take k).foldl (fun l p => prSt n l p.1 p.2) []
theorem prPre_0 (n : Nat) : prPre n 0 = [] := rfl
theorem prPre_9 (n : Nat) : prPre n 9 = prFold n := rfl
theorem prPre_s (n a b : Nat) (ha : a < 3) (hb : b < 3) : prPre n (3 * a + b + 1) = prSt n (prPre n (3 * a + b)) a b := by
  obtain rfl | rfl | rfl : a = 0 ∨ a = 1 ∨ a = 2 := by omega
  all_goals obtain rfl | rfl | rfl : b = 0 ∨ b = 1 ∨ b = 2 := by omega
  all_goals rfl
theorem prSt_len (n : Nat) (l : List Pr) (a b : Nat) : (prSt n l a b).length ≤ 2 * l.length + 1 := by
  unfold prSt
  split
  · exact withP_len l a b
  · omega
theorem prPre_len (n a b : Nat) (ha : a ≤ 3) (hb : b ≤ 3) : (prPre n (3 * a + b)).length ≤ 600 := by
  have h1 := prSt_len n [] 0 0
  have h2 := prSt_len n (prPre n 1) 0 1
  have h3 := prSt_len n (prPre n 2) 0 2
  have h4 := prSt_len n (prPre n 3) 1 0
  have h5 := prSt_len n (prPre n 4) 1 1
  have h6 := prSt_len n (prPre n 5) 1 2
  have h7 := prSt_len n (prPre n 6) 2 0
  have h8 := prSt_len n (prPre n 7) 2 1
  have h9 := prSt_len n (prPre n 8) 2 2
  rw [← prPre_s n 0 1 (by omega) (by omega)] at h2
  rw [← prPre_s n 0 2 (by omega) (by omega)] at h3
  rw [← prPre_s n 1 0 (by omega) (by omega)] at h4
  rw [← prPre_s n 1 1 (by omega) (by omega)] at h5
  rw [← prPre_s n 1 2 (by omega) (by omega)] at h6
  rw [← prPre_s n 2 0 (by omega) (by omega)] at h7
  rw [← prPre_s n 2 1 (by omega) (by omega)] at h8
  rw [← prPre_s n 2 2 (by omega) (by omega)] at h9
  have h0 : (prPre n 0).length = 0 := rfl
  have h1 : (prPre n 1).length ≤ 1 := h1
  simp only [Nat.mul_zero, Nat.zero_add, Nat.mul_one, Nat.reduceAdd, Nat.reduceMul] at h2 h3 h4 h5 h6 h7 h8 h9
  have h10 : (prPre n 10).length = (prPre n 9).length := rfl
  have h11 : (prPre n 11).length = (prPre n 9).length := rfl
  have h12 : (prPre n 12).length = (prPre n 9).length := rfl
  obtain rfl | rfl | rfl | rfl : a = 0 ∨ a = 1 ∨ a = 2 ∨ a = 3 := by omega
  all_goals obtain rfl | rfl | rfl | rfl : b = 0 ∨ b = 1 ∨ b = 2 ∨ b = 3 := by omega
  all_goals simp only [Nat.mul_zero, Nat.zero_add, Nat.add_zero, Nat.mul_one, Nat.reduceAdd, Nat.reduceMul]
  all_goals omega
theorem prOf_len (k : Nat) : (prOf k).length ≤ 6 := by
  unfold prOf
  exact Nat.le_trans (List.length_filterMap_le _ _) (by simp)
end Go.Proofs.YtifeioddiddnoaaGreatDoor
