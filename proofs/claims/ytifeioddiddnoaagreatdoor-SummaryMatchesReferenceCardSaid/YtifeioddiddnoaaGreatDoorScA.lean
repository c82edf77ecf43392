/- Sets of values: the functions of the reference and of the program. No conditions. -/
import Derived.Test.YtifeioddiddnoaaGreatDoorEcB
import Derived.Test.YtifeioddiddnoaaGreatDoorSp
import Derived.Test.YtifeioddiddnoaaGreatDoorAbsE
set_option linter.unusedVariables false
set_option linter.unusedSimpArgs false
namespace Go.Proofs.YtifeioddiddnoaaGreatDoor
open Go.Abs Go Go.RowKit
def Ab.cl (a : Ab) : List A := [i64 a.lo, i64 a.hi, i64 a.m, i64 a.r, i64 a.mask]
def Pr.cl (p : Pr) : List A := [i64 p.a, i64 p.b, i64 p.site]
def Sy.cl (s : Sy) : List A := [i64 s.id, i64 s.res.lo, i64 s.res.hi, i64 s.res.m, i64 s.res.r, i64 s.res.mask, i64 s.throws, i64 s.locks, i64 s.loads, .ro s.pairs.length (flC Pr.cl s.pairs), i64 s.cost]
theorem tmod_bd (a m : Int) (hm : 0 < m) : -m < a.tmod m ∧ a.tmod m < m := by
  refine ⟨?_, Int.tmod_lt_of_pos a hm⟩
  have := Int.lt_tmod_of_pos a hm
  omega
theorem iabs_if (a : Int) : (if a < 0 - a then 0 - a else a) = iabs a := by unfold iabs; split <;> omega
theorem min_if (a b : Int) : (if b < a then b else a) = min a b := by split <;> omega
theorem max_if (a b : Int) : (if a < b then b else a) = max a b := by split <;> omega
theorem gcd_step (x y : Nat) : igcd (y : Int) (((x % y : Nat)) : Int) = igcd (x : Int) (y : Int) := by
  unfold igcd
  rw [Int.gcd_natCast_natCast, Int.gcd_natCast_natCast, Nat.gcd_comm y, ← Nat.gcd_rec, Nat.gcd_comm]
theorem igcd_zero (x : Nat) : igcd (x : Int) ((0 : Nat) : Int) = x := by unfold igcd; rw [Int.gcd_natCast_natCast]; simp
theorem tmod_nat (x y : Nat) : (x : Int).tmod (y : Int) = ((x % y : Nat) : Int) := Int.ofNat_tmod x y ▸ rfl
theorem rmod_fc (a m : Int) (hm : 0 < m ∧ m ≤ 2199023255552) : FC Tryz.prog ge 82 [i64 a, i64 m] [] (i64 (smod a m)) [] NoP := by
  have h1 := tmod_bd a m hm.1
  unfold smod
  refine FC.of_AW tok Tryz.func82 (by kernel_rfl) rfl Tryz.ntmps82 [] rfl rfl rfl ?_; intro w0 X0 Y f0 hI0 hX0
  (repeat (first | refine K2 ?_ | refine K4 ?_ | refine K5 ?_ | refine RG.d ?_ | refine S1 ?_ | refine S2 ?_ | refine S6 ?_))
  exact ⟨⟨_, rfl, rfl⟩, rfl, .nil _⟩
theorem rabs_fc (a : Int) (ha : -2199023255552 ≤ a ∧ a ≤ 2199023255552) : FC Tryz.prog ge 81 [i64 a] [] (i64 (iabs a)) [] NoP := by
  rw [← iabs_if a]
  refine FC.of_AW tok Tryz.func81 (by kernel_rfl) rfl Tryz.ntmps81 [] rfl rfl rfl ?_; intro w0 X0 Y f0 hI0 hX0
  (repeat (first | refine K2 ?_ | refine K4 ?_ | refine RG.d ?_ | refine S1 ?_ | refine S2 ?_ | refine S6 ?_))
  exact ⟨⟨_, rfl, rfl⟩, rfl, .nil _⟩
theorem rstep_fc (a : Ab) : FC Tryz.prog ge 80 [.agg a.cl] [] (i64 a.step) [] NoP := by
  obtain ⟨lo, hi, m, r, mask⟩ := a
  simp only [Ab.cl, Ab.step]
  by_cases h : lo = hi
  · rw [if_pos h]
    refine FC.of_AW tok Tryz.func80 (by kernel_rfl) rfl Tryz.ntmps80 [] rfl rfl rfl ?_; intro w0 X0 Y f0 hI0 hX0
    (repeat (first | refine K4 ?_ | refine L1 ?_ | refine L2 ?_ | refine RG.d ?_ | refine S1 ?_ | refine S2 ?_))
    refine AW.condD rfl (fun _ => ?_) (fun k => absurd h k)
    (repeat (first | refine K4 ?_ | refine RG.d ?_ | refine S1 ?_ | refine S2 ?_ | refine S6 ?_))
    exact ⟨⟨_, rfl, rfl⟩, rfl, .nil _⟩
  · rw [if_neg h]
    refine FC.of_AW tok Tryz.func80 (by kernel_rfl) rfl Tryz.ntmps80 [] rfl rfl rfl ?_; intro w0 X0 Y f0 hI0 hX0
    (repeat (first | refine K4 ?_ | refine L1 ?_ | refine L2 ?_ | refine RG.d ?_ | refine S1 ?_ | refine S2 ?_))
    refine AW.condD rfl (fun k => absurd k h) (fun _ => ?_)
    (repeat (first | refine K4 ?_ | refine L1 ?_ | refine RG.d ?_ | refine S1 ?_ | refine S2 ?_ | refine S3 ?_ | refine S6 ?_))
    exact ⟨⟨_, rfl, rfl⟩, rfl, .nil _⟩
theorem smod_fc (a m : Int) (hm : 0 < m ∧ m ≤ 2199023255552) : FC Tryz.prog ge 97 [i64 a, i64 m] [] (i64 (smod a m)) [] NoP := by
  have h1 := tmod_bd a m hm.1
  unfold smod
  refine FC.of_AW tok Tryz.func97 (by kernel_rfl) rfl Tryz.ntmps97 [] rfl rfl rfl ?_; intro w0 X0 Y f0 hI0 hX0
  (repeat (first | refine K2 ?_ | refine K4 ?_ | refine K5 ?_ | refine RG.d ?_ | refine S1 ?_ | refine S2 ?_ | refine S6 ?_))
  exact ⟨⟨_, rfl, rfl⟩, rfl, .nil _⟩
theorem sabs_fc (a : Int) (ha : -2199023255552 ≤ a ∧ a ≤ 2199023255552) : FC Tryz.prog ge 73 [i64 a] [] (i64 (iabs a)) [] NoP := by
  rw [← iabs_if a]
  refine FC.of_AW tok Tryz.func73 (by kernel_rfl) rfl Tryz.ntmps73 [] rfl rfl rfl ?_; intro w0 X0 Y f0 hI0 hX0
  (repeat (first | refine K2 ?_ | refine K4 ?_ | refine RG.d ?_ | refine S1 ?_ | refine S2 ?_ | refine S6 ?_))
  exact ⟨⟨_, rfl, rfl⟩, rfl, .nil _⟩
theorem sstep_fc (a : Ab) : FC Tryz.prog ge 72 [.agg a.cl] [] (i64 a.step) [] NoP := by
  obtain ⟨lo, hi, m, r, mask⟩ := a
  simp only [Ab.cl, Ab.step]
  by_cases h : lo = hi
  · rw [if_pos h]
    refine FC.of_AW tok Tryz.func72 (by kernel_rfl) rfl Tryz.ntmps72 [] rfl rfl rfl ?_; intro w0 X0 Y f0 hI0 hX0
    (repeat (first | refine K4 ?_ | refine L1 ?_ | refine L2 ?_ | refine RG.d ?_ | refine S1 ?_ | refine S2 ?_))
    refine AW.condD rfl (fun _ => ?_) (fun k => absurd h k)
    (repeat (first | refine K4 ?_ | refine RG.d ?_ | refine S1 ?_ | refine S2 ?_ | refine S6 ?_))
    exact ⟨⟨_, rfl, rfl⟩, rfl, .nil _⟩
  · rw [if_neg h]
    refine FC.of_AW tok Tryz.func72 (by kernel_rfl) rfl Tryz.ntmps72 [] rfl rfl rfl ?_; intro w0 X0 Y f0 hI0 hX0
    (repeat (first | refine K4 ?_ | refine L1 ?_ | refine L2 ?_ | refine RG.d ?_ | refine S1 ?_ | refine S2 ?_))
    refine AW.condD rfl (fun k => absurd k h) (fun _ => ?_)
    (repeat (first | refine K4 ?_ | refine L1 ?_ | refine RG.d ?_ | refine S1 ?_ | refine S2 ?_ | refine S3 ?_ | refine S6 ?_))
    exact ⟨⟨_, rfl, rfl⟩, rfl, .nil _⟩
theorem rgcd_fc (a b : Nat) (ha : a ≤ 2199023255552) (hb : b ≤ 2199023255552) : FC Tryz.prog ge 79 [i64 (a : Int), i64 (b : Int)] [] (i64 (igcd (a : Int) (b : Int))) [] NoP := by
  obtain ⟨G, hG⟩ : ∃ G, G = igcd (a : Int) (b : Int) := ⟨_, rfl⟩
  rw [← hG]
  refine FC.of_AW tok Tryz.func79 (by kernel_rfl) rfl Tryz.ntmps79 [] rfl rfl rfl ?_; intro w0 X0 Y f0 hI0 hX0
  refine S1 ?_; (repeat (first | refine K4 ?_ | refine RG.d ?_ | refine S2 ?_))
  refine AW.seqJ (fun _ : Unit => ⟨put 0 (some (i64 G)) noE, noH, 0⟩) (fun _ => True) ?_ ?_
  · (repeat (first | refine S4 ?_))
    refine AW.loopS (fun p : Nat × Nat => ⟨put 0 (some (i64 (p.1 : Int))) (put 1 (some (i64 (p.2 : Int))) noE), noH, 0⟩) (fun p => igcd (p.1 : Int) (p.2 : Int) = G ∧ p.1 ≤ 2199023255552 ∧ p.2 ≤ 2199023255552) (fun p => p.2) (a, b) ⟨hG.symm, ha, hb⟩ (Sub.of (by repeat (first | exact SubE.no _ | refine SubE.put rfl ?_)) (by repeat (first | exact SubH.no _ | refine SubH.put rfl ?_)) rfl) ?_
    rintro ⟨x, y⟩ ⟨h1, h2, h3⟩
    dsimp only at h1 h2 h3
    by_cases hy : y = 0
    · subst hy
      rw [igcd_zero] at h1
      subst h1
      (repeat (first | refine K4 ?_ | refine RG.d ?_ | refine S1 ?_ | refine S2 ?_ | refine S5 ?_ | refine S8 ?_))
      exact ⟨(), trivial, Sub.of (by repeat (first | exact SubE.no _ | refine SubE.put rfl ?_)) (by repeat (first | exact SubH.no _ | refine SubH.put rfl ?_)) rfl⟩
    · have hl := Nat.mod_lt x (show 0 < y by omega)
      (repeat (first | refine K4 ?_ | refine RG.d ?_ | refine S1 ?_ | refine S2 ?_))
      refine AW.condD rfl (fun _ => ?_) (fun kk => absurd (show (y : Int) ≠ 0 by omega) kk)
      (repeat (first | refine K4 ?_ | refine K5 ?_ | refine RG.dd ?_ | refine S2 ?_ | refine S3 ?_ | refine S4 ?_))
      exact ⟨(y, x % y), ⟨(gcd_step x y).trans h1, h3, by dsimp only; omega⟩, hl, Sub.of (SubE.put rfl (SubE.put (show some (A.val (.int .i64 ((x : Int).tmod (y : Int)))) = some (i64 ((x % y : Nat) : Int)) by rw [tmod_nat]) (SubE.no _))) (SubH.no _) rfl⟩
  intro _ _
  (repeat (first | refine K4 ?_ | refine RG.d ?_ | refine S1 ?_ | refine S2 ?_ | refine S6 ?_))
  exact ⟨⟨_, rfl, rfl⟩, rfl, .nil _⟩
theorem igcd_nat (a b : Int) : ∃ n : Nat, igcd a b = n := ⟨_, rfl⟩
/-- The divisors of several numbers. -/
def gcds (a : Nat) (l : List Nat) : Nat := l.foldl Nat.gcd a
theorem gcds_le {c : Nat} : ∀ (l : List Nat) (a : Nat), a ≤ c → (∀ x, x ∈ l → x ≤ c) → gcds a l ≤ c
  | [], a, h, _ => h
  | x :: l, a, h, k => by
    refine gcds_le l _ ?_ (fun y hy => k y (by simp [hy]))
    rcases Nat.eq_zero_or_pos a with rfl | ha
    · rw [Nat.gcd_zero_left]; exact k x (by simp)
    · exact Nat.le_trans (Nat.gcd_le_left x ha) h
set_option maxHeartbeats 4000000 in
theorem sgcd_fc (a : Nat) (l : List Nat) (ha : a ≤ 2199023255552) (hl : ∀ x, x ∈ l → x ≤ 2199023255552) (hll : l.length ≤ 1000) : FC Tryz.prog ge 71 [i64 (a : Int), .ro l.length (ints .i64 (l.map fun x : Nat => (x : Int)))] [] (i64 ((gcds a l : Nat) : Int)) [] NoP := by
  obtain ⟨G, hG⟩ : ∃ G, G = gcds a l := ⟨_, rfl⟩
  rw [← hG]
  have hGb : G ≤ 2199023255552 := by rw [hG]; exact gcds_le l a ha hl
  have ca := sabs_fc (G : Int) (by omega)
  rw [show iabs (G : Int) = (G : Int) by unfold iabs; omega] at ca
  refine FC.of_AW tok Tryz.func71 (by kernel_rfl) rfl Tryz.ntmps71 [] rfl rfl rfl ?_; intro w0 X0 Y f0 hI0 hX0
  refine S1 ?_; (repeat (first | refine K4 ?_ | refine RG.d ?_ | refine S2 ?_))
  refine AW.seqJ (fun _ : Unit => ⟨put 0 (some (i64 (G : Int))) noE, noH, 0⟩) (fun _ => True) ?_ ?_
  · refine S1 ?_; (repeat (first | refine K4 ?_ | refine RG.d ?_ | refine S2 ?_ | refine S4 ?_))
    refine AW.loopS (fun p : Nat × Nat => ⟨put 0 (some (i64 (p.1 : Int))) (put 7 (some (.ro l.length (ints .i64 (l.map fun x : Nat => (x : Int))))) (put 8 (some (i64 (l.length : Int))) (put 9 (some (i64 (p.2 : Int))) noE))), noH, 0⟩) (fun p => p.2 ≤ l.length ∧ p.1 ≤ 2199023255552 ∧ gcds p.1 (l.drop p.2) = G) (fun p => l.length - p.2) (a, 0) ⟨Nat.zero_le _, ha, hG.symm⟩ (Sub.of (by repeat (first | exact SubE.no _ | refine SubE.put rfl ?_)) (by repeat (first | exact SubH.no _ | refine SubH.put rfl ?_)) rfl) ?_
    rintro ⟨x, i⟩ ⟨hi, hx, h1⟩
    dsimp only at hi hx h1
    (repeat (first | refine K4 ?_ | refine RG.d ?_ | refine S1 ?_ | refine S2 ?_))
    refine AW.condD rfl (fun k => ?_) (fun k => ?_)
    rotate_left
    · have k : ¬ (i : Int) < (l.length : Int) := k
      rw [List.drop_eq_nil_of_le (by omega)] at h1
      obtain rfl : x = G := h1
      (repeat (first | refine S5 ?_))
      exact ⟨(), trivial, Sub.of (by repeat (first | exact SubE.no _ | refine SubE.put rfl ?_)) (by repeat (first | exact SubH.no _ | refine SubH.put rfl ?_)) rfl⟩
    have k : (i : Int) < (l.length : Int) := k
    obtain ⟨y, hy⟩ : ∃ y, l[i]? = some y := ⟨_, List.getElem?_eq_getElem (by omega)⟩
    have hat := ints_cut (l.map fun x : Nat => (x : Int)) i (y : Int) (by rw [List.getElem?_map, hy]; rfl) .i64
    have hyb := hl y (List.mem_of_getElem? hy)
    have hdr : l.drop i = y :: l.drop (i + 1) := by
      obtain ⟨e1, e2⟩ := List.getElem?_eq_some_iff.1 hy
      rw [List.drop_eq_getElem_cons e1, e2]
    rw [hdr] at h1
    have h1 : gcds (Nat.gcd x y) (l.drop (i + 1)) = G := h1
    obtain ⟨g, hg⟩ : ∃ g, g = Nat.gcd x y := ⟨_, rfl⟩
    rw [← hg] at h1
    have hgb : g ≤ 2199023255552 := by
      rw [hg]
      rcases Nat.eq_zero_or_pos x with rfl | h0
      · rw [Nat.gcd_zero_left]; exact hyb
      · exact Nat.le_trans (Nat.gcd_le_left y h0) hx
    refine S3 ?_
    refine S1 ?_; (repeat (first | refine S4 ?_))
    refine S1 ?_
    refine S2 ?_
    refine RG.idx tok rfl rfl rfl rfl rfl rfl hat ⟨by omega, by show (i : Int) < (l.length : Int); omega⟩ rfl ?_
    (repeat (first | refine K4 ?_ | refine L1 ?_ | refine RG.d ?_ | refine S4 ?_))
    refine AW.loopS (fun p : Nat × Nat => ⟨put 0 (some (i64 (p.1 : Int))) (put 6 (some (i64 (p.2 : Int))) (put 7 (some (.ro l.length (ints .i64 (l.map fun x : Nat => (x : Int))))) (put 8 (some (i64 (l.length : Int))) (put 9 (some (i64 (i : Int))) noE)))), noH, 0⟩) (fun p => igcd (p.1 : Int) (p.2 : Int) = (g : Int) ∧ p.1 ≤ 2199023255552 ∧ p.2 ≤ 2199023255552) (fun p => p.2) (x, y) ⟨by rw [hg]; unfold igcd; rw [Int.gcd_natCast_natCast], hx, hyb⟩ (Sub.of (by repeat (first | exact SubE.no _ | refine SubE.put rfl ?_)) (by repeat (first | exact SubH.no _ | refine SubH.put rfl ?_)) rfl) ?_
    rintro ⟨u, v⟩ ⟨e1, e2, e3⟩
    dsimp only at e1 e2 e3
    by_cases hv : v = 0
    · subst hv
      rw [igcd_zero] at e1
      (repeat (first | refine K2 ?_ | refine K4 ?_ | refine RG.d ?_ | refine S1 ?_ | refine S2 ?_ | refine S5 ?_ | refine S8 ?_))
      exact ⟨(g, i + 1), ⟨by dsimp only; omega, hgb, h1⟩, by dsimp only; omega, Sub.of (SubE.put (congrArg (fun z => some (i64 z)) e1) (SubE.put rfl (SubE.put rfl (SubE.put rfl (SubE.no _))))) (SubH.no _) rfl⟩
    · have hlt := Nat.mod_lt u (show 0 < v by omega)
      (repeat (first | refine K4 ?_ | refine RG.d ?_ | refine S1 ?_ | refine S2 ?_))
      refine AW.condD rfl (fun _ => ?_) (fun kk => absurd (show (v : Int) ≠ 0 by omega) kk)
      (repeat (first | refine K4 ?_ | refine K5 ?_ | refine RG.dd ?_ | refine S2 ?_ | refine S3 ?_ | refine S4 ?_))
      exact ⟨(v, u % v), ⟨(gcd_step u v).trans e1, e3, by dsimp only; omega⟩, hlt, Sub.of (SubE.put rfl (SubE.put (show some (A.val (.int .i64 ((u : Int).tmod (v : Int)))) = some (i64 ((u % v : Nat) : Int)) by rw [tmod_nat]) (SubE.put rfl (SubE.put rfl (SubE.put rfl (SubE.no _)))))) (SubH.no _) rfl⟩
  intro _ _
  (repeat (first | refine RG.call rfl rfl rfl rfl (ca) [] rfl rfl rfl rfl (.nil _) (.nil _) (fun _ h => False.elim h) rfl (A.ren_free _ _ rfl) rfl ?_ | refine K4 ?_ | refine RG.d ?_ | refine S1 ?_ | refine S2 ?_))
  (repeat (first | refine S6 ?_))
  exact ⟨⟨_, rfl, rfl⟩, rfl, .nil _⟩
theorem abBy_of (lo hi m mask H : Int) (h : H = if 0 < m then hi - (hi - lo).tmod m else hi) : abBy lo hi m mask = if lo = H then ⟨lo, lo, 1, 0, mask⟩ else ⟨lo, H, m, smod lo m, mask⟩ := by
  unfold abBy
  dsimp only
  rw [← h]
set_option maxHeartbeats 4000000 in
theorem rby_fc (lo hi m mask : Int) (h1 : -4294967296 ≤ lo ∧ lo ≤ hi ∧ hi ≤ 4294967296) (hm : 0 ≤ m ∧ m ≤ 2199023255552) (h0 : m = 0 → lo = hi) : FC Tryz.prog ge 78 [i64 lo, i64 hi, i64 m, i64 mask] [] (.agg (abBy lo hi m mask).cl) [] NoP := by
  by_cases h0m : 0 < m
  · have cm := rmod_fc lo m ⟨h0m, hm.2⟩
    obtain ⟨H, hH⟩ : ∃ H, H = hi - (hi - lo).tmod m := ⟨_, rfl⟩
    have ht1 := Int.tmod_nonneg m (show 0 ≤ hi - lo by omega)
    have ht2 := Int.tmod_lt_of_pos (hi - lo) h0m
    have hq : (hi - lo).tdiv m * m = (hi - lo) - (hi - lo).tmod m := by rw [Int.tmod_def, Int.mul_comm m]; omega
    have hq0 : 0 ≤ (hi - lo).tdiv m := Int.tdiv_nonneg (by omega) (by omega)
    have hq1 : (hi - lo).tdiv m ≤ hi - lo := Int.tdiv_le_self m (by omega)
    have ht3 : (hi - lo).tmod m ≤ hi - lo := by
      have := Int.mul_nonneg hq0 (show 0 ≤ m by omega)
      omega
    rw [abBy_of lo hi m mask H (by rw [if_pos h0m]; exact hH)]
    simp only [apply_ite Ab.cl]
    simp only [Ab.cl]
    refine FC.of_AW tok Tryz.func78 (by kernel_rfl) rfl Tryz.ntmps78 [] rfl rfl rfl ?_; intro w0 X0 Y f0 hI0 hX0
    (repeat (first | refine K4 ?_ | refine L2 ?_ | refine RG.d ?_ | refine S1 ?_ | refine S2 ?_))
    · refine AW.condD rfl (fun _ => ?_) (fun k => absurd h0m k)
      refine S2 ?_
      iterate 9 ((first | refine K2 ?_ | refine K4 ?_ | refine K5 ?_))
      refine RG.put 19 rfl (v' := i64 H) (by rw [wrap_i64 (n := (hi - lo).tdiv m) (by omega), wrap_i64 (n := (hi - lo).tdiv m * m) (by omega), wrap_i64 (by omega)]; exact congrArg (fun z => i64 z) (by omega)) ?_
      (repeat (first | refine K4 ?_ | refine RG.d ?_ | refine S1 ?_ | refine S2 ?_))
      by_cases hl : lo = H
      · rw [if_pos hl]
        refine AW.condD rfl (fun _ => ?_) (fun k => absurd hl k)
        (repeat (first | refine K4 ?_ | refine L3 ?_ | refine RG.d ?_ | refine S1 ?_ | refine S2 ?_ | refine S6 ?_))
        exact ⟨⟨_, rfl, rfl⟩, rfl, .nil _⟩
      · rw [if_neg hl]
        refine AW.condD rfl (fun k => absurd k hl) (fun _ => ?_)
        (repeat (first | refine RG.call rfl rfl rfl rfl (cm) [] rfl rfl rfl rfl (.nil _) (.nil _) (fun _ h => False.elim h) rfl (A.ren_free _ _ rfl) rfl ?_ | refine K4 ?_ | refine L3 ?_ | refine RG.d ?_ | refine S1 ?_ | refine S2 ?_ | refine S3 ?_))
        (repeat (first | refine S6 ?_))
        exact ⟨⟨_, rfl, rfl⟩, rfl, .nil _⟩
  · have hm0 : m = 0 := by omega
    have hlh := h0 hm0
    subst hm0
    rw [abBy_of lo hi 0 mask hi (by rw [if_neg h0m]), if_pos hlh]
    simp only [Ab.cl]
    refine FC.of_AW tok Tryz.func78 (by kernel_rfl) rfl Tryz.ntmps78 [] rfl rfl rfl ?_; intro w0 X0 Y f0 hI0 hX0
    (repeat (first | refine K4 ?_ | refine L2 ?_ | refine RG.d ?_ | refine S1 ?_ | refine S2 ?_ | refine S3 ?_ | refine S8 ?_))
    refine AW.condD rfl (fun _ => ?_) (fun k => absurd hlh k)
    (repeat (first | refine K4 ?_ | refine L3 ?_ | refine RG.d ?_ | refine S1 ?_ | refine S2 ?_ | refine S6 ?_))
    exact ⟨⟨_, rfl, rfl⟩, rfl, .nil _⟩
set_option maxHeartbeats 4000000 in
theorem sby_fc (lo hi m mask : Int) (h1 : -4294967296 ≤ lo ∧ lo ≤ hi ∧ hi ≤ 4294967296) (hm : 0 ≤ m ∧ m ≤ 2199023255552) (h0 : m = 0 → lo = hi) : FC Tryz.prog ge 67 [i64 lo, i64 hi, i64 m, i64 mask] [] (.agg (abBy lo hi m mask).cl) [] NoP := by
  by_cases h0m : 0 < m
  · have cm := smod_fc lo m ⟨h0m, hm.2⟩
    obtain ⟨H, hH⟩ : ∃ H, H = hi - (hi - lo).tmod m := ⟨_, rfl⟩
    have ht1 := Int.tmod_nonneg m (show 0 ≤ hi - lo by omega)
    have ht2 := Int.tmod_lt_of_pos (hi - lo) h0m
    have hq : (hi - lo).tdiv m * m = (hi - lo) - (hi - lo).tmod m := by rw [Int.tmod_def, Int.mul_comm m]; omega
    have hq0 : 0 ≤ (hi - lo).tdiv m := Int.tdiv_nonneg (by omega) (by omega)
    have hq1 : (hi - lo).tdiv m ≤ hi - lo := Int.tdiv_le_self m (by omega)
    have ht3 : (hi - lo).tmod m ≤ hi - lo := by
      have := Int.mul_nonneg hq0 (show 0 ≤ m by omega)
      omega
    rw [abBy_of lo hi m mask H (by rw [if_pos h0m]; exact hH)]
    simp only [apply_ite Ab.cl]
    simp only [Ab.cl]
    refine FC.of_AW tok Tryz.func67 (by kernel_rfl) rfl Tryz.ntmps67 [] rfl rfl rfl ?_; intro w0 X0 Y f0 hI0 hX0
    (repeat (first | refine K4 ?_ | refine L2 ?_ | refine RG.d ?_ | refine S1 ?_ | refine S2 ?_))
    · refine AW.condD rfl (fun _ => ?_) (fun k => absurd h0m k)
      refine S2 ?_
      iterate 7 ((first | refine K2 ?_ | refine K4 ?_ | refine K5 ?_))
      refine RG.put 17 rfl (v' := i64 H) (by rw [hH]) ?_
      (repeat (first | refine K4 ?_ | refine RG.d ?_ | refine S1 ?_ | refine S2 ?_))
      by_cases hl : lo = H
      · rw [if_pos hl]
        refine AW.condD rfl (fun _ => ?_) (fun k => absurd hl k)
        (repeat (first | refine K4 ?_ | refine L3 ?_ | refine RG.d ?_ | refine S1 ?_ | refine S2 ?_ | refine S6 ?_))
        exact ⟨⟨_, rfl, rfl⟩, rfl, .nil _⟩
      · rw [if_neg hl]
        refine AW.condD rfl (fun k => absurd k hl) (fun _ => ?_)
        (repeat (first | refine RG.call rfl rfl rfl rfl (cm) [] rfl rfl rfl rfl (.nil _) (.nil _) (fun _ h => False.elim h) rfl (A.ren_free _ _ rfl) rfl ?_ | refine K4 ?_ | refine L3 ?_ | refine RG.d ?_ | refine S1 ?_ | refine S2 ?_ | refine S3 ?_))
        (repeat (first | refine S6 ?_))
        exact ⟨⟨_, rfl, rfl⟩, rfl, .nil _⟩
  · have hm0 : m = 0 := by omega
    have hlh := h0 hm0
    subst hm0
    rw [abBy_of lo hi 0 mask hi (by rw [if_neg h0m]), if_pos hlh]
    simp only [Ab.cl]
    refine FC.of_AW tok Tryz.func67 (by kernel_rfl) rfl Tryz.ntmps67 [] rfl rfl rfl ?_; intro w0 X0 Y f0 hI0 hX0
    (repeat (first | refine K4 ?_ | refine L2 ?_ | refine RG.d ?_ | refine S1 ?_ | refine S2 ?_ | refine S3 ?_ | refine S8 ?_))
    refine AW.condD rfl (fun _ => ?_) (fun k => absurd hlh k)
    (repeat (first | refine K4 ?_ | refine L3 ?_ | refine RG.d ?_ | refine S1 ?_ | refine S2 ?_ | refine S6 ?_))
    exact ⟨⟨_, rfl, rfl⟩, rfl, .nil _⟩
end Go.Proofs.YtifeioddiddnoaaGreatDoor
namespace Go.Proofs.YtifeioddiddnoaaGreatDoor
open Go.Abs Go Go.RowKit
theorem or_i64 {a b : Int} (ha : 0 ≤ a ∧ a < 9223372036854775808) (hb : 0 ≤ b ∧ b < 9223372036854775808) : IntKind.i64.wrap ((BitVec.ofInt 64 a ||| BitVec.ofInt 64 b).toNat : Nat) = ior a b := by
  have e : (BitVec.ofInt 64 a ||| BitVec.ofInt 64 b).toNat = a.toNat ||| b.toNat := by
    rw [BitVec.toNat_or, BitVec.toNat_ofInt, BitVec.toNat_ofInt]
    congr 1 <;> (congr 1; omega)
  rw [e]
  unfold ior
  refine wrap_i64 ⟨by omega, ?_⟩
  have : a.toNat ||| b.toNat < 2 ^ 63 := Nat.or_lt_two_pow (by omega) (by omega)
  omega
theorem abBy_same (v mask : Int) : abBy v v 0 mask = abOf v mask := by simp [abBy, abOf]
/-- Bounds of a set of values. -/
structure Tr.bd (t : Tr) : Prop where
  toOk : t.ok
  lo31 : -2147483648 ≤ t.lo
  hi31 : t.hi ≤ 2147483647
  m0 : 0 ≤ t.mask
  m1 : t.mask < 4294967296
theorem Tr.bd.g32 {t : Tr} (h : t.bd) : t.g ≤ 4294967296 := by
  have h1 := h.toOk.le
  have h2 := h.lo31
  have h3 := h.hi31
  rcases Int.le_iff_lt_or_eq.1 h1 with h4 | h4
  · exact Int.le_trans (Int.le_of_dvd (by omega) h.toOk.d) (by omega)
  · rw [h.toOk.z.2 h4]; decide
theorem bd_join {s t : Tr} (hs : s.bd) (ht : t.bd) : (s.join t).bd where
  toOk := join_ok hs.toOk ht.toOk
  lo31 := by show -2147483648 ≤ min s.lo t.lo; have := hs.lo31; have := ht.lo31; omega
  hi31 := by show max s.hi t.hi ≤ 2147483647; have := hs.hi31; have := ht.hi31; omega
  m0 := Int.natCast_nonneg _
  m1 := by
    show ((s.mask.toNat ||| t.mask.toNat : Nat) : Int) < 4294967296
    have h1 := hs.m0; have h2 := hs.m1; have h3 := ht.m0; have h4 := ht.m1
    have : s.mask.toNat ||| t.mask.toNat < 2 ^ 32 := Nat.or_lt_two_pow (by omega) (by omega)
    omega
def trAll (mask : Int) : Tr := ⟨-2147483648, 2147483647, 1, mask⟩
theorem trAll_bd (mask : Int) (h : 0 ≤ mask ∧ mask < 4294967296) : (trAll mask).bd where
  toOk := ⟨show (-2147483648 : Int) ≤ 2147483647 by decide, show (0 : Int) ≤ 1 by decide, show (1 : Int) = 0 ↔ (-2147483648 : Int) = 2147483647 by decide, Int.one_dvd _⟩
  lo31 := show (-2147483648 : Int) ≤ -2147483648 by decide
  hi31 := show (2147483647 : Int) ≤ 2147483647 by decide
  m0 := h.1
  m1 := h.2
theorem abBy_all (mask : Int) : abBy (-2147483648) 2147483647 1 mask = nf (trAll mask) := by
  unfold abBy nf trAll
  simp [smod_eq]
theorem rof_fc (v mask : Int) (h : -2147483648 ≤ v ∧ v ≤ 2147483647) : FC Tryz.prog ge 48 [.agg [i64 v, i64 mask]] [] (.agg (abOf v mask).cl) [] NoP := by
  have c := rby_fc v v 0 mask (by omega) (by decide) (fun _ => rfl)
  rw [abBy_same] at c
  simp only [abOf, Ab.cl] at c ⊢
  refine FC.of_AW tok Tryz.func48 (by kernel_rfl) rfl Tryz.ntmps48 [] rfl rfl rfl ?_; intro w0 X0 Y f0 hI0 hX0
  (repeat (first | refine RG.call rfl rfl rfl rfl (c) [] rfl rfl rfl rfl (.nil _) (.nil _) (fun _ h => False.elim h) rfl (A.ren_free _ _ rfl) rfl ?_ | refine K4 ?_ | refine L1 ?_ | refine L2 ?_ | refine L3 ?_ | refine RG.d ?_ | refine S1 ?_ | refine S2 ?_))
  (repeat (first | refine S6 ?_))
  exact ⟨⟨_, rfl, rfl⟩, rfl, .nil _⟩
theorem rall_fc (mask : Int) : FC Tryz.prog ge 44 [i64 mask] [] (.agg (nf (trAll mask)).cl) [] NoP := by
  have c := rby_fc (-2147483648) 2147483647 1 mask (by decide) (by decide) (fun h => by cases h)
  rw [abBy_all] at c
  obtain ⟨⟨a1, a2, a3, a4, a5⟩, ha⟩ : ∃ a, a = nf (trAll mask) := ⟨_, rfl⟩
  rw [← ha] at c ⊢
  simp only [Ab.cl] at c ⊢
  refine FC.of_AW tok Tryz.func44 (by kernel_rfl) rfl Tryz.ntmps44 [] rfl rfl rfl ?_; intro w0 X0 Y f0 hI0 hX0
  (repeat (first | refine RG.call rfl rfl rfl rfl (c) [] rfl rfl rfl rfl (.nil _) (.nil _) (fun _ h => False.elim h) rfl (A.ren_free _ _ rfl) rfl ?_ | refine K4 ?_ | refine L2 ?_ | refine L3 ?_ | refine RG.d ?_ | refine S1 ?_ | refine S2 ?_))
  (repeat (first | refine S6 ?_))
  exact ⟨⟨_, rfl, rfl⟩, rfl, .nil _⟩
theorem sall_fc (mask : Int) : FC Tryz.prog ge 68 [i64 mask] [] (.agg (nf (trAll mask)).cl) [] NoP := by
  have c := sby_fc (-2147483648) 2147483647 1 mask (by decide) (by decide) (fun h => by cases h)
  rw [abBy_all] at c
  obtain ⟨⟨a1, a2, a3, a4, a5⟩, ha⟩ : ∃ a, a = nf (trAll mask) := ⟨_, rfl⟩
  rw [← ha] at c ⊢
  simp only [Ab.cl] at c ⊢
  refine FC.of_AW tok Tryz.func68 (by kernel_rfl) rfl Tryz.ntmps68 [] rfl rfl rfl ?_; intro w0 X0 Y f0 hI0 hX0
  (repeat (first | refine RG.call rfl rfl rfl rfl (c) [] rfl rfl rfl rfl (.nil _) (.nil _) (fun _ h => False.elim h) rfl (A.ren_free _ _ rfl) rfl ?_ | refine K4 ?_ | refine L2 ?_ | refine L3 ?_ | refine RG.d ?_ | refine S1 ?_ | refine S2 ?_))
  (repeat (first | refine S6 ?_))
  exact ⟨⟨_, rfl, rfl⟩, rfl, .nil _⟩
set_option maxHeartbeats 4000000 in
theorem rjoin_fc (s t : Tr) (hs : s.bd) (ht : t.bd) : FC Tryz.prog ge 47 [.agg (nf s).cl, .agg (nf t).cl] [] (.agg (nf (s.join t)).cl) [] NoP := by
  have hok := bd_join hs ht
  have gs := hs.toOk.g; have gt := ht.toOk.g; have gs2 := hs.g32; have gt2 := ht.g32
  have b1 := hs.lo31; have b2 := hs.hi31; have b3 := ht.lo31; have b4 := ht.hi31; have b5 := hs.toOk.le; have b6 := ht.toOk.le
  have n1 := hs.m0; have n2 := hs.m1; have n3 := ht.m0; have n4 := ht.m1
  have gj := hok.g32
  have gj0 := hok.toOk.g
  have c1 := rstep_fc (nf s)
  have c2 := rstep_fc (nf t)
  rw [nf_step hs.toOk] at c1
  rw [nf_step ht.toOk] at c2
  have c3 := rabs_fc (s.lo - t.lo) (by omega)
  have hab : 0 ≤ iabs (s.lo - t.lo) ∧ iabs (s.lo - t.lo) ≤ 4294967296 := by unfold iabs; omega
  obtain ⟨ng, hng⟩ := igcd_nat s.g t.g
  have c4 := rgcd_fc s.g.toNat t.g.toNat (by omega) (by omega)
  rw [Int.toNat_of_nonneg gs, Int.toNat_of_nonneg gt, hng] at c4
  have hngb : ng ≤ 2199023255552 := by
    have h : igcd s.g t.g ∣ s.g ∧ igcd s.g t.g ∣ t.g := igcd_dvd.1 (Int.dvd_refl _)
    rw [hng] at h
    rcases Int.le_iff_lt_or_eq.1 gs with h1 | h1
    · have := Int.le_of_dvd h1 h.1; omega
    · rcases Int.le_iff_lt_or_eq.1 gt with h2 | h2
      · have := Int.le_of_dvd h2 h.2; omega
      · rw [← h1, ← h2] at hng; unfold igcd at hng; simp at hng; omega
  have c5 := rgcd_fc ng (iabs (s.lo - t.lo)).toNat hngb (by omega)
  rw [Int.toNat_of_nonneg hab.1, ← hng] at c5
  rw [show igcd (igcd s.g t.g) (iabs (s.lo - t.lo)) = (s.join t).g from rfl] at c5
  rw [hng] at c5
  have c6 := rby_fc (s.join t).lo (s.join t).hi (s.join t).g (s.join t).mask (by show -4294967296 ≤ min s.lo t.lo ∧ min s.lo t.lo ≤ max s.hi t.hi ∧ max s.hi t.hi ≤ 4294967296; omega) ⟨gj0, by omega⟩ (fun h => hok.toOk.z.1 h)
  have ej := join_nf hs.toOk ht.toOk
  have ej2 : abBy (s.join t).lo (s.join t).hi (s.join t).g (s.join t).mask = nf (s.join t) := by
    rw [← ej]
    unfold Ab.join
    rw [nf_step hs.toOk, nf_step ht.toOk, nf_lo, nf_lo, nf_hi, nf_hi, nf_mask, nf_mask]
    rfl
  rw [ej2] at c6
  clear ej ej2
  have e1 := nf_lo s; have e2 := nf_hi (t := s); have e3 := nf_mask s; have e4 := nf_lo t; have e5 := nf_hi (t := t); have e6 := nf_mask t
  obtain ⟨⟨j1, j2, j3, j4, j5⟩, hj⟩ : ∃ a, a = nf (s.join t) := ⟨_, rfl⟩
  rw [← hj] at c6 ⊢
  obtain ⟨⟨x1, x2, x3, x4, x5⟩, hx⟩ : ∃ a, a = nf s := ⟨_, rfl⟩
  rw [← hx] at c1 e1 e2 e3 ⊢
  obtain ⟨⟨y1, y2, y3, y4, y5⟩, hy⟩ : ∃ a, a = nf t := ⟨_, rfl⟩
  rw [← hy] at c2 e4 e5 e6 ⊢
  dsimp only at e1 e2 e3 e4 e5 e6
  subst e1 e2 e3 e4 e5 e6
  clear hj hx hy
  simp only [Ab.cl] at c1 c2 c6 ⊢
  refine FC.of_AW tok Tryz.func47 (by kernel_rfl) rfl Tryz.ntmps47 [] rfl rfl rfl ?_; intro w0 X0 Y f0 hI0 hX0
  (repeat (first | refine RG.call rfl rfl rfl rfl (c1) [] rfl rfl rfl rfl (.nil _) (.nil _) (fun _ h => False.elim h) rfl (A.ren_free _ _ rfl) rfl ?_ | refine RG.call rfl rfl rfl rfl (c2) [] rfl rfl rfl rfl (.nil _) (.nil _) (fun _ h => False.elim h) rfl (A.ren_free _ _ rfl) rfl ?_ | refine RG.call rfl rfl rfl rfl (c3) [] rfl rfl rfl rfl (.nil _) (.nil _) (fun _ h => False.elim h) rfl (A.ren_free _ _ rfl) rfl ?_ | refine RG.call rfl rfl rfl rfl (c4) [] rfl rfl rfl rfl (.nil _) (.nil _) (fun _ h => False.elim h) rfl (A.ren_free _ _ rfl) rfl ?_ | refine RG.call rfl rfl rfl rfl (c5) [] rfl rfl rfl rfl (.nil _) (.nil _) (fun _ h => False.elim h) rfl (A.ren_free _ _ rfl) rfl ?_ | refine K2 ?_ | refine K4 ?_ | refine L1 ?_ | refine L2 ?_ | refine RG.d ?_ | refine RG.dd ?_ | refine S1 ?_ | refine S2 ?_))
  refine RG.put 22 rfl (v' := i64 (s.join t).lo) (by rw [min_if]; rfl) ?_
  refine RG.put 27 rfl (v' := i64 (s.join t).hi) (by rw [max_if]; rfl) ?_
  refine RG.put 33 rfl (v' := i64 (s.join t).mask) (congrArg (fun z => i64 z) (or_i64 (by omega) (by omega))) ?_
  (repeat (first | refine RG.call rfl rfl rfl rfl (c6) [] rfl rfl rfl rfl (.nil _) (.nil _) (fun _ h => False.elim h) rfl (A.ren_free _ _ rfl) rfl ?_ | refine L3 ?_ | refine RG.d ?_))
  (repeat (first | refine S6 ?_))
  exact ⟨⟨_, rfl, rfl⟩, rfl, .nil _⟩
set_option maxHeartbeats 4000000 in
theorem sjoin_fc (s t : Tr) (hs : s.bd) (ht : t.bd) : FC Tryz.prog ge 41 [.agg (nf s).cl, .agg (nf t).cl] [] (.agg (nf (s.join t)).cl) [] NoP := by
  have hok := bd_join hs ht
  have gs := hs.toOk.g; have gt := ht.toOk.g; have gs2 := hs.g32; have gt2 := ht.g32
  have b1 := hs.lo31; have b2 := hs.hi31; have b3 := ht.lo31; have b4 := ht.hi31; have b5 := hs.toOk.le; have b6 := ht.toOk.le
  have n1 := hs.m0; have n2 := hs.m1; have n3 := ht.m0; have n4 := ht.m1
  have gj := hok.g32
  have gj0 := hok.toOk.g
  have c1 := sstep_fc (nf s)
  have c2 := sstep_fc (nf t)
  rw [nf_step hs.toOk] at c1
  rw [nf_step ht.toOk] at c2
  have c3 := sabs_fc (s.lo - t.lo) (by omega)
  have hab : 0 ≤ iabs (s.lo - t.lo) ∧ iabs (s.lo - t.lo) ≤ 4294967296 := by unfold iabs; omega
  have c5 := sgcd_fc s.g.toNat [t.g.toNat, (iabs (s.lo - t.lo)).toNat] (by omega) (by intro x hx; simp at hx; omega) (by simp)
  have eg : ((gcds s.g.toNat [t.g.toNat, (iabs (s.lo - t.lo)).toNat] : Nat) : Int) = (s.join t).g := by
    show ((Nat.gcd (Nat.gcd s.g.toNat t.g.toNat) (iabs (s.lo - t.lo)).toNat : Nat) : Int) = igcd (igcd s.g t.g) (iabs (s.lo - t.lo))
    unfold igcd
    rw [Int.gcd, Int.gcd, Int.natAbs_natCast, show s.g.natAbs = s.g.toNat by omega, show t.g.natAbs = t.g.toNat by omega, show (iabs (s.lo - t.lo)).natAbs = (iabs (s.lo - t.lo)).toNat by omega]
  rw [Int.toNat_of_nonneg gs, eg] at c5
  have c5 : FC Tryz.prog ge 71 [i64 s.g, .ro 2 [i64 ((t.g.toNat : Nat) : Int), i64 (((iabs (s.lo - t.lo)).toNat : Nat) : Int)]] [] (i64 (s.join t).g) [] NoP := c5
  rw [Int.toNat_of_nonneg gt, Int.toNat_of_nonneg hab.1] at c5
  have c6 := sby_fc (s.join t).lo (s.join t).hi (s.join t).g (s.join t).mask (by show -4294967296 ≤ min s.lo t.lo ∧ min s.lo t.lo ≤ max s.hi t.hi ∧ max s.hi t.hi ≤ 4294967296; omega) ⟨gj0, by omega⟩ (fun h => hok.toOk.z.1 h)
  have ej := join_nf hs.toOk ht.toOk
  have ej2 : abBy (s.join t).lo (s.join t).hi (s.join t).g (s.join t).mask = nf (s.join t) := by
    rw [← ej]
    unfold Ab.join
    rw [nf_step hs.toOk, nf_step ht.toOk, nf_lo, nf_lo, nf_hi, nf_hi, nf_mask, nf_mask]
    rfl
  rw [ej2] at c6
  clear ej ej2
  have e1 := nf_lo s; have e2 := nf_hi (t := s); have e3 := nf_mask s; have e4 := nf_lo t; have e5 := nf_hi (t := t); have e6 := nf_mask t
  obtain ⟨⟨j1, j2, j3, j4, j5⟩, hj⟩ : ∃ a, a = nf (s.join t) := ⟨_, rfl⟩
  rw [← hj] at c6 ⊢
  obtain ⟨⟨x1, x2, x3, x4, x5⟩, hx⟩ : ∃ a, a = nf s := ⟨_, rfl⟩
  rw [← hx] at c1 e1 e2 e3 ⊢
  obtain ⟨⟨y1, y2, y3, y4, y5⟩, hy⟩ : ∃ a, a = nf t := ⟨_, rfl⟩
  rw [← hy] at c2 e4 e5 e6 ⊢
  dsimp only at e1 e2 e3 e4 e5 e6
  subst e1 e2 e3 e4 e5 e6
  clear hj hx hy
  simp only [Ab.cl] at c1 c2 c6 ⊢
  refine FC.of_AW tok Tryz.func41 (by kernel_rfl) rfl Tryz.ntmps41 [] rfl rfl rfl ?_; intro w0 X0 Y f0 hI0 hX0
  (repeat (first | refine RG.call rfl rfl rfl rfl (c1) [] rfl rfl rfl rfl (.nil _) (.nil _) (fun _ h => False.elim h) rfl (A.ren_free _ _ rfl) rfl ?_ | refine RG.call rfl rfl rfl rfl (c2) [] rfl rfl rfl rfl (.nil _) (.nil _) (fun _ h => False.elim h) rfl (A.ren_free _ _ rfl) rfl ?_ | refine RG.call rfl rfl rfl rfl (c3) [] rfl rfl rfl rfl (.nil _) (.nil _) (fun _ h => False.elim h) rfl (A.ren_free _ _ rfl) rfl ?_ | refine K2 ?_ | refine K4 ?_ | refine L1 ?_ | refine L2 ?_ | refine RG.d ?_ | refine S1 ?_ | refine S2 ?_))
  refine RG.put 9 rfl (v' := i64 (s.join t).lo) (by rw [min_if]; rfl) ?_
  refine RG.put 14 rfl (v' := i64 (s.join t).hi) (by rw [max_if]; rfl) ?_
  refine RG.callG rfl rfl rfl rfl (c5) [] [3] rfl rfl (.cons (FView.refl _ _ _) (.cons (FView.sl (l := [i64 t.g, i64 (iabs (s.lo - t.lo))]) rfl (by decide) rfl (FViews.reflL _ _ _) rfl rfl) .nil)) rfl rfl (.nil _) (.nil _) rfl (fun _ h => False.elim h) rfl (A.ren_free _ _ rfl) rfl ?_
  (repeat (first | refine K4 ?_ | refine L1 ?_))
  refine RG.put 31 rfl (v' := i64 (s.join t).mask) (congrArg (fun z => i64 z) (or_i64 (by omega) (by omega))) ?_
  (repeat (first | refine RG.call rfl rfl rfl rfl (c6) [] rfl rfl rfl rfl (.nil _) (.nil _) (fun _ h => False.elim h) rfl (A.ren_free _ _ rfl) rfl ?_ | refine L3 ?_ | refine RG.dd ?_))
  (repeat (first | refine S6 ?_))
  exact ⟨⟨_, rfl, rfl⟩, rfl, .nil _⟩
end Go.Proofs.YtifeioddiddnoaaGreatDoor
namespace Go.Proofs.YtifeioddiddnoaaGreatDoor
open Go.Abs Go Go.RowKit
theorem Pr.cl_len (x : Pr) : x.cl.length = 3 := rfl
theorem Pr.cl_free (x : Pr) : ltL 0 x.cl = true := rfl
abbrev rdP (l : List Pr) : A := .ro l.length (flC Pr.cl l)
theorem less_fc (x y : Pr) : FC Tryz.prog ge 53 [.agg x.cl, .agg y.cl] [] (.val (.bool (plessB x y))) [] NoP := by
  obtain ⟨a, b, s⟩ := x
  obtain ⟨c, d, t⟩ := y
  simp only [Pr.cl, plessB]
  by_cases h1 : a < c
  · rw [decide_eq_true h1, Bool.true_or]
    refine FC.of_AW tok Tryz.func53 (by kernel_rfl) rfl Tryz.ntmps53 [] rfl rfl rfl ?_; intro w0 X0 Y f0 hI0 hX0
    refine S1 ?_; (repeat (first | refine K4 ?_ | refine L2 ?_ | refine RG.d ?_ | refine S2 ?_))
    repeat refine S1 ?_
    refine S2 ?_
    iterate 5 ((first | refine K4 ?_ | refine L1 ?_))
    refine RG.put 9 rfl (v' := .val (.bool true)) (by rw [decide_eq_true h1]) ?_
    (repeat (first | refine K1 ?_ | refine K4 ?_ | refine RG.d ?_ | refine S6 ?_))
    exact ⟨⟨_, rfl, rfl⟩, rfl, .nil _⟩
  rw [decide_eq_false h1, Bool.false_or]
  by_cases h2 : a = c
  · rw [decide_eq_true h2, Bool.true_and]
    refine FC.of_AW tok Tryz.func53 (by kernel_rfl) rfl Tryz.ntmps53 [] rfl rfl rfl ?_; intro w0 X0 Y f0 hI0 hX0
    refine S1 ?_; (repeat (first | refine K4 ?_ | refine L2 ?_ | refine RG.d ?_ | refine S2 ?_))
    repeat refine S1 ?_
    refine S2 ?_
    iterate 5 ((first | refine K4 ?_ | refine L1 ?_))
    refine RG.put 9 rfl (v' := .val (.bool false)) (by rw [decide_eq_false h1]) ?_
    iterate 6 ((first | refine K4 ?_ | refine L1 ?_))
    refine RG.put 15 rfl (v' := .val (.bool true)) (by rw [decide_eq_true h2]) ?_
    (repeat (first | refine K4 ?_ | refine L1 ?_ | refine RG.d ?_ | refine S6 ?_))
    exact ⟨⟨_, rfl, rfl⟩, rfl, .nil _⟩
  · rw [decide_eq_false h2, Bool.false_and]
    refine FC.of_AW tok Tryz.func53 (by kernel_rfl) rfl Tryz.ntmps53 [] rfl rfl rfl ?_; intro w0 X0 Y f0 hI0 hX0
    refine S1 ?_; (repeat (first | refine K4 ?_ | refine L2 ?_ | refine RG.d ?_ | refine S2 ?_))
    repeat refine S1 ?_
    refine S2 ?_
    iterate 5 ((first | refine K4 ?_ | refine L1 ?_))
    refine RG.put 9 rfl (v' := .val (.bool false)) (by rw [decide_eq_false h1]) ?_
    iterate 6 ((first | refine K4 ?_ | refine L1 ?_))
    refine RG.put 15 rfl (v' := .val (.bool false)) (by rw [decide_eq_false h2]) ?_
    (repeat (first | refine K1 ?_ | refine K4 ?_ | refine RG.d ?_ | refine S6 ?_))
    exact ⟨⟨_, rfl, rfl⟩, rfl, .nil _⟩
def sgw (k : Nat) : Nat := if k = 0 then 3 else if k = 1 then 1 else k + 2
theorem sgw_inj : ∀ a b, sgw a = sgw b → a = b := by intro a b h; unfold sgw at h; repeat' split at h
                                                     all_goals omega
theorem sgw_hi (a : Nat) (ha : 2 ≤ a) : 4 ≤ sgw a := by unfold sgw; repeat' split
                                                        all_goals omega
theorem flP_app (l m : List Pr) : flC Pr.cl (l ++ m) = flC Pr.cl l ++ flC Pr.cl m := flC_append Pr.cl l m
theorem drop_cons {α : Type} {l : List α} {i : Nat} {x : α} (h : l[i]? = some x) : l.drop i = x :: l.drop (i + 1) := by
  obtain ⟨e1, e2⟩ := List.getElem?_eq_some_iff.1 h
  rw [List.drop_eq_getElem_cons e1, e2]
set_option maxHeartbeats 8000000 in
theorem withP_fc (l : List Pr) (a b : Int) (hl : l.length ≤ 1000) : FC Tryz.prog ge 49 [rdP l, i64 a, i64 b] [] (rdP (withP l a b)) [] NoP := by
  obtain ⟨W, hW⟩ : ∃ W, W = withP l a b := ⟨_, rfl⟩
  obtain ⟨W1, hW1⟩ : ∃ W, W = l.takeWhile (fun y => plessB y ⟨a, b, 0⟩) := ⟨_, rfl⟩
  have hWW : W = W1 ++ [⟨a, b, 0⟩] ++ l.filter (fun y => plessB ⟨a, b, 0⟩ y) := by rw [hW, hW1]; rfl
  have lW1 : W1.length ≤ l.length := by rw [hW1]; exact (List.takeWhile_prefix _).length_le
  rw [← hW]
  clear hW
  refine FC.of_AW tok Tryz.func49 (by kernel_rfl) rfl Tryz.ntmps49 [] rfl rfl rfl ?_; intro w0 X0 Y f0 hI0 hX0
  refine S1 ?_; (repeat (first | refine K4 ?_ | refine RG.d ?_ | refine S2 ?_)); refine S1 ?_; (repeat (first | refine K4 ?_ | refine L2 ?_ | refine L3 ?_ | refine RG.d ?_ | refine S2 ?_))
  refine AW.seqJ (fun _ : Unit => ⟨put 0 (some (rdP l)) (put 7 (some (.ptr 1 [] 0)) (put 8 (some (.sl 0 [] 3 0 W1.length)) noE)), hput 0 (.one (flC Pr.cl W1)) (hput 1 (.one ([i64 a, i64 b, i64 0])) noH), 2⟩) (fun _ => True) ?_ ?_
  · refine S1 ?_
    (repeat (first | refine K4 ?_ | refine RG.d ?_ | refine S2 ?_ | refine S4 ?_))
    refine AW.loopS (fun p : Nat × List Pr => ⟨put 0 (some (rdP l)) (put 7 (some (.ptr 1 [] 0)) (put 8 (some (.sl 0 [] 3 0 p.2.length)) (put 9 (some (i64 (p.1 : Int))) noE))), hput 0 (.one (flC Pr.cl p.2)) (hput 1 (.one ([i64 a, i64 b, i64 0])) noH), 2⟩) (fun p => p.1 ≤ l.length ∧ p.2.length = p.1 ∧ W1 = p.2 ++ (l.drop p.1).takeWhile (fun y => plessB y ⟨a, b, 0⟩)) (fun p => l.length - p.1) (0, []) ⟨Nat.zero_le _, rfl, by simpa using hW1⟩ (Sub.of (by repeat (first | exact SubE.no _ | refine SubE.put rfl ?_)) (by repeat (first | exact SubH.no _ | refine SubH.put rfl ?_)) rfl) ?_
    rintro ⟨i, U⟩ ⟨hi, hU, h1⟩
    dsimp only at hi hU h1
    have lU := flC_len Pr.cl_len U
    by_cases hil : i < l.length
    · obtain ⟨y, hy⟩ : ∃ y, l[i]? = some y := ⟨_, List.getElem?_eq_getElem hil⟩
      have hat := flC_at Pr.cl_len l i y hy
      have cl := less_fc y ⟨a, b, 0⟩
      rw [drop_cons hy, List.takeWhile_cons] at h1
      obtain ⟨t, ht⟩ : ∃ t, t = plessB y ⟨a, b, 0⟩ := ⟨_, rfl⟩
      rw [← ht] at cl h1
      clear ht hy
      obtain ⟨y1, y2, y3⟩ := y
      simp only [Pr.cl, List.cons_append, List.nil_append] at hat cl
      repeat refine S1 ?_
      refine S2 ?_
      iterate 4 ((first | refine K4 ?_))
      refine RG.put 18 rfl (v' := .val (.bool true)) (by rw [decide_eq_true (show (i : Int) < (l.length : Int) by omega)]) ?_
      (repeat (first | refine K4 ?_))
      refine RG.idx tok rfl rfl rfl rfl rfl rfl hat ⟨by omega, by omega⟩ rfl ?_
      (repeat (first | refine RG.call rfl rfl rfl rfl (cl) [] rfl rfl rfl rfl (.nil _) (.nil _) (fun _ h => False.elim h) rfl (A.ren_free _ _ rfl) rfl ?_ | refine K4 ?_ | refine L1 ?_ | refine RG.dd ?_))
      cases t
      · have h1 : W1 = U ++ [] := by simpa using h1
        obtain rfl : U = W1 := by rw [h1, List.append_nil]
        (repeat (first | refine S5 ?_ | refine S8 ?_))
        exact ⟨(), trivial, Sub.of (by repeat (first | exact SubE.no _ | refine SubE.put rfl ?_)) (by repeat (first | exact SubH.no _ | refine SubH.put rfl ?_)) rfl⟩
      · have h1 : W1 = U ++ (⟨y1, y2, y3⟩ :: (l.drop (i + 1)).takeWhile (fun y => plessB y ⟨a, b, 0⟩)) := by simpa using h1
        obtain ⟨Z, hZ⟩ : ∃ Z, Z = U ++ [(⟨y1, y2, y3⟩ : Pr)] := ⟨_, rfl⟩
        (repeat (first | refine K4 ?_ | refine S1 ?_ | refine S2 ?_ | refine S3 ?_ | refine S4 ?_ | refine S7 ?_))
        refine RG.idx tok rfl rfl rfl rfl rfl rfl hat ⟨by omega, by omega⟩ rfl ?_
        (repeat (first | refine L1 ?_ | refine L2 ?_))
        refine RG.append tok rfl rfl rfl rfl rfl rfl rfl rfl (n1 := U.length) (c := flC Pr.cl U) (ks := [0]) rfl (m := 1) (ks' := [2]) rfl rfl (by omega) rfl (by omega) (by omega) rfl (c' := flC Pr.cl Z) (by rw [List.take_of_length_le (by omega), hZ, flP_app]; rfl) ?_
        rw [show U.length + 1 = Z.length by rw [hZ, List.length_append]; rfl]
        (repeat (first | refine K2 ?_ | refine K4 ?_ | refine RG.d ?_ | refine S2 ?_))
        refine ⟨(i + 1, Z), ⟨by dsimp only; omega, by show Z.length = i + 1; rw [hZ, List.length_append, hU]; rfl, by show W1 = Z ++ _; rw [hZ, h1]; simp⟩, by dsimp only; omega, Sub.renB sgw (by repeat (first | exact SubEr.no _ _ | refine SubEr.put rfl ?_)) (SubHr.put rfl (flC_free Pr.cl_free _) (SubHr.put rfl rfl (SubHr.no _ _))) sgw_inj (fun a ha => sgw_hi a ha) (fun a ha => absurd ha (Nat.not_lt_zero _))⟩
    · have h1 : W1 = U ++ [] := by rw [List.drop_eq_nil_of_le (by omega)] at h1; exact h1
      obtain rfl : U = W1 := by rw [h1, List.append_nil]
      repeat refine S1 ?_
      refine S2 ?_
      iterate 4 ((first | refine K4 ?_))
      refine RG.put 18 rfl (v' := .val (.bool false)) (by rw [decide_eq_false (show ¬ (i : Int) < (l.length : Int) by omega)]) ?_
      (repeat (first | refine K1 ?_ | refine K4 ?_ | refine RG.dd ?_ | refine S5 ?_ | refine S8 ?_))
      exact ⟨(), trivial, Sub.of (by repeat (first | exact SubE.no _ | refine SubE.put rfl ?_)) (by repeat (first | exact SubH.no _ | refine SubH.put rfl ?_)) rfl⟩
  intro _ _
  have lW := flC_len Pr.cl_len W1
  obtain ⟨Z, hZ⟩ : ∃ Z, Z = W1 ++ [(⟨a, b, 0⟩ : Pr)] := ⟨_, rfl⟩
  have lZ : Z.length = W1.length + 1 := by rw [hZ, List.length_append]; rfl
  rw [← hZ] at hWW
  refine S1 ?_
  (repeat (first | refine K4 ?_ | refine L1 ?_ | refine L2 ?_ | refine S2 ?_))
  refine RG.append tok rfl rfl rfl rfl rfl rfl rfl rfl (n1 := W1.length) (c := flC Pr.cl W1) (ks := [0]) rfl (m := 1) (ks' := [2]) rfl rfl (by omega) rfl (by omega) (by omega) rfl (c' := flC Pr.cl Z) (by rw [List.take_of_length_le (by omega), hZ, flP_app]; rfl) ?_
  rw [show W1.length + 1 = Z.length by rw [hZ, List.length_append]; rfl]
  (repeat (first | refine K4 ?_ | refine RG.d ?_))
  refine AW.sub (t := ⟨put 0 (some (rdP l)) (put 7 (some (.ptr 1 [] 0)) (put 8 (some (.sl 0 [] 3 0 Z.length)) noE)), hput 0 (.one (flC Pr.cl Z)) (hput 1 (.one ([i64 a, i64 b, i64 0])) noH), 2⟩) (Sub.renB sgw (by repeat (first | exact SubEr.no _ _ | refine SubEr.put rfl ?_)) (SubHr.put rfl (flC_free Pr.cl_free _) (SubHr.put rfl rfl (SubHr.no _ _))) sgw_inj (fun a ha => sgw_hi a ha) (fun a ha => absurd ha (Nat.not_lt_zero _))) ?_
  refine AW.seqJ (fun _ : Unit => ⟨put 0 (some (rdP l)) (put 7 (some (.ptr 1 [] 0)) (put 8 (some (.sl 0 [] 3 0 W.length)) noE)), hput 0 (.one (flC Pr.cl W)) (hput 1 (.one ([i64 a, i64 b, i64 0])) noH), 2⟩) (fun _ => True) ?_ ?_
  · refine S1 ?_
    (repeat (first | refine K4 ?_ | refine RG.d ?_ | refine S2 ?_ | refine S4 ?_))
    refine AW.loopS (fun p : Nat × List Pr => ⟨put 0 (some (rdP l)) (put 7 (some (.ptr 1 [] 0)) (put 8 (some (.sl 0 [] 3 0 p.2.length)) (put 10 (some (i64 (p.1 : Int))) noE))), hput 0 (.one (flC Pr.cl p.2)) (hput 1 (.one ([i64 a, i64 b, i64 0])) noH), 2⟩) (fun p => p.1 ≤ l.length ∧ p.2.length ≤ Z.length + p.1 ∧ p.2 = Z ++ (l.take p.1).filter (fun y => plessB ⟨a, b, 0⟩ y)) (fun p => l.length - p.1) (0, Z) ⟨Nat.zero_le _, Nat.le_refl _, by simp⟩ (Sub.of (by repeat (first | exact SubE.no _ | refine SubE.put rfl ?_)) (by repeat (first | exact SubH.no _ | refine SubH.put rfl ?_)) rfl) ?_
    rintro ⟨i, U⟩ ⟨hi, hU, h1⟩
    dsimp only at hi hU h1
    have lU := flC_len Pr.cl_len U
    (repeat (first | refine K4 ?_ | refine RG.d ?_ | refine S1 ?_ | refine S2 ?_))
    refine AW.condD rfl (fun k => ?_) (fun k => ?_)
    rotate_left
    · have k : ¬ (i : Int) < (l.length : Int) := k
      obtain rfl : U = W := by rw [h1, hWW, List.take_of_length_le (by omega)]
      (repeat (first | refine S5 ?_))
      exact ⟨(), trivial, Sub.of (by repeat (first | exact SubE.no _ | refine SubE.put rfl ?_)) (by repeat (first | exact SubH.no _ | refine SubH.put rfl ?_)) rfl⟩
    have k : (i : Int) < (l.length : Int) := k
    obtain ⟨y, hy⟩ : ∃ y, l[i]? = some y := ⟨_, List.getElem?_eq_getElem (by omega)⟩
    have hat := flC_at Pr.cl_len l i y hy
    have cl := less_fc ⟨a, b, 0⟩ y
    have htk : l.take (i + 1) = l.take i ++ [y] := by rw [List.take_add_one, hy]; rfl
    obtain ⟨t, ht⟩ : ∃ t, t = plessB ⟨a, b, 0⟩ y := ⟨_, rfl⟩
    rw [← ht] at cl
    have h2 : Z ++ (l.take (i + 1)).filter (fun y => plessB ⟨a, b, 0⟩ y) = U ++ (if t = true then [y] else []) := by
      rw [htk, List.filter_append, ← List.append_assoc, ← h1, List.filter_cons, List.filter_nil, ← ht]
    clear ht hy htk
    obtain ⟨y1, y2, y3⟩ := y
    simp only [Pr.cl, List.cons_append, List.nil_append] at hat cl
    (repeat (first | refine K4 ?_ | refine L1 ?_ | refine S1 ?_ | refine S2 ?_ | refine S3 ?_ | refine S4 ?_))
    refine RG.idx tok rfl rfl rfl rfl rfl rfl hat ⟨by omega, by omega⟩ rfl ?_
    (repeat (first | refine RG.call rfl rfl rfl rfl (cl) [] rfl rfl rfl rfl (.nil _) (.nil _) (fun _ h => False.elim h) rfl (A.ren_free _ _ rfl) rfl ?_ | refine L1 ?_ | refine RG.dd ?_))
    cases t
    · rw [if_neg (by decide), List.append_nil] at h2
      (repeat (first | refine K2 ?_ | refine K4 ?_ | refine RG.d ?_ | refine S2 ?_ | refine S3 ?_ | refine S8 ?_))
      exact ⟨(i + 1, U), ⟨by dsimp only; omega, by dsimp only; omega, h2.symm⟩, by dsimp only; omega, Sub.of (by repeat (first | exact SubE.no _ | refine SubE.put rfl ?_)) (by repeat (first | exact SubH.no _ | refine SubH.put rfl ?_)) rfl⟩
    · rw [if_pos rfl] at h2
      obtain ⟨Y, hY⟩ : ∃ Z, Z = U ++ [(⟨y1, y2, y3⟩ : Pr)] := ⟨_, rfl⟩
      (repeat (first | refine K4 ?_ | refine S2 ?_ | refine S7 ?_))
      refine RG.idx tok rfl rfl rfl rfl rfl rfl hat ⟨by omega, by omega⟩ rfl ?_
      (repeat (first | refine L1 ?_ | refine L2 ?_))
      refine RG.append tok rfl rfl rfl rfl rfl rfl rfl rfl (n1 := U.length) (c := flC Pr.cl U) (ks := [0]) rfl (m := 1) (ks' := [2]) rfl rfl (by omega) rfl (by omega) (by omega) rfl (c' := flC Pr.cl Y) (by rw [List.take_of_length_le (by omega), hY, flP_app]; rfl) ?_
      rw [show U.length + 1 = Y.length by rw [hY, List.length_append]; rfl]
      (repeat (first | refine K2 ?_ | refine K4 ?_ | refine RG.d ?_ | refine S2 ?_))
      refine ⟨(i + 1, Y), ⟨by dsimp only; omega, by show Y.length ≤ _; rw [hY, List.length_append]; simp only [List.length_cons, List.length_nil]; omega, by show Y = _; rw [hY, h2]⟩, by dsimp only; omega, Sub.renB sgw (by repeat (first | exact SubEr.no _ _ | refine SubEr.put rfl ?_)) (SubHr.put rfl (flC_free Pr.cl_free _) (SubHr.put rfl rfl (SubHr.no _ _))) sgw_inj (fun a ha => sgw_hi a ha) (fun a ha => absurd ha (Nat.not_lt_zero _))⟩
  intro _ _
  have lWW := flC_len Pr.cl_len W
  refine AW.sub (Sub.frz (ks := [0]) 8 rfl (frzC (st := 3) rfl (.head _) lWW (flC_free Pr.cl_free W))) ?_
  (repeat (first | refine K4 ?_ | refine RG.d ?_ | refine S1 ?_ | refine S2 ?_ | refine S6 ?_))
  exact ⟨⟨_, rfl, rfl⟩, rfl, .nil _⟩
end Go.Proofs.YtifeioddiddnoaaGreatDoor
