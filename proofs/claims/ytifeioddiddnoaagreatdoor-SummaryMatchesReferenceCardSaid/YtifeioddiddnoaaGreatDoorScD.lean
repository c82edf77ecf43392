/- The words of a summary, as the reference tells them. No conditions. -/
import Derived.Test.YtifeioddiddnoaaGreatDoorScC
set_option linter.unusedVariables false
set_option linter.unusedSimpArgs false
namespace Go.Proofs.YtifeioddiddnoaaGreatDoor
open Go.Abs Go Go.RowKit
set_option maxRecDepth 20000
def prW (l : List Pr) : List Int := l.flatMap fun p => [p.a, p.b]
def Sy.w (s : Sy) : List Int := [s.id, s.res.lo, s.res.hi, s.res.m, s.res.r, s.res.mask, s.throws, s.locks, s.loads, s.cost] ++ prW s.pairs
theorem prW_len : ∀ l : List Pr, (prW l).length = 2 * l.length
  | [] => rfl
  | x :: l => by show ([x.a, x.b] ++ prW l).length = _; rw [List.length_append, prW_len l]; simp only [List.length_cons, List.length_nil]; omega
def sgx (k : Nat) : Nat := if k = 0 then 0 else if k = 1 then 3 else k + 2
theorem sgx_inj : ∀ a b, sgx a = sgx b → a = b := by intro a b h; unfold sgx at h; repeat' split at h
                                                     all_goals omega
theorem sgx_hi (a : Nat) (ha : 2 ≤ a) : 4 ≤ sgx a := by unfold sgx; repeat' split
                                                        all_goals omega
set_option maxHeartbeats 8000000 in
theorem rwords_fc (s : Sy) (hl : s.pairs.length ≤ 1000) : FC Tryz.prog ge 46 [.agg s.cl] [] (.ro s.w.length (ints .i64 s.w)) [] NoP := by
  obtain ⟨W, hW⟩ : ∃ W, W = s.w := ⟨_, rfl⟩
  rw [← hW]
  obtain ⟨x1, ⟨x2, x3, x4, x5, x6⟩, x7, x8, x9, l, x11⟩ := s
  dsimp only at hl
  simp only [Sy.w] at hW
  simp only [Sy.cl]
  refine FC.of_AW tok Tryz.func46 (by kernel_rfl) rfl Tryz.ntmps46 [] rfl rfl rfl ?_; intro w0 X0 Y f0 hI0 hX0
  (repeat (first | refine K4 ?_ | refine L1 ?_ | refine L2 ?_ | refine RG.d ?_ | refine S1 ?_ | refine S2 ?_ | refine S4 ?_))
  refine AW.loopS (fun p : Nat × List Int => ⟨put 1 (some (.ptr 0 [] 0)) (put 3 (some (.sl 1 [] 1 0 p.2.length)) (put 4 (some (i64 (p.1 : Int))) noE)), hput 0 (.one ([i64 x1, i64 x2, i64 x3, i64 x4, i64 x5, i64 x6, i64 x7, i64 x8, i64 x9, rdP l, i64 x11])) (hput 1 (.one (ints .i64 p.2)) noH), 2⟩) (fun p => p.1 ≤ l.length ∧ p.2.length = 10 + 2 * p.1 ∧ W = p.2 ++ prW (l.drop p.1)) (fun p => l.length - p.1) (0, [x1, x2, x3, x4, x5, x6, x7, x8, x9, x11]) ⟨Nat.zero_le _, rfl, hW⟩ (Sub.of (by repeat (first | exact SubE.no _ | refine SubE.put rfl ?_)) (by repeat (first | exact SubH.no _ | refine SubH.put rfl ?_)) rfl) ?_
  rintro ⟨i, U⟩ ⟨hi, hU, h1⟩
  dsimp only at hi hU h1
  have lU := Go.Abs.ints_length .i64 U
  (repeat (first | refine K4 ?_ | refine L1 ?_ | refine RG.d ?_ | refine S1 ?_ | refine S2 ?_))
  refine AW.condD rfl (fun k => ?_) (fun k => ?_)
  rotate_left
  · have k : ¬ (i : Int) < (l.length : Int) := k
    rw [List.drop_eq_nil_of_le (by omega)] at h1
    have h1 : U = W := by rw [h1]; exact (List.append_nil U).symm
    subst h1
    refine AW.sub (Sub.frz (ks := [1]) 3 rfl (frzI rfl (.head _) rfl)) ?_
    (repeat (first | refine K4 ?_ | refine RG.d ?_ | refine S1 ?_ | refine S2 ?_ | refine S5 ?_ | refine S6 ?_))
    exact ⟨⟨_, rfl, rfl⟩, rfl, .nil _⟩
  have k : (i : Int) < (l.length : Int) := k
  obtain ⟨y, hy⟩ : ∃ y, l[i]? = some y := ⟨_, List.getElem?_eq_getElem (by omega)⟩
  have hat := flC_at Pr.cl_len l i y hy
  rw [drop_cons hy] at h1
  obtain ⟨y1, y2, y3⟩ := y
  simp only [Pr.cl, List.cons_append, List.nil_append] at hat
  obtain ⟨Z, hZ⟩ : ∃ Z, Z = U ++ [y1, y2] := ⟨_, rfl⟩
  have h2 : W = Z ++ prW (l.drop (i + 1)) := by rw [h1, hZ, List.append_assoc]; rfl
  have lZ : Z.length = U.length + 2 := by rw [hZ, List.length_append]; rfl
  (repeat (first | refine K4 ?_ | refine L1 ?_ | refine S1 ?_ | refine S2 ?_ | refine S3 ?_ | refine S4 ?_))
  refine RG.idx tok rfl rfl rfl rfl rfl rfl hat ⟨by omega, by omega⟩ rfl ?_
  (repeat (first | refine K4 ?_ | refine L1 ?_))
  refine RG.idx tok rfl rfl rfl rfl rfl rfl hat ⟨by omega, by omega⟩ rfl ?_
  (repeat (first | refine K4 ?_ | refine L1 ?_ | refine L2 ?_))
  refine RG.append tok rfl rfl rfl rfl rfl rfl rfl rfl (n1 := U.length) (c := ints .i64 U) (ks := [1]) rfl (m := 2) (ks' := [2]) rfl rfl (by omega) rfl (by omega) (by omega) rfl (c' := ints .i64 Z) (by rw [List.take_of_length_le (by omega), hZ, ints_append]; rfl) ?_
  rw [show U.length + 2 = Z.length by omega]
  (repeat (first | refine K2 ?_ | refine K4 ?_ | refine RG.d ?_ | refine RG.dd ?_ | refine S2 ?_))
  exact ⟨(i + 1, Z), ⟨by dsimp only; omega, by show Z.length = 10 + 2 * (i + 1); omega, h2⟩, by dsimp only; omega, Sub.renB sgx (by repeat (first | exact SubEr.no _ _ | refine SubEr.put rfl ?_)) (SubHr.put rfl rfl (SubHr.put rfl (ints_free _ _ _) (SubHr.no _ _))) sgx_inj (fun a ha => sgx_hi a ha) (fun a ha => absurd ha (Nat.not_lt_zero _))⟩
end Go.Proofs.YtifeioddiddnoaaGreatDoor
namespace Go.Proofs.YtifeioddiddnoaaGreatDoor
open Go.Abs Go Go.RowKit
set_option maxRecDepth 20000
theorem take_snoc (l : List Int) (i : Nat) (x : Int) (h : l[i]? = some x) : l.take (i + 1) = l.take i ++ [x] := by
  rw [List.take_add_one, h]; rfl
theorem sameI_fc (a b : List Int) (ha : a.length ≤ 100000) (hb : b.length ≤ 100000) : FC Tryz.prog ge 45 [rdi a, rdi b] [] (.val (.bool (decide (a = b)))) [] NoP := by
  obtain ⟨r, hr⟩ : ∃ r, r = decide (a = b) := ⟨_, rfl⟩
  rw [← hr]
  by_cases hl : a.length = b.length
  · refine FC.of_AW tok Tryz.func45 (by kernel_rfl) rfl Tryz.ntmps45 [] rfl rfl rfl ?_; intro w0 X0 Y f0 hI0 hX0
    refine S1 ?_; (repeat (first | refine K4 ?_ | refine RG.d ?_ | refine S2 ?_))
    refine S1 ?_
    (repeat (first | refine K4 ?_ | refine RG.d ?_ | refine S1 ?_ | refine S2 ?_))
    refine AW.condD rfl (fun k => absurd (show (a.length : Int) = b.length by omega) k) (fun _ => ?_)
    refine S3 ?_
    refine AW.seqJ (fun _ : Unit => ⟨noE, noH, 0⟩) (fun _ => a = b) ?_ ?_
    · refine S1 ?_; (repeat (first | refine K4 ?_ | refine RG.d ?_ | refine S2 ?_ | refine S4 ?_))
      refine AW.loopS (fun i : Nat => ⟨put 0 (some (rdi a)) (put 1 (some (rdi b)) (put 5 (some (i64 (i : Int))) noE)), noH, 0⟩) (fun i => i ≤ a.length ∧ a.take i = b.take i) (fun i => a.length - i) 0 ⟨Nat.zero_le _, by simp⟩ (Sub.of (by repeat (first | exact SubE.no _ | refine SubE.put rfl ?_)) (by repeat (first | exact SubH.no _ | refine SubH.put rfl ?_)) rfl) ?_
      rintro i ⟨hi, he⟩
      (repeat (first | refine K4 ?_ | refine RG.d ?_ | refine S1 ?_ | refine S2 ?_))
      refine AW.condD rfl (fun k => ?_) (fun k => ?_)
      rotate_left
      · have hi2 : i = a.length := by
          have : ¬ (i : Int) < (a.length : Int) := k
          omega
        (repeat (first | refine S5 ?_))
        rw [hi2, List.take_length, hl, List.take_length] at he
        exact ⟨(), he, Sub.of (by repeat (first | exact SubE.no _ | refine SubE.put rfl ?_)) (by repeat (first | exact SubH.no _ | refine SubH.put rfl ?_)) rfl⟩
      have hi2 : i < a.length := by
        have : (i : Int) < (a.length : Int) := k
        omega
      obtain ⟨x, hx⟩ : ∃ x, a[i]? = some x := ⟨_, List.getElem?_eq_getElem hi2⟩
      obtain ⟨y, hy⟩ : ∃ y, b[i]? = some y := ⟨_, List.getElem?_eq_getElem (by omega)⟩
      have hatx := ints_cut a i x hx .i64
      have haty := ints_cut b i y hy .i64
      refine S3 ?_
      repeat (first | refine S1 ?_ | refine S4 ?_)
      refine S2 ?_
      (first | refine K4 ?_)
      (first | refine K4 ?_)
      refine RG.idx tok rfl rfl rfl rfl rfl rfl hatx ⟨by omega, by omega⟩ rfl ?_
      (first | refine L1 ?_)
      (first | refine K4 ?_)
      (first | refine K4 ?_)
      refine RG.idx tok rfl rfl rfl rfl rfl rfl haty ⟨by omega, by omega⟩ rfl ?_
      (repeat (first | refine K4 ?_ | refine L1 ?_ | refine RG.dd ?_))
      refine AW.condD rfl (fun k2 => ?_) (fun k2 => ?_)
      · have k2' : x ≠ y := k2
        have e : r = false := by
          rw [hr, decide_eq_false_iff_not]
          rintro rfl
          rw [hx] at hy
          exact k2' (Option.some.inj hy)
        rw [e]
        (repeat (first | refine K4 ?_ | refine RG.d ?_ | refine S1 ?_ | refine S2 ?_ | refine S6 ?_))
        exact ⟨⟨_, rfl, rfl⟩, rfl, .nil _⟩
      · have k2' : x = y := by
          by_cases h : x = y
          · exact h
          · exact absurd h k2
        (repeat (first | refine K2 ?_ | refine K4 ?_ | refine RG.d ?_ | refine S2 ?_ | refine S3 ?_))
        exact ⟨i + 1, ⟨by omega, by rw [take_snoc a i x hx, take_snoc b i y hy, he, k2']⟩, by show a.length - (i + 1) < a.length - i; omega, Sub.of (by repeat (first | exact SubE.no _ | refine SubE.put rfl ?_)) (by repeat (first | exact SubH.no _ | refine SubH.put rfl ?_)) rfl⟩
    intro _ he
    have e : r = true := by rw [hr, decide_eq_true_iff]; exact he
    rw [e]
    (repeat (first | refine K4 ?_ | refine RG.d ?_ | refine S1 ?_ | refine S2 ?_ | refine S6 ?_))
    exact ⟨⟨_, rfl, rfl⟩, rfl, .nil _⟩
  · have e : r = false := by
      rw [hr, decide_eq_false_iff_not]
      rintro rfl
      exact hl rfl
    rw [e]
    refine FC.of_AW tok Tryz.func45 (by kernel_rfl) rfl Tryz.ntmps45 [] rfl rfl rfl ?_; intro w0 X0 Y f0 hI0 hX0
    (repeat (first | refine K4 ?_ | refine RG.d ?_ | refine S1 ?_ | refine S2 ?_))
    refine AW.condD rfl (fun _ => ?_) (fun k => absurd (show ¬ (a.length : Int) = b.length by omega) k)
    (repeat (first | refine K4 ?_ | refine RG.d ?_ | refine S1 ?_ | refine S2 ?_ | refine S6 ?_))
    exact ⟨⟨_, rfl, rfl⟩, rfl, .nil _⟩
/-- Two summaries have the same sites as far as both have pairs, and the same words. -/
def sitesB (l m : List Pr) : Bool := (l.zip m).all fun z => decide (z.1.site = z.2.site)
def sameB (s t : Sy) : Bool := sitesB s.pairs t.pairs && decide (s.w = t.w)
theorem zip_drop {l m : List Pr} {i : Nat} {x y : Pr} (hx : l[i]? = some x) (hy : m[i]? = some y) : (l.zip m).drop i = (x, y) :: (l.zip m).drop (i + 1) := by
  refine drop_cons ?_
  rw [List.getElem?_zip_eq_some]
  exact ⟨hx, hy⟩
set_option maxHeartbeats 8000000 in
theorem same_fc (s t : Sy) (hs : s.pairs.length ≤ 1000) (ht : t.pairs.length ≤ 1000) : FC Tryz.prog ge 17 [.agg s.cl, .agg t.cl] [] (.val (.bool (sameB s t))) [] NoP := by
  have c1 := rwords_fc s hs
  have c2 := rwords_fc t ht
  have c3 := sameI_fc s.w t.w (by unfold Sy.w; rw [List.length_append, prW_len]; simp only [List.length_cons, List.length_nil]; omega) (by unfold Sy.w; rw [List.length_append, prW_len]; simp only [List.length_cons, List.length_nil]; omega)
  unfold sameB
  obtain ⟨u, hu⟩ : ∃ u, u = s.w := ⟨_, rfl⟩
  obtain ⟨v, hv⟩ : ∃ u, u = t.w := ⟨_, rfl⟩
  rw [← hu] at c1 c3 ⊢
  rw [← hv] at c2 c3 ⊢
  obtain ⟨b, hb⟩ : ∃ b, b = decide (u = v) := ⟨_, rfl⟩
  rw [← hb] at c3 ⊢
  clear hb hu hv
  obtain ⟨x1, ⟨x2, x3, x4, x5, x6⟩, x7, x8, x9, l, x11⟩ := s
  obtain ⟨y1, ⟨y2, y3, y4, y5, y6⟩, y7, y8, y9, m, y11⟩ := t
  dsimp only at hs ht
  simp only [Sy.cl] at c1 c2 ⊢
  obtain ⟨R, hR⟩ : ∃ R, R = (sitesB l m && b) := ⟨_, rfl⟩
  rw [← hR]
  refine FC.of_AW tok Tryz.func17 (by kernel_rfl) rfl Tryz.ntmps17 [] rfl rfl rfl ?_; intro w0 X0 Y f0 hI0 hX0
  refine S1 ?_; (repeat (first | refine K4 ?_ | refine L2 ?_ | refine RG.d ?_ | refine S2 ?_))
  refine S1 ?_
  (repeat (first | refine K4 ?_ | refine RG.d ?_ | refine S1 ?_ | refine S2 ?_ | refine S4 ?_))
  refine AW.loopS (fun i : Nat => ⟨put 2 (some (.ptr 0 [] 0)) (put 3 (some (.ptr 1 [] 0)) (put 4 (some (.val (.bool false))) (put 5 (some (i64 (i : Int))) noE))), hput 0 (.one ([i64 x1, i64 x2, i64 x3, i64 x4, i64 x5, i64 x6, i64 x7, i64 x8, i64 x9, rdP l, i64 x11])) (hput 1 (.one ([i64 y1, i64 y2, i64 y3, i64 y4, i64 y5, i64 y6, i64 y7, i64 y8, i64 y9, rdP m, i64 y11])) noH), 2⟩) (fun i => i ≤ l.length ∧ i ≤ m.length ∧ R = (((l.zip m).drop i).all (fun z => decide (z.1.site = z.2.site)) && b)) (fun i => l.length - i) 0 ⟨Nat.zero_le _, Nat.zero_le _, hR⟩ (Sub.of (by repeat (first | exact SubE.no _ | refine SubE.put rfl ?_)) (by repeat (first | exact SubH.no _ | refine SubH.put rfl ?_)) rfl) ?_
  rintro i ⟨hi, hi2, h1⟩
  by_cases k : i < l.length
  · by_cases k2 : i < m.length
    · obtain ⟨x, hx⟩ : ∃ x, l[i]? = some x := ⟨_, List.getElem?_eq_getElem k⟩
      obtain ⟨y, hy⟩ : ∃ y, m[i]? = some y := ⟨_, List.getElem?_eq_getElem k2⟩
      have hatx := flC_at Pr.cl_len l i x hx
      have haty := flC_at Pr.cl_len m i y hy
      rw [zip_drop hx hy, List.all_cons] at h1
      obtain ⟨p1, p2, p3⟩ := x
      obtain ⟨q1, q2, q3⟩ := y
      simp only [Pr.cl, List.cons_append, List.nil_append] at hatx haty
      dsimp only at h1
      refine S1 ?_
      repeat refine S1 ?_
      refine S2 ?_
      iterate 5 ((first | refine K4 ?_ | refine L1 ?_))
      refine RG.put 10 rfl (v' := .val (.bool true)) (by rw [decide_eq_true (show (i : Int) < (l.length : Int) by omega)]) ?_
      iterate 6 ((first | refine K4 ?_ | refine L1 ?_))
      refine RG.put 16 rfl (v' := .val (.bool true)) (by rw [decide_eq_true (show (i : Int) < (m.length : Int) by omega)]) ?_
      (repeat (first | refine K4 ?_ | refine L1 ?_ | refine RG.d ?_ | refine S1 ?_ | refine S2 ?_ | refine S3 ?_ | refine S4 ?_ | refine S7 ?_))
      refine RG.idx tok rfl rfl rfl rfl rfl rfl hatx ⟨by omega, by omega⟩ rfl ?_
      (repeat (first | refine K4 ?_ | refine L1 ?_))
      refine RG.idx tok rfl rfl rfl rfl rfl rfl haty ⟨by omega, by omega⟩ rfl ?_
      (repeat (first | refine K4 ?_ | refine L1 ?_ | refine RG.dd ?_))
      refine AW.condD rfl (fun k3 => ?_) (fun k3 => ?_)
      · have k3 : p3 ≠ q3 := k3
        rw [decide_eq_false k3, Bool.false_and, Bool.false_and] at h1
        subst h1
        (repeat (first | refine K4 ?_ | refine RG.d ?_ | refine S1 ?_ | refine S2 ?_ | refine S6 ?_))
        exact ⟨⟨_, rfl, rfl⟩, rfl, .nil _⟩
      · have k3 : p3 = q3 := Decidable.not_not.1 (show ¬ p3 ≠ q3 from k3)
        rw [decide_eq_true k3, Bool.true_and] at h1
        (repeat (first | refine K2 ?_ | refine K4 ?_ | refine RG.d ?_ | refine S2 ?_ | refine S3 ?_))
        exact ⟨i + 1, ⟨k, k2, h1⟩, by omega, Sub.of (by repeat (first | exact SubE.no _ | refine SubE.put rfl ?_)) (by repeat (first | exact SubH.no _ | refine SubH.put rfl ?_)) rfl⟩
    · have h1 : R = b := by rw [h1, List.drop_eq_nil_of_le (by rw [List.length_zip]; omega)]; exact Bool.true_and b
      subst h1
      refine S1 ?_
      repeat refine S1 ?_
      refine S2 ?_
      iterate 5 ((first | refine K4 ?_ | refine L1 ?_))
      refine RG.put 10 rfl (v' := .val (.bool true)) (by rw [decide_eq_true (show (i : Int) < (l.length : Int) by omega)]) ?_
      iterate 6 ((first | refine K4 ?_ | refine L1 ?_))
      refine RG.put 16 rfl (v' := .val (.bool false)) (by rw [decide_eq_false (show ¬ (i : Int) < (m.length : Int) by omega)]) ?_
      (repeat (first | refine K4 ?_ | refine L1 ?_ | refine RG.d ?_ | refine S1 ?_ | refine S2 ?_ | refine S5 ?_ | refine S8 ?_))
      (repeat (first | refine RG.call rfl rfl rfl rfl (c1) [] rfl rfl rfl rfl (.nil _) (.nil _) (fun _ h => False.elim h) rfl (A.ren_free _ _ rfl) rfl ?_ | refine RG.call rfl rfl rfl rfl (c2) [] rfl rfl rfl rfl (.nil _) (.nil _) (fun _ h => False.elim h) rfl (A.ren_free _ _ rfl) rfl ?_ | refine RG.call rfl rfl rfl rfl (c3) [] rfl rfl rfl rfl (.nil _) (.nil _) (fun _ h => False.elim h) rfl (A.ren_free _ _ rfl) rfl ?_ | refine K4 ?_ | refine L1 ?_ | refine RG.dd ?_))
      (repeat (first | refine S6 ?_))
      exact ⟨⟨_, rfl, rfl⟩, rfl, .nil _⟩
  · have h1 : R = b := by rw [h1, List.drop_eq_nil_of_le (by rw [List.length_zip]; omega)]; exact Bool.true_and b
    subst h1
    refine S1 ?_
    repeat refine S1 ?_
    refine S2 ?_
    iterate 5 ((first | refine K4 ?_ | refine L1 ?_))
    refine RG.put 10 rfl (v' := .val (.bool false)) (by rw [decide_eq_false (show ¬ (i : Int) < (l.length : Int) by omega)]) ?_
    (repeat (first | refine K1 ?_ | refine K4 ?_ | refine L1 ?_ | refine RG.d ?_ | refine S1 ?_ | refine S2 ?_ | refine S5 ?_ | refine S8 ?_))
    (repeat (first | refine RG.call rfl rfl rfl rfl (c1) [] rfl rfl rfl rfl (.nil _) (.nil _) (fun _ h => False.elim h) rfl (A.ren_free _ _ rfl) rfl ?_ | refine RG.call rfl rfl rfl rfl (c2) [] rfl rfl rfl rfl (.nil _) (.nil _) (fun _ h => False.elim h) rfl (A.ren_free _ _ rfl) rfl ?_ | refine RG.call rfl rfl rfl rfl (c3) [] rfl rfl rfl rfl (.nil _) (.nil _) (fun _ h => False.elim h) rfl (A.ren_free _ _ rfl) rfl ?_ | refine K4 ?_ | refine L1 ?_ | refine RG.dd ?_))
    (repeat (first | refine S6 ?_))
    exact ⟨⟨_, rfl, rfl⟩, rfl, .nil _⟩
end Go.Proofs.YtifeioddiddnoaaGreatDoor
namespace Go.Proofs.YtifeioddiddnoaaGreatDoor
open Go.Abs Go Go.RowKit
set_option maxRecDepth 20000
def Pr.bd (x : Pr) : Prop := -4611686018427387904 ≤ x.a ∧ x.a ≤ 4611686018427387903 ∧ -4611686018427387904 ≤ x.b ∧ x.b ≤ 4611686018427387903
theorem has1_fc (x y : Pr) (hx : x.bd) (hy : y.bd) : FC Tryz.prog ge 70 [.agg y.cl, .ptr 0 [] 0] [.one x.cl] (.val (.bool (decide (pcmp x y = 0)))) [.one x.cl] NoP := by
  have c := order_fc x y hx hy
  obtain ⟨r, hr⟩ : ∃ r, r = pcmp x y := ⟨_, rfl⟩
  rw [← hr] at c ⊢
  obtain ⟨x1, x2, x3⟩ := x
  obtain ⟨y1, y2, y3⟩ := y
  simp only [Pr.cl] at c ⊢
  refine FC.of_AW tok Tryz.func70 (by kernel_rfl) rfl Tryz.ntmps70 [] rfl rfl rfl ?_; intro w0 X0 Y f0 hI0 hX0
  (repeat (first | refine RG.call rfl rfl rfl rfl (c) [] rfl rfl rfl rfl (.nil _) (.nil _) (fun _ h => False.elim h) rfl (A.ren_free _ _ rfl) rfl ?_ | refine K4 ?_ | refine L1 ?_ | refine L2 ?_ | refine RG.d ?_ | refine S1 ?_ | refine S2 ?_))
  (repeat (first | refine S6 ?_))
  exact ⟨⟨_, rfl, rfl⟩, rfl, .cons rfl (.one rfl) (Reg.lt_one rfl) ⟨[], _, rfl⟩ (.nil _)⟩
def idxP (x : Pr) : List Pr → Nat → Int
  | [], _ => -1
  | y :: l, i => if pcmp x y = 0 then (i : Int) else idxP x l (i + 1)
set_option maxHeartbeats 4000000 in
theorem idx_fc (l : List Pr) (x : Pr) (hx : x.bd) (hl : l.length ≤ 1000) (hb : ∀ y, y ∈ l → y.bd) : FC Tryz.prog ge 98 [rdP l, .fn 70 [] [.ptr 0 [] 0]] [.one x.cl] (i64 (idxP x l 0)) [.one x.cl] NoP := by
  have cF := fun y (hy : y ∈ l) => has1_fc x y hx (hb y hy)
  obtain ⟨R, hR⟩ : ∃ R, R = idxP x l 0 := ⟨_, rfl⟩
  rw [← hR]
  obtain ⟨x1, x2, x3⟩ := x
  simp only [Pr.cl] at cF ⊢
  refine FC.of_AW tok Tryz.func98 (by kernel_rfl) rfl Tryz.ntmps98 [] rfl rfl rfl ?_; intro w0 X0 Y f0 hI0 hX0
  (repeat (first | refine K4 ?_ | refine RG.d ?_ | refine S1 ?_ | refine S2 ?_ | refine S4 ?_))
  refine AW.loopS (fun i : Nat => ⟨put 0 (some (rdP l)) (put 1 (some (.fn 70 [] [.ptr 0 [] 0])) (put 7 (some (i64 (l.length : Int))) (put 8 (some (i64 (i : Int))) noE))), hput 0 (.one ([i64 x1, i64 x2, i64 x3])) noH, 1⟩) (fun i => i ≤ l.length ∧ R = idxP ⟨x1, x2, x3⟩ (l.drop i) i) (fun i => l.length - i) 0 ⟨Nat.zero_le _, hR⟩ (Sub.of (by repeat (first | exact SubE.no _ | refine SubE.put rfl ?_)) (by repeat (first | exact SubH.no _ | refine SubH.put rfl ?_)) rfl) ?_
  rintro i ⟨hi, h1⟩
  (repeat (first | refine K4 ?_ | refine RG.d ?_ | refine S1 ?_ | refine S2 ?_))
  refine AW.condD rfl (fun k => ?_) (fun k => ?_)
  rotate_left
  · have k : ¬ (i : Int) < (l.length : Int) := k
    rw [List.drop_eq_nil_of_le (by omega)] at h1
    have h1 : R = -1 := h1
    subst h1
    (repeat (first | refine K4 ?_ | refine RG.d ?_ | refine S1 ?_ | refine S2 ?_ | refine S5 ?_ | refine S6 ?_))
    exact ⟨⟨_, rfl, rfl⟩, rfl, .cons rfl (.one rfl) (Reg.lt_one rfl) ⟨[], _, rfl⟩ (.nil _)⟩
  have k : (i : Int) < (l.length : Int) := k
  obtain ⟨y, hy⟩ : ∃ y, l[i]? = some y := ⟨_, List.getElem?_eq_getElem (by omega)⟩
  have hat := flC_at Pr.cl_len l i y hy
  have c := cF y (List.mem_of_getElem? hy)
  rw [drop_cons hy, idxP] at h1
  obtain ⟨y1, y2, y3⟩ := y
  simp only [Pr.cl, List.cons_append, List.nil_append] at hat c
  (repeat (first | refine K4 ?_ | refine RG.d ?_ | refine S1 ?_ | refine S2 ?_ | refine S3 ?_ | refine S4 ?_))
  refine RG.idx tok rfl rfl rfl rfl rfl rfl hat ⟨by omega, by omega⟩ rfl ?_
  (repeat (first | refine L1 ?_))
  refine RG.call rfl rfl rfl rfl (c) [0] rfl rfl rfl rfl (.cons rfl (.one rfl) (Reg.lt_one rfl) ⟨[], _, rfl⟩ (.nil _)) (.cons (.one rfl) (.nil _)) (fun _ h => False.elim h) rfl rfl rfl ?_
  (repeat (first | refine RG.d ?_))
  refine AW.condD rfl (fun k2 => ?_) (fun k2 => ?_)
  · rw [if_pos (show pcmp ⟨x1, x2, x3⟩ ⟨y1, y2, y3⟩ = 0 from k2)] at h1
    subst h1
    (repeat (first | refine K4 ?_ | refine RG.d ?_ | refine S1 ?_ | refine S2 ?_ | refine S6 ?_))
    exact ⟨⟨_, rfl, rfl⟩, rfl, .cons rfl (.one rfl) (Reg.lt_one rfl) ⟨[], _, rfl⟩ (.nil _)⟩
  · rw [if_neg (show ¬ pcmp ⟨x1, x2, x3⟩ ⟨y1, y2, y3⟩ = 0 from k2)] at h1
    (repeat (first | refine K2 ?_ | refine K4 ?_ | refine RG.d ?_ | refine S2 ?_ | refine S3 ?_))
    exact ⟨i + 1, ⟨by omega, h1⟩, by omega, Sub.of (by repeat (first | exact SubE.no _ | refine SubE.put rfl ?_)) (by repeat (first | exact SubH.no _ | refine SubH.put rfl ?_)) rfl⟩
end Go.Proofs.YtifeioddiddnoaaGreatDoor
namespace Go.Proofs.YtifeioddiddnoaaGreatDoor
open Go.Abs Go Go.RowKit
set_option maxRecDepth 20000
set_option maxHeartbeats 4000000 in
theorem cont_fc (l : List Pr) (x : Pr) (hx : x.bd) (hl : l.length ≤ 1000) (hb : ∀ y, y ∈ l → y.bd) : FC Tryz.prog ge 69 [rdP l, .fn 70 [] [.ptr 0 [] 0]] [.one x.cl] (.val (.bool (decide (idxP x l 0 ≥ 0)))) [.one x.cl] NoP := by
  have c := idx_fc l x hx hl hb
  obtain ⟨R, hR⟩ : ∃ R, R = idxP x l 0 := ⟨_, rfl⟩
  rw [← hR] at c ⊢
  obtain ⟨x1, x2, x3⟩ := x
  simp only [Pr.cl] at c ⊢
  refine FC.of_AW tok Tryz.func69 (by kernel_rfl) rfl Tryz.ntmps69 [] rfl rfl rfl ?_; intro w0 X0 Y f0 hI0 hX0
  (repeat (first | refine K4 ?_ | refine RG.d ?_ | refine S1 ?_ | refine S2 ?_))
  refine RG.call rfl rfl rfl rfl (c) [0] rfl rfl rfl rfl (.cons rfl (.one rfl) (Reg.lt_one rfl) ⟨[], _, rfl⟩ (.nil _)) (.cons (.one rfl) (.nil _)) (fun _ h => False.elim h) rfl rfl rfl ?_
  (repeat (first | refine K4 ?_ | refine RG.d ?_ | refine S6 ?_))
  exact ⟨⟨_, rfl, rfl⟩, rfl, .cons rfl (.one rfl) (Reg.lt_one rfl) ⟨[], _, rfl⟩ (.nil _)⟩
def hasP (l : List Pr) (x : Pr) : Bool := decide (idxP x l 0 ≥ 0)
set_option maxHeartbeats 4000000 in
theorem has_fc (l : List Pr) (x : Pr) (hx : x.bd) (hl : l.length ≤ 1000) (hb : ∀ y, y ∈ l → y.bd) : FC Tryz.prog ge 40 [rdP l, .agg x.cl] [] (.val (.bool (hasP l x))) [] NoP := by
  have c := cont_fc l x hx hl hb
  unfold hasP
  obtain ⟨R, hR⟩ : ∃ R, R = decide (idxP x l 0 ≥ 0) := ⟨_, rfl⟩
  rw [← hR] at c ⊢
  obtain ⟨x1, x2, x3⟩ := x
  simp only [Pr.cl] at c ⊢
  refine FC.of_AW tok Tryz.func40 (by kernel_rfl) rfl Tryz.ntmps40 [] rfl rfl rfl ?_; intro w0 X0 Y f0 hI0 hX0
  (repeat (first | refine K4 ?_ | refine L2 ?_ | refine RG.d ?_ | refine S1 ?_ | refine S2 ?_))
  refine RG.call rfl rfl rfl rfl (c) [0] rfl rfl rfl rfl (.cons rfl (.one rfl) (Reg.lt_one rfl) ⟨[], _, rfl⟩ (.nil _)) (.cons (.one rfl) (.nil _)) (fun _ h => False.elim h) rfl rfl rfl ?_
  (repeat (first | refine K4 ?_ | refine RG.d ?_ | refine S6 ?_))
  exact ⟨⟨_, rfl, rfl⟩, rfl, .nil _⟩
end Go.Proofs.YtifeioddiddnoaaGreatDoor
