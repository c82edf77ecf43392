/- The reference's comparisons and sums of fractions. No conditions. -/
import Derived.Test.YtbhahgbdkgjliaaGreatDoorRB9
set_option linter.unusedVariables false
set_option linter.unusedSimpArgs false
namespace Go.Proofs.YtbhahgbdkgjliaaGreatDoor
open Go.Abs Go Go.RowKit
set_option maxRecDepth 100000
open Rb
set_option maxHeartbeats 8000000 in
theorem rcmp_fc (a b : Rat) (ha : Rt.Fit a) (hb : Rt.Fit b) : FC Tryz.prog gi 19 [frQ a, frQ b] [] (i64 (Rt.cmp a b)) [] NoP := by
  have an := ha.num
  have ad := ha.den
  have bn := hb.num
  have bd := hb.den
  have c1 := product_fc b.num (a.den : Int) (by omega) (by omega)
  have c2 := product_fc a.num (b.den : Int) (by omega) (by omega)
  rw [Int.natAbs_natCast] at c1 c2
  have e1 := Rt.val_sgn b.num (a.den : Int)
  have e2 := Rt.val_sgn a.num (b.den : Int)
  rw [Int.natAbs_natCast] at e1 e2
  have m1 : b.num.natAbs * a.den < 85070591730234615865843651857942052864 := mul_bound (by omega) (by omega)
  have m2 : a.num.natAbs * b.den < 85070591730234615865843651857942052864 := mul_bound (by omega) (by omega)
  obtain ⟨s1, hs1⟩ : ∃ s, s = sgn b.num (a.den : Int) := ⟨_, rfl⟩
  obtain ⟨s2, hs2⟩ : ∃ s, s = sgn a.num (b.den : Int) := ⟨_, rfl⟩
  obtain ⟨k1, hk1⟩ : ∃ k, k = b.num.natAbs * a.den := ⟨_, rfl⟩
  obtain ⟨k2, hk2⟩ : ∃ k, k = a.num.natAbs * b.den := ⟨_, rfl⟩
  rw [← hs1, ← hk1] at c1 e1
  rw [← hs2, ← hk2] at c2 e2
  rw [← hk1] at m1
  rw [← hk2] at m2
  have c3 := ssum_fc s2 (!s1) k2 k1 m2 m1
  have e3 := Rt.val_plus s2 (!s1) k2 k1
  have e4 : Rt.val (!s1, k1) = -Rt.val (s1, k1) := by unfold Rt.val; cases s1 <;> simp
  rw [e4, e2, e1] at e3
  obtain ⟨p, hp⟩ : ∃ p, p = wplus s2 k2 (!s1) k1 := ⟨_, rfl⟩
  rw [← hp] at c3 e3
  have hva := Rt.val_abs p
  have hv : Rt.val p = a.num * (b.den : Int) + -(b.num * (a.den : Int)) := e3
  clear hp hs1 hs2 hk1 hk2
  unfold sgP sgB at c3
  unfold sgB at c1 c2
  by_cases he : a = b
  · have hz : p.2 = 0 := by rw [← hva, hv, he]; omega
    rw [show Rt.cmp a b = 0 by rw [he]; exact Rt.cmp_self b]
    rw [hz, bL_zero] at c3
    refine FC.of_AW tok Tryz.func19 (by kernel_rfl) rfl Tryz.ntmps19 [] rfl rfl rfl ?_; intro w0 X0 Y f0 hI0 hX0
    (repeat (first | refine K1 ?_ | refine K2 ?_ | refine K3 ?_ | refine K4 ?_ | refine K5 ?_ | refine K6 ?_ | refine K7 ?_ | refine L1 ?_ | refine L2 ?_ | refine L3 ?_ | refine RG.d ?_ | refine RG.dd ?_ | refine S1 ?_ | refine S2 ?_ | refine S3 ?_ | refine S4 ?_ | refine S5 ?_ | refine S7 ?_ | refine S8 ?_))
    refine RG.call rfl rfl rfl rfl (c2) [] rfl rfl rfl rfl (.nil _) (.nil _) (fun _ h => False.elim h) rfl (A.ren_free _ _ rfl) rfl ?_
    (repeat (first | refine K1 ?_ | refine K2 ?_ | refine K3 ?_ | refine K4 ?_ | refine K5 ?_ | refine K6 ?_ | refine K7 ?_ | refine L1 ?_ | refine L2 ?_ | refine L3 ?_ | refine RG.d ?_ | refine RG.dd ?_ | refine S1 ?_ | refine S2 ?_ | refine S3 ?_ | refine S4 ?_ | refine S5 ?_ | refine S7 ?_ | refine S8 ?_))
    refine RG.call rfl rfl rfl rfl (c1) [] rfl rfl rfl rfl (.nil _) (.nil _) (fun _ h => False.elim h) rfl (A.ren_free _ _ rfl) rfl ?_
    (repeat (first | refine K1 ?_ | refine K2 ?_ | refine K3 ?_ | refine K4 ?_ | refine K5 ?_ | refine K6 ?_ | refine K7 ?_ | refine L1 ?_ | refine L2 ?_ | refine L3 ?_ | refine RG.d ?_ | refine RG.dd ?_ | refine S1 ?_ | refine S2 ?_ | refine S3 ?_ | refine S4 ?_ | refine S5 ?_ | refine S7 ?_ | refine S8 ?_))
    refine RG.call rfl rfl rfl rfl (c3) [] rfl rfl rfl rfl (.nil _) (.nil _) (fun _ h => False.elim h) rfl (A.ren_free _ _ rfl) rfl ?_
    (repeat (first | refine K1 ?_ | refine K2 ?_ | refine K3 ?_ | refine K4 ?_ | refine K5 ?_ | refine K6 ?_ | refine K7 ?_ | refine L1 ?_ | refine L2 ?_ | refine L3 ?_ | refine RG.d ?_ | refine RG.dd ?_ | refine S1 ?_ | refine S2 ?_ | refine S3 ?_ | refine S4 ?_ | refine S5 ?_ | refine S6 ?_ | refine S7 ?_ | refine S8 ?_))
    exact ⟨⟨_, rfl, rfl⟩, rfl, .nil _⟩
  have hne : a.num * (b.den : Int) ≠ b.num * (a.den : Int) := fun h => he (Rat.eq_iff_mul_eq_mul.2 h)
  have hz : p.2 ≠ 0 := fun h => by
    rw [h] at hva
    omega
  have hl0 : ¬ ((bL p.2).length : Int) = 0 := fun h => hz (bL_nil.1 (by omega))
  have hlt : a < b ↔ p.1 = true := by
    rw [Rat.lt_iff]
    unfold Rt.val at hv
    obtain ⟨q1, q2⟩ := p
    dsimp only at hv ⊢
    cases q1
    · rw [if_neg (by decide)] at hv
      constructor
      · intro h; omega
      · intro h; cases h
    · rw [if_pos rfl] at hv
      constructor
      · intro _; rfl
      · intro _; omega
  have hcmp : Rt.cmp a b = if p.1 = true then -1 else 1 := by
    unfold Rt.cmp
    rw [if_neg he]
    by_cases h : a < b
    · rw [if_pos h, if_pos (hlt.1 h)]
    · rw [if_neg h, if_neg (fun h2 => h (hlt.2 h2))]
  rw [hcmp]
  clear hcmp hlt hv hva e3
  obtain ⟨P, hP⟩ : ∃ P, P = bL p.2 := ⟨_, rfl⟩
  rw [← hP] at c3 hl0
  obtain ⟨q, hq⟩ : ∃ q, q = p.1 := ⟨_, rfl⟩
  rw [← hq] at c3 ⊢
  refine FC.of_AW tok Tryz.func19 (by kernel_rfl) rfl Tryz.ntmps19 [] rfl rfl rfl ?_; intro w0 X0 Y f0 hI0 hX0
  (repeat (first | refine K1 ?_ | refine K2 ?_ | refine K3 ?_ | refine K4 ?_ | refine K5 ?_ | refine K6 ?_ | refine K7 ?_ | refine L1 ?_ | refine L2 ?_ | refine L3 ?_ | refine RG.d ?_ | refine RG.dd ?_ | refine S1 ?_ | refine S2 ?_ | refine S3 ?_ | refine S4 ?_ | refine S5 ?_ | refine S7 ?_ | refine S8 ?_))
  refine RG.call rfl rfl rfl rfl (c2) [] rfl rfl rfl rfl (.nil _) (.nil _) (fun _ h => False.elim h) rfl (A.ren_free _ _ rfl) rfl ?_
  (repeat (first | refine K1 ?_ | refine K2 ?_ | refine K3 ?_ | refine K4 ?_ | refine K5 ?_ | refine K6 ?_ | refine K7 ?_ | refine L1 ?_ | refine L2 ?_ | refine L3 ?_ | refine RG.d ?_ | refine RG.dd ?_ | refine S1 ?_ | refine S2 ?_ | refine S3 ?_ | refine S4 ?_ | refine S5 ?_ | refine S7 ?_ | refine S8 ?_))
  refine RG.call rfl rfl rfl rfl (c1) [] rfl rfl rfl rfl (.nil _) (.nil _) (fun _ h => False.elim h) rfl (A.ren_free _ _ rfl) rfl ?_
  (repeat (first | refine K1 ?_ | refine K2 ?_ | refine K3 ?_ | refine K4 ?_ | refine K5 ?_ | refine K6 ?_ | refine K7 ?_ | refine L1 ?_ | refine L2 ?_ | refine L3 ?_ | refine RG.d ?_ | refine RG.dd ?_ | refine S1 ?_ | refine S2 ?_ | refine S3 ?_ | refine S4 ?_ | refine S5 ?_ | refine S7 ?_ | refine S8 ?_))
  refine RG.call rfl rfl rfl rfl (c3) [] rfl rfl rfl rfl (.nil _) (.nil _) (fun _ h => False.elim h) rfl (A.ren_free _ _ rfl) rfl ?_
  (repeat (first | refine K1 ?_ | refine K2 ?_ | refine K3 ?_ | refine K4 ?_ | refine K5 ?_ | refine K6 ?_ | refine K7 ?_ | refine L1 ?_ | refine L2 ?_ | refine L3 ?_ | refine RG.d ?_ | refine RG.dd ?_ | refine S1 ?_ | refine S2 ?_ | refine S3 ?_ | refine S4 ?_ | refine S5 ?_ | refine S7 ?_ | refine S8 ?_))
  refine AW.condD rfl (fun k => absurd k hl0) (fun _ => ?_)
  cases q with
  | true =>
    rw [if_pos rfl]
    (repeat (first | refine K1 ?_ | refine K2 ?_ | refine K3 ?_ | refine K4 ?_ | refine K5 ?_ | refine K6 ?_ | refine K7 ?_ | refine L1 ?_ | refine L2 ?_ | refine L3 ?_ | refine RG.d ?_ | refine RG.dd ?_ | refine S1 ?_ | refine S2 ?_ | refine S3 ?_ | refine S4 ?_ | refine S5 ?_ | refine S6 ?_ | refine S7 ?_ | refine S8 ?_))
    exact ⟨⟨_, rfl, rfl⟩, rfl, .nil _⟩
  | false =>
    rw [if_neg (by decide)]
    (repeat (first | refine K1 ?_ | refine K2 ?_ | refine K3 ?_ | refine K4 ?_ | refine K5 ?_ | refine K6 ?_ | refine K7 ?_ | refine L1 ?_ | refine L2 ?_ | refine L3 ?_ | refine RG.d ?_ | refine RG.dd ?_ | refine S1 ?_ | refine S2 ?_ | refine S3 ?_ | refine S4 ?_ | refine S5 ?_ | refine S6 ?_ | refine S7 ?_ | refine S8 ?_))
    exact ⟨⟨_, rfl, rfl⟩, rfl, .nil _⟩
set_option maxHeartbeats 8000000 in
theorem rsum_fc (l : List Rat) (hl : ∀ x, x ∈ l → Rt.Fit x) (hlen : l.length ≤ 1000) : FC Tryz.prog gi 21 [.ro l.length (frL l)] [] (lawA (Rt.sumF 0 l)) [] NoP := by
  have fz : Rt.Fit (0 : Rat) := by decide
  obtain ⟨R, hR⟩ : ∃ R, R = Rt.sumF 0 l := ⟨_, rfl⟩
  rw [← hR]
  refine FC.of_AW tok Tryz.func21 (by kernel_rfl) rfl Tryz.ntmps21 [] rfl rfl rfl ?_; intro w0 X0 Y f0 hI0 hX0
  (repeat (first | refine K1 ?_ | refine K2 ?_ | refine K3 ?_ | refine K4 ?_ | refine K5 ?_ | refine K6 ?_ | refine K7 ?_ | refine L1 ?_ | refine L2 ?_ | refine L3 ?_ | refine RG.d ?_ | refine RG.dd ?_ | refine S1 ?_ | refine S2 ?_ | refine S3 ?_ | refine S4 ?_ | refine S5 ?_ | refine S7 ?_ | refine S8 ?_))
  refine AW.loopS (fun p : Nat × Rat => ⟨put 0 (some (.ro l.length (frL l))) (put 2 (some (.ptr 0 [] 0)) (put 3 (some (.ptr 1 [] 0)) (put 4 (some (i64 (p.1 : Int))) noE))), hput 0 (.one ([i64 0, i64 0, i64 0])) (hput 1 (.one ([i64 p.2.num, i64 (p.2.den : Int), i64 0])) noH), 2⟩)
    (fun p => p.1 ≤ l.length ∧ Rt.Fit p.2 ∧ Rt.sumF p.2 (l.drop p.1) = R) (fun p => l.length - p.1) (0, 0) ⟨Nat.zero_le _, fz, hR.symm⟩ (Sub.of (by repeat (first | exact SubE.no _ | refine SubE.put rfl ?_)) (by repeat (first | exact SubH.no _ | refine SubH.put rfl ?_)) rfl) ?_
  rintro ⟨i, q⟩ ⟨hp1, hp2, hp3⟩
  dsimp only at hp1 hp2 hp3
  (repeat (first | refine K1 ?_ | refine K2 ?_ | refine K3 ?_ | refine K4 ?_ | refine K5 ?_ | refine K6 ?_ | refine K7 ?_ | refine L1 ?_ | refine L2 ?_ | refine L3 ?_ | refine RG.d ?_ | refine RG.dd ?_ | refine S1 ?_ | refine S2 ?_ | refine S3 ?_ | refine S4 ?_ | refine S5 ?_ | refine S7 ?_ | refine S8 ?_))
  refine AW.condD rfl (fun k => ?_) (fun k => ?_)
  rotate_left
  · have hi : i = l.length := by
      have : ¬ (i : Int) < (l.length : Int) := k
      omega
    rw [hi, List.drop_length, Rt.sumF] at hp3
    subst hp3
    (repeat (first | refine K1 ?_ | refine K2 ?_ | refine K3 ?_ | refine K4 ?_ | refine K5 ?_ | refine K6 ?_ | refine K7 ?_ | refine L1 ?_ | refine L2 ?_ | refine L3 ?_ | refine RG.d ?_ | refine RG.dd ?_ | refine S1 ?_ | refine S2 ?_ | refine S3 ?_ | refine S4 ?_ | refine S5 ?_ | refine S6 ?_ | refine S7 ?_ | refine S8 ?_))
    exact ⟨⟨_, rfl, rfl⟩, rfl, .nil _⟩
  have hi : i < l.length := by
    have : (i : Int) < (l.length : Int) := k
    omega
  have hx : Rt.Fit (l.getD i 0) := by
    rw [List.getD_eq_getElem?_getD, List.getElem?_eq_getElem hi]; exact hl _ (List.getElem_mem hi)
  have hd : l.drop i = l.getD i 0 :: l.drop (i + 1) := by
    rw [List.drop_eq_getElem_cons hi, List.getD_eq_getElem?_getD, List.getElem?_eq_getElem hi]; rfl
  rw [hd] at hp3
  have c := radd_fc q (l.getD i 0) hp2 hx
  have hat := frL_at l i hi
  (repeat (first | refine K1 ?_ | refine K2 ?_ | refine K3 ?_ | refine K4 ?_ | refine K5 ?_ | refine K6 ?_ | refine K7 ?_ | refine L1 ?_ | refine L2 ?_ | refine L3 ?_ | refine RG.d ?_ | refine RG.dd ?_ | refine S1 ?_ | refine S2 ?_ | refine S3 ?_ | refine S4 ?_ | refine S5 ?_ | refine S7 ?_ | refine S8 ?_))
  refine RG.idx tok rfl rfl rfl rfl rfl rfl hat ⟨by omega, by omega⟩ rfl ?_
  (repeat (first | refine K1 ?_ | refine K2 ?_ | refine K3 ?_ | refine K4 ?_ | refine K5 ?_ | refine K6 ?_ | refine K7 ?_ | refine L1 ?_ | refine L2 ?_ | refine L3 ?_ | refine RG.d ?_ | refine RG.dd ?_ | refine S1 ?_ | refine S2 ?_ | refine S3 ?_ | refine S4 ?_ | refine S5 ?_ | refine S7 ?_ | refine S8 ?_))
  by_cases hf : Rt.Fit (q + l.getD i 0)
  · rw [Rt.sumF, if_pos hf] at hp3
    rw [Rt.res, if_pos hf] at c
    refine RG.call rfl rfl rfl rfl (c) [] rfl rfl rfl rfl (.nil _) (.nil _) (fun _ h => False.elim h) rfl (A.ren_free _ _ rfl) rfl ?_
    (repeat (first | refine K1 ?_ | refine K2 ?_ | refine K3 ?_ | refine K4 ?_ | refine K5 ?_ | refine K6 ?_ | refine K7 ?_ | refine L1 ?_ | refine L2 ?_ | refine L3 ?_ | refine RG.d ?_ | refine RG.dd ?_ | refine S1 ?_ | refine S2 ?_ | refine S3 ?_ | refine S4 ?_ | refine S5 ?_ | refine S7 ?_ | refine S8 ?_))
    exact ⟨(i + 1, q + l.getD i 0), ⟨by dsimp only; omega, hf, hp3⟩, by dsimp only; omega, Sub.down (by repeat (first | exact SubE.no _ | refine SubE.put rfl ?_)) (by repeat (first | exact SubH.no _ | refine SubH.put rfl ?_)) (by repeat (first | exact LtE.no _ | refine LtE.put rfl ?_)) (by repeat (first | exact LtH.no _ | refine LtH.put rfl rfl ?_)) rfl⟩
  · rw [Rt.sumF, if_neg hf] at hp3
    rw [Rt.res, if_neg hf] at c
    subst hp3
    refine RG.call rfl rfl rfl rfl (c) [] rfl rfl rfl rfl (.nil _) (.nil _) (fun _ h => False.elim h) rfl (A.ren_free _ _ rfl) rfl ?_
    (repeat (first | refine K1 ?_ | refine K2 ?_ | refine K3 ?_ | refine K4 ?_ | refine K5 ?_ | refine K6 ?_ | refine K7 ?_ | refine L1 ?_ | refine L2 ?_ | refine L3 ?_ | refine RG.d ?_ | refine RG.dd ?_ | refine S1 ?_ | refine S2 ?_ | refine S3 ?_ | refine S4 ?_ | refine S5 ?_ | refine S6 ?_ | refine S7 ?_ | refine S8 ?_))
    exact ⟨⟨_, rfl, rfl⟩, rfl, .nil _⟩
end Go.Proofs.YtbhahgbdkgjliaaGreatDoor
