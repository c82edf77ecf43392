/- The maker of programs: sites, expressions, conditions. No conditions. -/
import Derived.Test.YtifeioddiddnoaaGreatDoorEc36
import Derived.Test.YtifeioddiddnoaaGreatDoorAbsE
set_option linter.unusedVariables false
set_option linter.unusedSimpArgs false
namespace Go.Proofs.YtifeioddiddnoaaGreatDoor
open Go.Abs Go Go.RowKit
set_option maxRecDepth 20000
theorem site_fc (E : Ev) (s : Ms) (hs : s.t ≤ 2000000) : FC Tryz.prog ge 108 [.ptr 0 [] 0] [.one (mC E s), .one (hsC E), .one (dsC E)] (i64 ((gS s).1 : Int)) [.one (mC E (gS s).2), .one (hsC E), .one (dsC E)] NoP := by
  obtain ⟨L, hs0, ds, D⟩ := E
  obtain ⟨a, site, left, loop, done⟩ := s
  have ha : site ≤ 2000000 := by have : a + site ≤ 2000000 := hs; omega
  clear hs
  dsimp only [mC, mX, gS]
  refine FC.of_AW tok Tryz.func108 (by kernel_rfl) rfl Tryz.ntmps108 [] rfl rfl rfl ?_; intro w0 X0 Y f0 hI0 hX0
  (repeat (first | refine K2 ?_ | refine K4 ?_ | refine L1 ?_ | refine L3 ?_ | refine RG.d ?_ | refine S1 ?_ | refine S2 ?_ | refine S6 ?_))
  exact ⟨⟨_, rfl, rfl⟩, rfl, .cons rfl (.one rfl) (Reg.lt_one rfl) ⟨[], _, rfl⟩ (.one rfl (hsC_free _) (.one rfl (dsC_free _) (.nil _)))⟩
theorem target_fc (E : Ev) (ok : E.ok) (s : Ms) (hs : s.t ≤ 2000000) : FC Tryz.prog ge 151 [.ptr 0 [] 0] [.one (mC E s), .one (hsC E), .one (dsC E)] (i64 ((gT E s).1 : Int)) [.one (mC E (gT E s).2), .one (hsC E), .one (dsC E)] NoP := by
  have hv := ok.vars
  obtain ⟨m, hm⟩ : ∃ m, m = E.D.vars.toNat - E.D.params.length := ⟨_, rfl⟩
  have c := gn_fc E ok.L ok.Ll m (by omega) (by omega) s hs
  have hl := gN_lt (E := E) (n := m) s (by omega)
  unfold gT
  rw [← hm]
  obtain ⟨⟨v, s1⟩, h1⟩ : ∃ q, q = gN E m s := ⟨_, rfl⟩
  rw [← h1] at c hl ⊢
  dsimp only at c hl ⊢
  clear h1
  have em : E.D.vars - (E.D.params.length : Int) = (m : Int) := by omega
  refine FC.of_AW tok Tryz.func151 (by kernel_rfl) rfl Tryz.ntmps151 [] rfl rfl rfl ?_; intro w0 X0 Y f0 hI0 hX0
  (repeat (first | refine L4 ?_ | refine K2 ?_ | refine K4 ?_ | refine RG.d ?_ | refine S1 ?_ | refine S2 ?_))
  refine RG.put 21 rfl (v' := i64 (m : Int)) (by rw [em]) ?_
  (repeat (first | refine KM c ?_ | refine RG.dS ?_ | refine K2 ?_ | refine K4 ?_))
  (repeat (first | refine S6 ?_))
  exact ⟨⟨_, rfl, rfl⟩, rfl, .cons rfl (.one rfl) (Reg.lt_one rfl) ⟨[], _, rfl⟩ (.one rfl (hsC_free _) (.one rfl (dsC_free _) (.nil _)))⟩
theorem Ex.agg_free (x : Ex) : (A.agg x.cl).lt 0 = true := by simp only [A.lt]; exact Ex.cl_free x
theorem Co.agg_free (x : Co) : (A.agg x.cl).lt 0 = true := by simp only [A.lt]; exact Co.cl_free x
set_option maxHeartbeats 8000000 in
theorem expr_fc (E : Ev) (ok : E.ok) : ∀ (d : Nat) (s : Ms), d ≤ 1000 → s.t + eT d ≤ 2000000 → FC Tryz.prog ge 153 [.ptr 0 [] 0, i64 (d : Int)] [.one (mC E s), .one (hsC E), .one (dsC E)] ((.agg (gE E d s).1.cl)) [.one (mC E (gE E d s).2), .one (hsC E), .one (dsC E)] NoP
  | 0, s, hd, hs => by
    simp only [eT] at hs
    unfold gE
    dsimp only
    have l1 := gN_lt (E := E) (n := 12) s (by decide)
    have c1 := gn_fc E ok.L ok.Ll 12 (by decide) (by decide) s (by omega)
    have t1 := gN_ct (E := E) 12 s
    obtain ⟨q1, h1⟩ : ∃ q, q = gN E 12 s := ⟨_, rfl⟩
    rw [← h1] at c1 t1 l1 ⊢
    obtain ⟨v1, s1⟩ := q1
    dsimp only at c1 t1 l1 ⊢
    clear h1
    have l2 := gN_lt (E := E) (n := 14) s1 (by decide)
    have c2 := gn_fc E ok.L ok.Ll 14 (by decide) (by decide) s1 (by have := t1.t; omega)
    have t2 := gN_ct (E := E) 14 s1
    obtain ⟨q2, h2⟩ : ∃ q, q = gN E 14 s1 := ⟨_, rfl⟩
    rw [← h2] at c2 t2 l2 ⊢
    obtain ⟨v2, s2⟩ := q2
    dsimp only at c2 t2 l2 ⊢
    clear h2
    refine FC.of_AW tok Tryz.func153 (by kernel_rfl) rfl Tryz.ntmps153 [] rfl rfl rfl ?_; intro w0 X0 Y f0 hI0 hX0
    (repeat (first | refine KM c1 ?_ | refine K4 ?_ | refine L2 ?_ | refine RG.d ?_ | refine S1 ?_ | refine S2 ?_))
    by_cases hk : v1 < 4
    · refine RG.put 12 rfl (v' := .val (.bool true)) (by rw [decide_eq_true (show (v1 : Int) < 4 by omega)]) ?_
      (repeat (first | refine KM c2 ?_ | refine RG.call rfl rfl rfl rfl (num_fc _) [] rfl rfl rfl rfl (.nil _) (.nil _) (fun _ h => False.elim h) rfl (A.ren_free _ _ (by first | exact rfl | exact Ex.agg_free _ | exact Co.agg_free _)) rfl ?_ | refine K1 ?_ | refine K2 ?_ | refine K4 ?_ | refine L3 ?_ | refine RG.d ?_ | refine S1 ?_ | refine S2 ?_ | refine S7 ?_))
      (repeat (first | refine S6 ?_))
      exact ⟨⟨_, rfl, rfl⟩, rfl, .cons rfl (.one rfl) (Reg.lt_one rfl) ⟨[], _, rfl⟩ (.one rfl (hsC_free _) (.one rfl (dsC_free _) (.nil _)))⟩
    · refine RG.put 12 rfl (v' := .val (.bool false)) (by rw [decide_eq_false (show ¬ (v1 : Int) < 4 by omega)]) ?_
      (repeat (first | refine KM c2 ?_ | refine RG.call rfl rfl rfl rfl (num_fc _) [] rfl rfl rfl rfl (.nil _) (.nil _) (fun _ h => False.elim h) rfl (A.ren_free _ _ (by first | exact rfl | exact Ex.agg_free _ | exact Co.agg_free _)) rfl ?_ | refine K2 ?_ | refine K4 ?_ | refine L3 ?_ | refine RG.d ?_ | refine S1 ?_ | refine S2 ?_ | refine S7 ?_))
      (repeat (first | refine S6 ?_))
      exact ⟨⟨_, rfl, rfl⟩, rfl, .cons rfl (.one rfl) (Reg.lt_one rfl) ⟨[], _, rfl⟩ (.one rfl (hsC_free _) (.one rfl (dsC_free _) (.nil _)))⟩
  | d + 1, s, hd, hs => by
    have hge := eT_ge d
    simp only [eT] at hs
    unfold gE
    dsimp only
    have l1 := gN_lt (E := E) (n := 12) s (by decide)
    have c1 := gn_fc E ok.L ok.Ll 12 (by decide) (by decide) s (by omega)
    have t1 := gN_ct (E := E) 12 s
    obtain ⟨q1, h1⟩ : ∃ q, q = gN E 12 s := ⟨_, rfl⟩
    rw [← h1] at c1 t1 l1 ⊢
    obtain ⟨v1, s1⟩ := q1
    dsimp only at c1 t1 l1 ⊢
    clear h1
    by_cases hk : v1 < 4
    · rw [if_pos hk]
      have l2 := gN_lt (E := E) (n := 14) s1 (by decide)
      have c2 := gn_fc E ok.L ok.Ll 14 (by decide) (by decide) s1 (by have := t1.t; omega)
      have t2 := gN_ct (E := E) 14 s1
      obtain ⟨q2, h2⟩ : ∃ q, q = gN E 14 s1 := ⟨_, rfl⟩
      rw [← h2] at c2 t2 l2 ⊢
      obtain ⟨v2, s2⟩ := q2
      dsimp only at c2 t2 l2 ⊢
      clear h2
      refine FC.of_AW tok Tryz.func153 (by kernel_rfl) rfl Tryz.ntmps153 [] rfl rfl rfl ?_; intro w0 X0 Y f0 hI0 hX0
      (repeat (first | refine KM c1 ?_ | refine K4 ?_ | refine L2 ?_ | refine RG.d ?_ | refine S1 ?_ | refine S2 ?_))
      refine RG.put 12 rfl (v' := .val (.bool true)) (by rw [decide_eq_true (show (v1 : Int) < 4 by omega)]) ?_
      (repeat (first | refine KM c2 ?_ | refine RG.call rfl rfl rfl rfl (num_fc _) [] rfl rfl rfl rfl (.nil _) (.nil _) (fun _ h => False.elim h) rfl (A.ren_free _ _ (by first | exact rfl | exact Ex.agg_free _ | exact Co.agg_free _)) rfl ?_ | refine K1 ?_ | refine K2 ?_ | refine K4 ?_ | refine L3 ?_ | refine RG.d ?_ | refine S1 ?_ | refine S2 ?_ | refine S7 ?_))
      (repeat (first | refine S6 ?_))
      exact ⟨⟨_, rfl, rfl⟩, rfl, .cons rfl (.one rfl) (Reg.lt_one rfl) ⟨[], _, rfl⟩ (.one rfl (hsC_free _) (.one rfl (dsC_free _) (.nil _)))⟩
    rw [if_neg hk]
    by_cases h9 : v1 < 9
    · rw [if_pos h9]
      have hv := ok.vars
      obtain ⟨m, hm⟩ : ∃ m, m = E.D.vars.toNat := ⟨_, rfl⟩
      rw [← hm]
      have c2 := gn_fc E ok.L ok.Ll m (by omega) (by omega) s1 (by have := t1.t; omega)
      have t2 := gN_ct (E := E) m s1
      obtain ⟨q2, h2⟩ : ∃ q, q = gN E m s1 := ⟨_, rfl⟩
      rw [← h2] at c2 t2  ⊢
      obtain ⟨v2, s2⟩ := q2
      dsimp only at c2 t2  ⊢
      clear h2
      refine FC.of_AW tok Tryz.func153 (by kernel_rfl) rfl Tryz.ntmps153 [] rfl rfl rfl ?_; intro w0 X0 Y f0 hI0 hX0
      (repeat (first | refine KM c1 ?_ | refine K4 ?_ | refine L2 ?_ | refine RG.d ?_ | refine S1 ?_ | refine S2 ?_))
      refine RG.put 12 rfl (v' := .val (.bool false)) (by rw [decide_eq_false (show ¬ (v1 : Int) < 4 by omega)]) ?_
      (repeat (first | refine K4 ?_ | refine RG.d ?_ | refine S1 ?_ | refine S2 ?_ | refine S3 ?_ | refine S8 ?_))
      refine AW.condD rfl (fun _ => ?_) (fun k => absurd (show (v1 : Int) < 9 by omega) k)
      (repeat (first | refine K4 ?_ | refine L1 ?_ | refine S1 ?_ | refine S2 ?_))
      refine RG.put 27 rfl (v' := i64 (m : Int)) (by rw [show E.D.vars = (m : Int) by omega]) ?_
      (repeat (first | refine KM c2 ?_ | refine RG.call rfl rfl rfl rfl (var_fc _) [] rfl rfl rfl rfl (.nil _) (.nil _) (fun _ h => False.elim h) rfl (A.ren_free _ _ (by first | exact rfl | exact Ex.agg_free _ | exact Co.agg_free _)) rfl ?_ | refine L3 ?_ | refine RG.d ?_))
      (repeat (first | refine S6 ?_))
      exact ⟨⟨_, rfl, rfl⟩, rfl, .cons rfl (.one rfl) (Reg.lt_one rfl) ⟨[], _, rfl⟩ (.one rfl (hsC_free _) (.one rfl (dsC_free _) (.nil _)))⟩
    rw [if_neg h9]
    by_cases h10 : v1 = 9
    · rw [if_pos h10]
      have hv := ok.arr
      have c2 := gn_fc E ok.L ok.Ll E.D.arrays.length (by omega) (by omega) s1 (by have := t1.t; omega)
      have t2 := gN_ct (E := E) E.D.arrays.length s1
      obtain ⟨q2, h2⟩ : ∃ q, q = gN E E.D.arrays.length s1 := ⟨_, rfl⟩
      rw [← h2] at c2 t2  ⊢
      obtain ⟨v2, s2⟩ := q2
      dsimp only at c2 t2  ⊢
      clear h2
      refine rWk (r := .agg [i64 3, i64 (v2 : Int), i64 0, nilA]) ?_ (Wk.agg (by repeat (first | exact WkL.nil | refine WkL.cons (Wk.refl _) ?_ | refine WkL.cons Wk.nil ?_)))
      refine FC.of_AW tok Tryz.func153 (by kernel_rfl) rfl Tryz.ntmps153 [] rfl rfl rfl ?_; intro w0 X0 Y f0 hI0 hX0
      (repeat (first | refine KM c1 ?_ | refine K4 ?_ | refine L2 ?_ | refine RG.d ?_ | refine S1 ?_ | refine S2 ?_))
      refine RG.put 12 rfl (v' := .val (.bool false)) (by rw [decide_eq_false (show ¬ (v1 : Int) < 4 by omega)]) ?_
      (repeat (first | refine K4 ?_ | refine RG.d ?_ | refine S1 ?_ | refine S2 ?_ | refine S3 ?_ | refine S8 ?_))
      refine AW.condD rfl (fun k => absurd k (by omega)) (fun _ => ?_)
      (repeat (first | refine K4 ?_ | refine S1 ?_ | refine S2 ?_ | refine S3 ?_))
      refine RG.put 32 rfl (v' := .val (.bool true)) (by rw [decide_eq_true (show (v1 : Int) = 9 by omega)]) ?_
      (repeat (first | refine K4 ?_ | refine L1 ?_ | refine RG.d ?_))
      refine AW.condD rfl (fun _ => ?_) (fun k => absurd (show (E.D.arrays.length : Int) > 0 by omega) k)
      (repeat (first | refine KM c2 ?_ | refine K4 ?_ | refine L1 ?_ | refine L3 ?_ | refine RG.d ?_ | refine S1 ?_ | refine S2 ?_))
      (repeat (first | refine S6 ?_))
      exact ⟨⟨_, rfl, rfl⟩, rfl, .cons rfl (.one rfl) (Reg.lt_one rfl) ⟨[], _, rfl⟩ (.one rfl (hsC_free _) (.one rfl (dsC_free _) (.nil _)))⟩
    · rw [if_neg h10]
      have l2 := gN_lt (E := E) (n := 7) s1 (by decide)
      have c2 := gn_fc E ok.L ok.Ll 7 (by decide) (by decide) s1 (by have := t1.t; omega)
      have t2 := gN_ct (E := E) 7 s1
      obtain ⟨q2, h2⟩ : ∃ q, q = gN E 7 s1 := ⟨_, rfl⟩
      rw [← h2] at c2 t2 l2 ⊢
      obtain ⟨v2, s2⟩ := q2
      dsimp only at c2 t2 l2 ⊢
      clear h2
      have c3 := expr_fc E ok d s2 (by omega) (by have := t1.t; have := t2.t; omega)
      have t3 := gE_ct (E := E) d s2
      obtain ⟨q3, h3⟩ : ∃ q, q = gE E d s2 := ⟨_, rfl⟩
      rw [← h3] at c3 t3  ⊢
      obtain ⟨⟨a1, a2, a3, a4⟩, s3⟩ := q3
      dsimp only at c3 t3  ⊢
      clear h3
      have c4 := expr_fc E ok d s3 (by omega) (by have := t1.t; have := t2.t; have := t3.t; omega)
      have t4 := gE_ct (E := E) d s3
      obtain ⟨q4, h4⟩ : ∃ q, q = gE E d s3 := ⟨_, rfl⟩
      rw [← h4] at c4 t4  ⊢
      obtain ⟨⟨b1, b2, b3, b4⟩, s4⟩ := q4
      dsimp only at c4 t4  ⊢
      clear h4
      refine FC.of_AW tok Tryz.func153 (by kernel_rfl) rfl Tryz.ntmps153 [] rfl rfl rfl ?_; intro w0 X0 Y f0 hI0 hX0
      (repeat (first | refine KM c1 ?_ | refine K4 ?_ | refine L2 ?_ | refine RG.d ?_ | refine S1 ?_ | refine S2 ?_))
      refine RG.put 12 rfl (v' := .val (.bool false)) (by rw [decide_eq_false (show ¬ (v1 : Int) < 4 by omega)]) ?_
      (repeat (first | refine K4 ?_ | refine RG.d ?_ | refine S1 ?_ | refine S2 ?_ | refine S3 ?_ | refine S8 ?_))
      refine AW.condD rfl (fun k => absurd k (by omega)) (fun _ => ?_)
      (repeat (first | refine K4 ?_ | refine S1 ?_ | refine S2 ?_ | refine S3 ?_))
      refine RG.put 32 rfl (v' := .val (.bool false)) (by rw [decide_eq_false (show ¬ (v1 : Int) = 9 by omega)]) ?_
      (repeat (first | refine KM c2 ?_ | refine K1 ?_ | refine K2 ?_ | refine K4 ?_ | refine RG.d ?_ | refine S1 ?_ | refine S2 ?_ | refine S3 ?_ | refine S8 ?_))
      refine RG.put 55 rfl (v' := i64 (d : Int)) (by rw [show ((d + 1 : Nat) : Int) - 1 = (d : Int) by omega]) ?_
      (repeat (first | refine KM c3 ?_ | refine K2 ?_ | refine K4 ?_ | refine L1 ?_ | refine L2 ?_ | refine L3 ?_ | refine RG.d ?_ | refine S1 ?_ | refine S2 ?_))
      refine RG.put 61 rfl (v' := i64 (d : Int)) (by rw [show ((d + 1 : Nat) : Int) - 1 = (d : Int) by omega]) ?_
      (repeat (first | refine KM c4 ?_ | refine RG.call rfl rfl rfl rfl (bin_fc _ (.mk a1 a2 a3 a4) (.mk b1 b2 b3 b4)) [] rfl rfl rfl rfl (.nil _) (.nil _) (fun _ h => False.elim h) rfl (A.ren_free _ _ (by first | exact rfl | exact Ex.agg_free _ | exact Co.agg_free _)) rfl ?_ | refine L3 ?_ | refine RG.dd ?_))
      (repeat (first | refine S6 ?_))
      exact ⟨⟨_, rfl, rfl⟩, rfl, .cons rfl (.one rfl) (Reg.lt_one rfl) ⟨[], _, rfl⟩ (.one rfl (hsC_free _) (.one rfl (dsC_free _) (.nil _)))⟩
theorem ctest_fc (E : Ev) (ok : E.ok) (d : Nat) (s : Ms) (hs : s.t + 13 ≤ 2000000) (h : (gN E 8 s).1 < 6 ∨ d = 0) : FC Tryz.prog ge 150 [.ptr 0 [] 0, i64 (d : Int)] [.one (mC E s), .one (hsC E), .one (dsC E)] ((.agg (gTest E (gN E 8 s).1 (gN E 8 s).2).1.cl)) [.one (mC E (gTest E (gN E 8 s).1 (gN E 8 s).2).2), .one (hsC E), .one (dsC E)] NoP := by
  have e1 : eT 1 = 6 := rfl
  unfold gTest
  dsimp only
  have l1 := gN_lt (E := E) (n := 8) s (by decide)
  have c1 := gn_fc E ok.L ok.Ll 8 (by decide) (by decide) s (by omega)
  have t1 := gN_ct (E := E) 8 s
  obtain ⟨q1, h1⟩ : ∃ q, q = gN E 8 s := ⟨_, rfl⟩
  rw [← h1] at c1 t1 l1 h ⊢
  obtain ⟨v1, s1⟩ := q1
  dsimp only at c1 t1 l1 h ⊢
  clear h1
  have c2 := expr_fc E ok 1 s1 (by decide) (by have := t1.t; omega)
  have t2 := gE_ct (E := E) 1 s1
  obtain ⟨q2, h2⟩ : ∃ q, q = gE E 1 s1 := ⟨_, rfl⟩
  rw [← h2] at c2 t2  ⊢
  obtain ⟨⟨a1, a2, a3, a4⟩, s2⟩ := q2
  dsimp only at c2 t2  ⊢
  clear h2
  have c3 := expr_fc E ok 1 s2 (by decide) (by have := t1.t; have := t2.t; omega)
  have t3 := gE_ct (E := E) 1 s2
  obtain ⟨q3, h3⟩ : ∃ q, q = gE E 1 s2 := ⟨_, rfl⟩
  rw [← h3] at c3 t3  ⊢
  obtain ⟨⟨b1, b2, b3, b4⟩, s3⟩ := q3
  dsimp only at c3 t3  ⊢
  clear h3
  refine FC.of_AW tok Tryz.func150 (by kernel_rfl) rfl Tryz.ntmps150 [] rfl rfl rfl ?_; intro w0 X0 Y f0 hI0 hX0
  (repeat (first | refine KM c1 ?_ | refine K4 ?_ | refine L2 ?_ | refine RG.d ?_ | refine S1 ?_ | refine S2 ?_))
  by_cases hk : v1 < 6
  · refine RG.put 12 rfl (v' := .val (.bool true)) (by rw [decide_eq_true (show (v1 : Int) < 6 by omega)]) ?_
    (repeat (first | refine KM c2 ?_ | refine K1 ?_ | refine K4 ?_ | refine K5 ?_ | refine L1 ?_ | refine L2 ?_ | refine L3 ?_ | refine RG.d ?_ | refine S1 ?_ | refine S2 ?_ | refine S7 ?_))
    (repeat (first | refine KM c3 ?_))
    refine RG.put 20 rfl (v' := i64 (2 + ((v1 % 3 : Nat) : Int))) (Option.some.inj (iv_i64 (n := 2 + ((v1 % 3 : Nat) : Int)) (by omega))) ?_
    (repeat (first | refine RG.call rfl rfl rfl rfl (test_fc _ (.mk a1 a2 a3 a4) (.mk b1 b2 b3 b4)) [] rfl rfl rfl rfl (.nil _) (.nil _) (fun _ h => False.elim h) rfl (A.ren_free _ _ (by first | exact rfl | exact Ex.agg_free _ | exact Co.agg_free _)) rfl ?_ | refine L3 ?_ | refine RG.dd ?_))
    (repeat (first | refine S6 ?_))
    exact ⟨⟨_, rfl, rfl⟩, rfl, .cons rfl (.one rfl) (Reg.lt_one rfl) ⟨[], _, rfl⟩ (.one rfl (hsC_free _) (.one rfl (dsC_free _) (.nil _)))⟩
  · obtain rfl : d = 0 := h.resolve_left hk
    refine RG.put 12 rfl (v' := .val (.bool false)) (by rw [decide_eq_false (show ¬ (v1 : Int) < 6 by omega)]) ?_
    (repeat (first | refine KM c2 ?_ | refine K4 ?_ | refine K5 ?_ | refine L1 ?_ | refine L2 ?_ | refine L3 ?_ | refine RG.d ?_ | refine S1 ?_ | refine S2 ?_ | refine S7 ?_))
    (repeat (first | refine KM c3 ?_))
    refine RG.put 20 rfl (v' := i64 (2 + ((v1 % 3 : Nat) : Int))) (Option.some.inj (iv_i64 (n := 2 + ((v1 % 3 : Nat) : Int)) (by omega))) ?_
    (repeat (first | refine RG.call rfl rfl rfl rfl (test_fc _ (.mk a1 a2 a3 a4) (.mk b1 b2 b3 b4)) [] rfl rfl rfl rfl (.nil _) (.nil _) (fun _ h => False.elim h) rfl (A.ren_free _ _ (by first | exact rfl | exact Ex.agg_free _ | exact Co.agg_free _)) rfl ?_ | refine L3 ?_ | refine RG.dd ?_))
    (repeat (first | refine S6 ?_))
    exact ⟨⟨_, rfl, rfl⟩, rfl, .cons rfl (.one rfl) (Reg.lt_one rfl) ⟨[], _, rfl⟩ (.one rfl (hsC_free _) (.one rfl (dsC_free _) (.nil _)))⟩
set_option maxHeartbeats 8000000 in
theorem cond_fc (E : Ev) (ok : E.ok) : ∀ (d : Nat) (s : Ms), d ≤ 1000 → s.t + cT d ≤ 2000000 → FC Tryz.prog ge 150 [.ptr 0 [] 0, i64 (d : Int)] [.one (mC E s), .one (hsC E), .one (dsC E)] ((.agg (gC E d s).1.cl)) [.one (mC E (gC E d s).2), .one (hsC E), .one (dsC E)] NoP
  | 0, s, hd, hs => by
    unfold gC
    dsimp only
    exact ctest_fc E ok 0 s (by simp only [cT] at hs; omega) (.inr rfl)
  | d + 1, s, hd, hs => by
    have hge := cT_ge d
    simp only [cT] at hs
    unfold gC
    dsimp only
    by_cases hk : (gN E 8 s).1 < 6
    · rw [if_pos hk]
      exact ctest_fc E ok (d + 1) s (by omega) (.inl hk)
    · rw [if_neg hk]
      have l1 := gN_lt (E := E) (n := 8) s (by decide)
      have c1 := gn_fc E ok.L ok.Ll 8 (by decide) (by decide) s (by omega)
      have t1 := gN_ct (E := E) 8 s
      obtain ⟨q1, h1⟩ : ∃ q, q = gN E 8 s := ⟨_, rfl⟩
      rw [← h1] at c1 t1 l1 hk ⊢
      obtain ⟨v1, s1⟩ := q1
      dsimp only at c1 t1 l1 hk ⊢
      clear h1
      by_cases h6 : v1 = 6
      · rw [if_pos h6]
        have c2 := cond_fc E ok d s1 (by omega) (by have := t1.t; omega)
        have t2 := gC_ct (E := E) d s1
        obtain ⟨q2, h2⟩ : ∃ q, q = gC E d s1 := ⟨_, rfl⟩
        rw [← h2] at c2 t2  ⊢
        obtain ⟨⟨a1, a2, a3⟩, s2⟩ := q2
        dsimp only at c2 t2  ⊢
        clear h2
        refine FC.of_AW tok Tryz.func150 (by kernel_rfl) rfl Tryz.ntmps150 [] rfl rfl rfl ?_; intro w0 X0 Y f0 hI0 hX0
        (repeat (first | refine KM c1 ?_ | refine K4 ?_ | refine L2 ?_ | refine RG.d ?_ | refine S1 ?_ | refine S2 ?_))
        refine RG.put 12 rfl (v' := .val (.bool false)) (by rw [decide_eq_false (show ¬ (v1 : Int) < 6 by omega)]) ?_
        (repeat (first | refine K4 ?_ | refine RG.d ?_ | refine S1 ?_ | refine S2 ?_ | refine S3 ?_ | refine S8 ?_))
        refine AW.condD rfl (fun _ => ?_) (fun k => absurd (show (v1 : Int) = 6 by omega) k)
        (repeat (first | refine K2 ?_ | refine K4 ?_ | refine S1 ?_ | refine S2 ?_))
        refine RG.put 29 rfl (v' := i64 (d : Int)) (by rw [show ((d + 1 : Nat) : Int) - 1 = (d : Int) by omega]) ?_
        (repeat (first | refine KM c2 ?_ | refine RG.call rfl rfl rfl rfl (not_fc (.mk a1 a2 a3)) [] rfl rfl rfl rfl (.nil _) (.nil _) (fun _ h => False.elim h) rfl (A.ren_free _ _ (by first | exact rfl | exact Ex.agg_free _ | exact Co.agg_free _)) rfl ?_ | refine L3 ?_ | refine RG.d ?_))
        (repeat (first | refine S6 ?_))
        exact ⟨⟨_, rfl, rfl⟩, rfl, .cons rfl (.one rfl) (Reg.lt_one rfl) ⟨[], _, rfl⟩ (.one rfl (hsC_free _) (.one rfl (dsC_free _) (.nil _)))⟩
      rw [if_neg h6]
      have c2 := cond_fc E ok d s1 (by omega) (by have := t1.t; omega)
      have t2 := gC_ct (E := E) d s1
      obtain ⟨q2, h2⟩ : ∃ q, q = gC E d s1 := ⟨_, rfl⟩
      rw [← h2] at c2 t2  ⊢
      obtain ⟨⟨a1, a2, a3⟩, s2⟩ := q2
      dsimp only at c2 t2  ⊢
      clear h2
      have l3 := gN_lt (E := E) (n := 2) s2 (by decide)
      have c3 := gn_fc E ok.L ok.Ll 2 (by decide) (by decide) s2 (by have := t1.t; have := t2.t; omega)
      have t3 := gN_ct (E := E) 2 s2
      obtain ⟨q3, h3⟩ : ∃ q, q = gN E 2 s2 := ⟨_, rfl⟩
      rw [← h3] at c3 t3 l3 ⊢
      obtain ⟨v3, s3⟩ := q3
      dsimp only at c3 t3 l3 ⊢
      clear h3
      have c4 := cond_fc E ok d s3 (by omega) (by have := t1.t; have := t2.t; have := t3.t; omega)
      have t4 := gC_ct (E := E) d s3
      obtain ⟨q4, h4⟩ : ∃ q, q = gC E d s3 := ⟨_, rfl⟩
      rw [← h4] at c4 t4  ⊢
      obtain ⟨⟨b1, b2, b3⟩, s4⟩ := q4
      dsimp only at c4 t4  ⊢
      clear h4
      refine rWk (r := .agg [i64 (6 + (v3 : Int)), nilA, .ro (0 + 1 + 1) [i64 a1, .ro a2.length (exC a2), .ro a3.length (coC a3), i64 b1, .ro b2.length (exC b2), .ro b3.length (coC b3)]]) ?_ (Wk.agg (by simp only [Co.cl, coC, exC, List.length_cons, List.length_nil, List.append_nil, List.cons_append, List.nil_append]; repeat (first | exact WkL.nil | refine WkL.cons (Wk.refl _) ?_ | refine WkL.cons Wk.nil ?_)))
      refine FC.of_AW tok Tryz.func150 (by kernel_rfl) rfl Tryz.ntmps150 [] rfl rfl rfl ?_; intro w0 X0 Y f0 hI0 hX0
      (repeat (first | refine KM c1 ?_ | refine K4 ?_ | refine L2 ?_ | refine RG.d ?_ | refine S1 ?_ | refine S2 ?_))
      refine RG.put 12 rfl (v' := .val (.bool false)) (by rw [decide_eq_false (show ¬ (v1 : Int) < 6 by omega)]) ?_
      (repeat (first | refine K4 ?_ | refine RG.d ?_ | refine S1 ?_ | refine S2 ?_ | refine S3 ?_ | refine S8 ?_))
      refine AW.condD rfl (fun k => absurd k (by omega)) (fun _ => ?_)
      (repeat (first | refine K2 ?_ | refine K4 ?_ | refine S1 ?_ | refine S2 ?_ | refine S3 ?_))
      refine RG.put 34 rfl (v' := i64 (d : Int)) (by rw [show ((d + 1 : Nat) : Int) - 1 = (d : Int) by omega]) ?_
      (repeat (first | refine KM c2 ?_ | refine K4 ?_ | refine L2 ?_ | refine L3 ?_ | refine RG.d ?_ | refine S1 ?_ | refine S2 ?_))
      (repeat (first | refine KM c3 ?_ | refine K2 ?_ | refine K4 ?_ | refine L1 ?_))
      refine RG.put 42 rfl (v' := i64 (d : Int)) (by rw [show ((d + 1 : Nat) : Int) - 1 = (d : Int) by omega]) ?_
      (repeat (first | refine KM c4 ?_ | refine K4 ?_ | refine L2 ?_ | refine L3 ?_ | refine RG.dd ?_))
      refine AW.sub (Sub.frzH (ks := [5]) 3 rfl (by decide) (.cons (Frz.refl _) (.cons (Frz.refl _) (.cons (frzC (st := 3) (n := 2) rfl (.head _) rfl rfl) .nil)))) ?_
      (repeat (first | refine S6 ?_))
      exact ⟨⟨_, rfl, rfl⟩, rfl, .cons rfl (.one rfl) (Reg.lt_one rfl) ⟨[], _, rfl⟩ (.one rfl (hsC_free _) (.one rfl (dsC_free _) (.nil _)))⟩
end Go.Proofs.YtifeioddiddnoaaGreatDoor
