/- The maker of programs: other statements, lists of statements. No conditions. -/
import Derived.Test.YtifeioddiddnoaaGreatDoorEc40
set_option linter.unusedVariables false
set_option linter.unusedSimpArgs false
namespace Go.Proofs.YtifeioddiddnoaaGreatDoor
open Go.Abs Go Go.RowKit
set_option maxRecDepth 20000
set_option maxHeartbeats 16000000 in
theorem other_fc (E : Ev) (ok : E.ok) (k d : Nat) (s : Ms) (hs : s.t + 50 ≤ 2000000) : FC Tryz.prog ge 133 [.ptr 0 [] 0, i64 (k : Int), i64 (d : Int)] [.one (mC E s), .one (hsC E), .one (dsC E)] ((.ro (gOther E k d s).1.length (smC (gOther E k d s).1))) [.one (mC E (gOther E k d s).2), .one (hsC E), .one (dsC E)] NoP := by
  have e1 : eT 1 = 6 := rfl
  unfold gOther
  dsimp only
  by_cases hA : 4 ≤ k ∧ k < 10
  ·
      rw [if_pos hA]
      have c1 := call_fc E ok s (by omega)
      obtain ⟨q1, h1⟩ : ∃ q, q = gCall E s := ⟨_, rfl⟩
      rw [← h1] at c1 ⊢
      obtain ⟨⟨y1, y2, y3, y4, y5, ⟨y6, y7, y8, y9⟩, ⟨z1, z2, z3, z4⟩, ⟨w1, w2, w3⟩, y10, y11, y12, y13⟩, s1⟩ := q1
      dsimp only at c1 ⊢
      clear h1
      simp only [Sm.cl, smC, Ex.cl, Co.cl, List.length_cons, List.length_nil, List.cons_append, List.nil_append, List.append_nil] at c1 ⊢
      refine FC.of_AW tok Tryz.func133 (by kernel_rfl) rfl Tryz.ntmps133 [] rfl rfl rfl ?_; intro w0 X0 Y f0 hI0 hX0
      (repeat (first | refine K4 ?_ | refine RG.d ?_ | refine S1 ?_ | refine S2 ?_))
      refine RG.put 9 rfl (v' := .val (.bool true)) (by rw [decide_eq_true (show (k : Int) ≥ 4 by omega)]) ?_
      (repeat (first | refine K4 ?_ | refine RG.d ?_))
      refine AW.condD rfl (fun _ => ?_) (fun kk => absurd (show (k : Int) < 10 by omega) kk)
      (repeat (first | refine KM c1 ?_ | refine K4 ?_ | refine L2 ?_ | refine RG.d ?_ | refine S1 ?_ | refine S2 ?_))
      refine AW.sub (Sub.frz (ks := [3]) (a' := .ro (0 + 1) [i64 y1, i64 y2, i64 y3, i64 y4, i64 y5, i64 y6, i64 y7, i64 y8, .ro y9.length (exC y9), i64 z1, i64 z2, i64 z3, .ro z4.length (exC z4), i64 w1, .ro w2.length (exC w2), .ro w3.length (coC w3), .ro y10.length (exC y10), rdi y11, .ro y12.length (smC y12), .ro y13.length (smC y13)]) 6 rfl (Frz.wk (frzC (st := 20) (n := 1) rfl (.head _) rfl rfl) (Wk.ro (by repeat (first | exact WkL.nil | refine WkL.cons (Wk.refl _) ?_))))) ?_
      (repeat (first | refine S6 ?_))
      exact ⟨⟨_, rfl, rfl⟩, rfl, .cons rfl (.one rfl) (Reg.lt_one rfl) ⟨[], _, rfl⟩ (.one rfl (hsC_free _) (.one rfl (dsC_free _) (.nil _)))⟩
  rw [if_neg hA]
  by_cases hB : k = 10
  ·
      subst hB
      rw [if_pos rfl]
      have c1 := site_fc E s (by omega)
      have t1 := gS_ct s
      obtain ⟨q1, h1⟩ : ∃ q, q = gS s := ⟨_, rfl⟩
      rw [← h1] at c1 t1  ⊢
      obtain ⟨v1, s1⟩ := q1
      dsimp only at c1 t1  ⊢
      clear h1
      have l2 := gN_lt (E := E) (n := 3) s1 (by decide)
      have c2 := gn_fc E ok.L ok.Ll 3 (by decide) (by decide) s1 (by have := t1.t; omega)
      have t2 := gN_ct (E := E) 3 s1
      obtain ⟨q2, h2⟩ : ∃ q, q = gN E 3 s1 := ⟨_, rfl⟩
      rw [← h2] at c2 t2 l2 ⊢
      obtain ⟨v2, s2⟩ := q2
      dsimp only at c2 t2 l2 ⊢
      clear h2
      refine FC.of_AW tok Tryz.func133 (by kernel_rfl) rfl Tryz.ntmps133 [] rfl rfl rfl ?_; intro w0 X0 Y f0 hI0 hX0
      (repeat (first | refine KM c1 ?_ | refine KM c2 ?_ | refine K2 ?_ | refine K4 ?_ | refine L1 ?_ | refine L2 ?_ | refine RG.d ?_ | refine S1 ?_ | refine S2 ?_ | refine S3 ?_ | refine S7 ?_ | refine S8 ?_))
      refine AW.sub (Sub.frz (ks := [3]) (a' := .ro (0 + 1) [i64 (v1 : Int), i64 14, i64 0, i64 0, i64 (1 + (v2 : Int)), i64 0, i64 0, i64 0, .ro 0 [], i64 0, i64 0, i64 0, .ro 0 [], i64 0, .ro 0 [], .ro 0 [], .ro 0 [], .ro 0 [], .ro 0 [], .ro 0 []]) 6 rfl (Frz.wk (frzC (st := 20) (n := 1) rfl (.head _) rfl rfl) (Wk.ro (by repeat (first | exact WkL.nil | refine WkL.cons (Wk.refl _) ?_ | refine WkL.cons Wk.nil ?_))))) ?_
      (repeat (first | refine S6 ?_))
      exact ⟨⟨_, rfl, rfl⟩, rfl, .cons rfl (.one rfl) (Reg.lt_one rfl) ⟨[], _, rfl⟩ (.one rfl (hsC_free _) (.one rfl (dsC_free _) (.nil _)))⟩
  rw [if_neg hB]
  by_cases hC : k = 11 ∧ d < 2
  ·
      obtain ⟨rfl, hd⟩ := hC
      rw [if_pos ⟨rfl, hd⟩]
      have c1 := site_fc E s (by omega)
      have t1 := gS_ct s
      obtain ⟨q1, h1⟩ : ∃ q, q = gS s := ⟨_, rfl⟩
      rw [← h1] at c1 t1  ⊢
      obtain ⟨v1, s1⟩ := q1
      dsimp only at c1 t1  ⊢
      clear h1
      have c2 := expr_fc E ok 1 s1 (by omega) (by have := t1.t; omega)
      have t2 := gE_ct (E := E) 1 s1
      obtain ⟨q2, h2⟩ : ∃ q, q = gE E 1 s1 := ⟨_, rfl⟩
      rw [← h2] at c2 t2  ⊢
      obtain ⟨⟨u1, u2, u3, u4⟩, s2⟩ := q2
      dsimp only at c2 t2  ⊢
      clear h2
      refine FC.of_AW tok Tryz.func133 (by kernel_rfl) rfl Tryz.ntmps133 [] rfl rfl rfl ?_; intro w0 X0 Y f0 hI0 hX0
      (repeat (first | refine K1 ?_ | refine K4 ?_ | refine RG.d ?_ | refine S1 ?_ | refine S2 ?_ | refine S3 ?_ | refine S8 ?_))
      refine AW.condD rfl (fun _ => ?_) (fun kk => absurd (show (d : Int) < 2 by omega) kk)
      (repeat (first | refine KM c1 ?_ | refine KM c2 ?_ | refine K4 ?_ | refine L2 ?_ | refine RG.d ?_ | refine S1 ?_ | refine S2 ?_))
      refine AW.sub (Sub.frz (ks := [3]) (a' := .ro (0 + 1) [i64 (v1 : Int), i64 (24 : Int), i64 (0 : Int), i64 (0 : Int), i64 0, i64 u1, i64 u2, i64 u3, .ro u4.length (exC u4), i64 0, i64 0, i64 0, .ro 0 [], i64 0, .ro 0 [], .ro 0 [], .ro 0 [], .ro 0 [], .ro 0 [], .ro 0 []]) 6 rfl (Frz.wk (frzC (st := 20) (n := 1) rfl (.head _) rfl rfl) (Wk.ro (by repeat (first | exact WkL.nil | refine WkL.cons (Wk.refl _) ?_ | refine WkL.cons Wk.nil ?_))))) ?_
      (repeat (first | refine S6 ?_))
      exact ⟨⟨_, rfl, rfl⟩, rfl, .cons rfl (.one rfl) (Reg.lt_one rfl) ⟨[], _, rfl⟩ (.one rfl (hsC_free _) (.one rfl (dsC_free _) (.nil _)))⟩
  rw [if_neg hC]
  by_cases hD : k < 4
  ·
      rw [if_pos hD]
      have c1 := simple_fc E ok s (by omega)
      obtain ⟨q1, h1⟩ : ∃ q, q = gSimple E s := ⟨_, rfl⟩
      rw [← h1] at c1 ⊢
      obtain ⟨l, s1⟩ := q1
      dsimp only at c1 ⊢
      clear h1
      refine FC.of_AW tok Tryz.func133 (by kernel_rfl) rfl Tryz.ntmps133 [] rfl rfl rfl ?_; intro w0 X0 Y f0 hI0 hX0
      (repeat (first | refine K4 ?_ | refine RG.d ?_ | refine S1 ?_ | refine S2 ?_))
      refine RG.put 9 rfl (v' := .val (.bool false)) (by rw [decide_eq_false (show ¬ (k : Int) ≥ 4 by omega)]) ?_
      (repeat (first | refine K1 ?_ | refine K4 ?_ | refine RG.d ?_ | refine S1 ?_ | refine S2 ?_ | refine S3 ?_ | refine S8 ?_))
      refine RG.put 18 rfl (v' := .val (.bool false)) (by rw [decide_eq_false (show ¬ (k : Int) = 10 by omega)]) ?_
      (repeat (first | refine K1 ?_ | refine K4 ?_ | refine RG.d ?_ | refine S1 ?_ | refine S2 ?_ | refine S3 ?_ | refine S8 ?_))
      refine RG.put 34 rfl (v' := .val (.bool false)) (by rw [decide_eq_false (show ¬ (k : Int) = 11 by omega)]) ?_
      (repeat (first | refine K1 ?_ | refine K4 ?_ | refine RG.d ?_ | refine S1 ?_ | refine S2 ?_ | refine S3 ?_ | refine S8 ?_))
      refine RG.put 46 rfl (v' := .val (.bool true)) (by rw [decide_eq_true (show (k : Int) < 4 by omega)]) ?_
      (repeat (first | refine KM c1 ?_ | refine K1 ?_ | refine K4 ?_ | refine RG.d ?_ | refine S1 ?_ | refine S2 ?_ | refine S7 ?_))
      (repeat (first | refine S6 ?_))
      exact ⟨⟨_, rfl, rfl⟩, rfl, .cons rfl (.one rfl) (Reg.lt_one rfl) ⟨[], _, rfl⟩ (.one rfl (hsC_free _) (.one rfl (dsC_free _) (.nil _)))⟩
  rw [if_neg hD]
  ·
      have c1 := risky_fc E ok s (by omega)
      obtain ⟨q1, h1⟩ : ∃ q, q = gRisky E s := ⟨_, rfl⟩
      rw [← h1] at c1 ⊢
      obtain ⟨⟨y1, y2, y3, y4, y5, ⟨y6, y7, y8, y9⟩, ⟨z1, z2, z3, z4⟩, ⟨w1, w2, w3⟩, y10, y11, y12, y13⟩, s1⟩ := q1
      dsimp only at c1 ⊢
      clear h1
      simp only [Sm.cl, smC, Ex.cl, Co.cl, List.length_cons, List.length_nil, List.cons_append, List.nil_append, List.append_nil] at c1 ⊢
      by_cases hE : k = 11
      · subst hE
        refine FC.of_AW tok Tryz.func133 (by kernel_rfl) rfl Tryz.ntmps133 [] rfl rfl rfl ?_; intro w0 X0 Y f0 hI0 hX0
        (repeat (first | refine K1 ?_ | refine K4 ?_ | refine RG.d ?_ | refine S1 ?_ | refine S2 ?_ | refine S3 ?_ | refine S8 ?_))
        refine AW.condD rfl (fun kk => absurd kk (by omega)) (fun _ => ?_)
        (repeat (first | refine K4 ?_ | refine L1 ?_ | refine RG.d ?_ | refine S1 ?_ | refine S2 ?_ | refine S3 ?_ | refine S8 ?_))
        (repeat (first | refine KM c1 ?_ | refine K4 ?_ | refine L2 ?_ | refine RG.d ?_))
        refine AW.sub (Sub.frz (ks := [3]) (a' := .ro (0 + 1) [i64 y1, i64 y2, i64 y3, i64 y4, i64 y5, i64 y6, i64 y7, i64 y8, .ro y9.length (exC y9), i64 z1, i64 z2, i64 z3, .ro z4.length (exC z4), i64 w1, .ro w2.length (exC w2), .ro w3.length (coC w3), .ro y10.length (exC y10), rdi y11, .ro y12.length (smC y12), .ro y13.length (smC y13)]) 6 rfl (Frz.wk (frzC (st := 20) (n := 1) rfl (.head _) rfl rfl) (Wk.ro (by repeat (first | exact WkL.nil | refine WkL.cons (Wk.refl _) ?_))))) ?_
        (repeat (first | refine S6 ?_))
        exact ⟨⟨_, rfl, rfl⟩, rfl, .cons rfl (.one rfl) (Reg.lt_one rfl) ⟨[], _, rfl⟩ (.one rfl (hsC_free _) (.one rfl (dsC_free _) (.nil _)))⟩
      refine FC.of_AW tok Tryz.func133 (by kernel_rfl) rfl Tryz.ntmps133 [] rfl rfl rfl ?_; intro w0 X0 Y f0 hI0 hX0
      (repeat (first | refine K4 ?_ | refine RG.d ?_ | refine S1 ?_ | refine S2 ?_))
      refine RG.put 9 rfl (v' := .val (.bool true)) (by rw [decide_eq_true (show (k : Int) ≥ 4 by omega)]) ?_
      (repeat (first | refine K4 ?_ | refine RG.d ?_))
      refine AW.condD rfl (fun kk => absurd kk (by omega)) (fun _ => ?_)
      (repeat (first | refine K4 ?_ | refine S1 ?_ | refine S2 ?_ | refine S3 ?_))
      refine RG.put 18 rfl (v' := .val (.bool false)) (by rw [decide_eq_false (show ¬ (k : Int) = 10 by omega)]) ?_
      (repeat (first | refine K1 ?_ | refine K4 ?_ | refine RG.d ?_ | refine S1 ?_ | refine S2 ?_ | refine S3 ?_ | refine S8 ?_))
      refine RG.put 34 rfl (v' := .val (.bool false)) (by rw [decide_eq_false (show ¬ (k : Int) = 11 by omega)]) ?_
      (repeat (first | refine K1 ?_ | refine K4 ?_ | refine RG.d ?_ | refine S1 ?_ | refine S2 ?_ | refine S3 ?_ | refine S8 ?_))
      refine RG.put 46 rfl (v' := .val (.bool false)) (by rw [decide_eq_false (show ¬ (k : Int) < 4 by omega)]) ?_
      (repeat (first | refine KM c1 ?_ | refine K4 ?_ | refine L1 ?_ | refine L2 ?_ | refine RG.d ?_ | refine S1 ?_ | refine S2 ?_ | refine S3 ?_ | refine S8 ?_))
      refine AW.sub (Sub.frz (ks := [3]) (a' := .ro (0 + 1) [i64 y1, i64 y2, i64 y3, i64 y4, i64 y5, i64 y6, i64 y7, i64 y8, .ro y9.length (exC y9), i64 z1, i64 z2, i64 z3, .ro z4.length (exC z4), i64 w1, .ro w2.length (exC w2), .ro w3.length (coC w3), .ro y10.length (exC y10), rdi y11, .ro y12.length (smC y12), .ro y13.length (smC y13)]) 6 rfl (Frz.wk (frzC (st := 20) (n := 1) rfl (.head _) rfl rfl) (Wk.ro (by repeat (first | exact WkL.nil | refine WkL.cons (Wk.refl _) ?_))))) ?_
      (repeat (first | refine S6 ?_))
      exact ⟨⟨_, rfl, rfl⟩, rfl, .cons rfl (.one rfl) (Reg.lt_one rfl) ⟨[], _, rfl⟩ (.one rfl (hsC_free _) (.one rfl (dsC_free _) (.nil _)))⟩
def sigSa (k : Nat) : Nat := if k < 3 then k else k + 3
theorem sigSa_inj : ∀ a b, sigSa a = sigSa b → a = b := by
  intro a b h; unfold sigSa at h; repeat' split at h
  all_goals omega
theorem sigSa_hi (a : Nat) (ha : 4 ≤ a) : 7 ≤ sigSa a := by
  unfold sigSa; repeat' split
  all_goals omega
theorem sigSa_q (a : Nat) (ha : a < 3) : sigSa a = a := by
  unfold sigSa; repeat' split
  all_goals omega
def sigSb (k : Nat) : Nat := if k < 3 then k else k + 2
theorem sigSb_inj : ∀ a b, sigSb a = sigSb b → a = b := by
  intro a b h; unfold sigSb at h; repeat' split at h
  all_goals omega
theorem sigSb_hi (a : Nat) (ha : 4 ≤ a) : 6 ≤ sigSb a := by
  unfold sigSb; repeat' split
  all_goals omega
theorem sigSb_q (a : Nat) (ha : a < 3) : sigSb a = a := by
  unfold sigSb; repeat' split
  all_goals omega
theorem smC_len (l : List Sm) : (smC l).length = l.length * 20 := by rw [smC_eq]; exact flC_len Sm.cl_len l
theorem smC_app (l m : List Sm) : smC (l ++ m) = smC l ++ smC m := by rw [smC_eq, smC_eq, smC_eq, flC_append]
theorem smC_cell (l : List Sm) : (smC l).all A.cell = true := by rw [smC_eq]; exact flC_cell Sm.cl_cell l
set_option maxHeartbeats 16000000 in
theorem stsL_fc (E : Ev) (ok : E.ok) (d : Nat) (p : Nat → Prop) [DecidablePred p] (Yf : Nat → Ms → Sm × Ms) (one : Ms → List Sm × Ms)
    (hone : ∀ s, one s = if p (gN E 16 s).1 then ([(Yf (gN E 16 s).1 (gN E 16 s).2).1], (Yf (gN E 16 s).1 (gN E 16 s).2).2) else gOther E (gN E 16 s).1 d (gN E 16 s).2)
    (hp : ∀ k, ¬ p k → d = 0 ∨ k < 4 ∨ 7 < k)
    (hY : ∀ (k : Nat) (s : Ms), p k → s.t + 130 * s.left ≤ 799880 → s.done ≤ 2 → s.loop + d ≤ 1000 → FC Tryz.prog ge 132 [.ptr 0 [] 0, i64 (k : Int), i64 (d : Int)] [.one (mC E s), .one (hsC E), .one (dsC E)] ((.tup [.agg (Yf k s).1.cl, .val (.bool true)])) [.one (mC E (Yf k s).2), .one (hsC E), .one (dsC E)] NoP)
    (hB : ∀ s, 0 < s.left → Rm s → Bd s (one { s with left := s.left - 1 }).2 (one { s with left := s.left - 1 }).1)
    (n : Nat) (s0 : Ms) (hn : n ≤ 1000000) (hr0 : Rm s0) (hl0 : s0.loop + d ≤ 1000) : FC Tryz.prog ge 107 [.ptr 0 [] 0, i64 (n : Int), i64 (d : Int)] [.one (mC E s0), .one (hsC E), .one (dsC E)] ((.ro (gLoop one n [] s0).1.length (smC (gLoop one n [] s0).1))) [.one (mC E (gLoop one n [] s0).2), .one (hsC E), .one (dsC E)] NoP := by
  obtain ⟨R, hR⟩ : ∃ R, R = gLoop one n [] s0 := ⟨_, rfl⟩
  rw [← hR]
  refine FC.of_AW tok Tryz.func107 (by kernel_rfl) rfl Tryz.ntmps107 [] rfl rfl rfl ?_; intro w0 X0 Y f0 hI0 hX0
  (repeat (first | refine K4 ?_ | refine L2 ?_ | refine RG.d ?_ | refine S1 ?_ | refine S2 ?_ | refine S4 ?_))
  refine AW.loopS (fun q : Nat × Nat × List Sm × Ms => ⟨put 0 (some (.ptr 0 [] 0)) (put 1 (some (i64 (n : Int))) (put 2 (some (i64 (d : Int))) (put 7 (some (.sl 3 [] 20 0 q.2.2.1.length)) (put 8 (some (i64 (q.2.1 : Int))) noE)))), hput 0 (.one (mC E q.2.2.2)) (hput 1 (.one (hsC E)) (hput 2 (.one (dsC E)) (hput 3 (.one (smC q.2.2.1)) noH))), 4⟩) (fun q => q.1 + q.2.1 = n ∧ Rm q.2.2.2 ∧ q.2.2.2.loop + d ≤ 1000 ∧ q.2.2.1.length + q.2.2.2.t + 130 * q.2.2.2.left ≤ 800000 ∧ gLoop one q.1 q.2.2.1 q.2.2.2 = R) (fun q => q.1)
    (n, 0, [], s0) ⟨rfl, hr0, hl0, by have := hr0.1; simp only [List.length_nil]; omega, hR.symm⟩ (Sub.of (by repeat (first | exact SubE.no _ | refine SubE.put rfl ?_)) (by repeat (first | exact SubH.no _ | refine SubH.put rfl ?_)) rfl) ?_
  clear hR hr0 hl0
  rintro ⟨j, i, xs, s⟩ ⟨hj, hr, hl, hx, hRj⟩
  dsimp only at hj hr hl hx hRj
  have hxl := smC_len xs
  have hxf := smC_free xs
  cases j with
  | zero =>
    obtain rfl : (xs, s) = R := hRj
    (repeat (first | refine K4 ?_ | refine S1 ?_ | refine S2 ?_))
    refine RG.put 16 rfl (v' := .val (.bool false)) (by rw [decide_eq_false (show ¬ (i : Int) < (n : Int) by omega)]) ?_
    (repeat (first | refine K1 ?_ | refine K4 ?_ | refine RG.d ?_ | refine S1 ?_ | refine S2 ?_ | refine S5 ?_ | refine S8 ?_))
    refine AW.sub (Sub.frz (ks := [3]) 6 rfl (frzC (st := 20) rfl (.head _) hxl hxf)) ?_
    (repeat (first | refine S6 ?_))
    exact ⟨⟨_, rfl, rfl⟩, rfl, .cons rfl (.one rfl) (Reg.lt_one rfl) ⟨[], _, rfl⟩ (.one rfl (hsC_free _) (.one rfl (dsC_free _) (.nil _)))⟩
  | succ j =>
    by_cases h0 : s.left = 0
    · obtain rfl : (xs, s) = R := by rw [← hRj, gLoop, if_pos h0]
      (repeat (first | refine K4 ?_ | refine S1 ?_ | refine S2 ?_))
      refine RG.put 16 rfl (v' := .val (.bool true)) (by rw [decide_eq_true (show (i : Int) < (n : Int) by omega)]) ?_
      (repeat (first | refine K4 ?_ | refine L1 ?_ | refine RG.d ?_))
      refine AW.condD rfl (fun k => absurd (show (s.left : Int) > 0 from k) (by omega)) (fun _ => ?_)
      refine AW.sub (Sub.frz (ks := [3]) 7 rfl (frzC (st := 20) rfl (.head _) hxl hxf)) ?_
      (repeat (first | refine K4 ?_ | refine RG.d ?_ | refine S1 ?_ | refine S2 ?_ | refine S5 ?_ | refine S6 ?_))
      exact ⟨⟨_, rfl, rfl⟩, rfl, .cons rfl (.one rfl) (Reg.lt_one rfl) ⟨[], _, rfl⟩ (.one rfl (hsC_free _) (.one rfl (dsC_free _) (.nil _)))⟩
    · have hb := hB s (by omega) hr
      have hRj : gLoop one j (xs ++ (one { s with left := s.left - 1 }).1) (one { s with left := s.left - 1 }).2 = R := by rw [← hRj, gLoop, if_neg h0]
      obtain ⟨u, hu⟩ : ∃ u : Ms, u = { s with left := s.left - 1 } := ⟨_, rfl⟩
      have u1 : u.t = s.t := by rw [hu]; rfl
      have u2 : u.left + 1 = s.left := by rw [hu]; show s.left - 1 + 1 = s.left; omega
      have u3 : u.loop = s.loop := by rw [hu]
      have u4 : u.done = s.done := by rw [hu]
      have hr1 := hr.1
      have hr2 := hr.2
      rw [← hu] at hb hRj
      rw [hone] at hb hRj
      have c1 := gn_fc E ok.L ok.Ll 16 (by decide) (by decide) u (by omega)
      have t1 := gN_ct (E := E) 16 u
      obtain ⟨q1, h1⟩ : ∃ q, q = gN E 16 u := ⟨_, rfl⟩
      rw [← h1] at c1 t1 hb hRj
      obtain ⟨k, v⟩ := q1
      dsimp only at c1 t1 hb hRj
      clear h1
      have v1 := t1.t
      have v2 := t1.left
      have v3 := t1.loop
      have v4 := t1.done
      subst hu
      by_cases hpk : p k
      · rw [if_pos hpk] at hb hRj
        dsimp only at hb hRj
        have c2 := hY k v hpk (by omega) (by omega) (by omega)
        obtain ⟨q2, h2⟩ : ∃ q, q = Yf k v := ⟨_, rfl⟩
        rw [← h2] at c2 hb hRj
        obtain ⟨⟨y1, y2, y3, y4, y5, ⟨y6, y7, y8, y9⟩, ⟨z1, z2, z3, z4⟩, ⟨w1, w2, w3⟩, y10, y11, y12, y13⟩, w⟩ := q2
        dsimp only at c2 hb hRj
        clear h2
        have hb1 := hb.e
        have hb2 := hb.loop
        have hb3 := hb.rm hr
        have happ := smC_app xs [Sm.mk y1 y2 y3 y4 y5 (.mk y6 y7 y8 y9) (.mk z1 z2 z3 z4) (.mk w1 w2 w3) y10 y11 y12 y13]
        obtain ⟨Z, hZ⟩ : ∃ Z, Z = xs ++ [Sm.mk y1 y2 y3 y4 y5 (.mk y6 y7 y8 y9) (.mk z1 z2 z3 z4) (.mk w1 w2 w3) y10 y11 y12 y13] := ⟨_, rfl⟩
        have lZ : xs.length + 1 = Z.length := by rw [hZ, List.length_append]; rfl
        rw [← hZ] at happ hRj
        have hw := fmW_len (w := Sm.w) Sm.w_pos [Sm.mk y1 y2 y3 y4 y5 (.mk y6 y7 y8 y9) (.mk z1 z2 z3 z4) (.mk w1 w2 w3) y10 y11 y12 y13]
        simp only [List.length_cons, List.length_nil] at hw
        (repeat (first | refine K4 ?_ | refine S1 ?_ | refine S2 ?_))
        refine RG.put 16 rfl (v' := .val (.bool true)) (by rw [decide_eq_true (show (i : Int) < (n : Int) by omega)]) ?_
        (repeat (first | refine K4 ?_ | refine L1 ?_ | refine RG.d ?_))
        refine AW.condD rfl (fun _ => ?_) (fun k' => absurd (show (s.left : Int) > 0 by omega) k')
        (repeat (first | refine S3 ?_))
        refine S1 ?_
        refine S4 ?_
        refine S1 ?_
        refine S2 ?_
        iterate 5 ((first | refine K4 ?_ | refine L1 ?_))
        refine RG.put 29 rfl (v' := i64 ((s.left - 1 : Nat) : Int)) (by rw [show (s.left : Int) - 1 = ((s.left - 1 : Nat) : Int) by omega]; exact Option.some.inj (iv_i64 (by omega))) ?_
        (repeat (first | refine KM c1 ?_ | refine KM c2 ?_ | refine K4 ?_ | refine L1 ?_ | refine L2 ?_ | refine L3 ?_ | refine RG.d ?_ | refine S1 ?_ | refine S2 ?_ | refine S7 ?_))
        refine RG.append tok rfl rfl rfl rfl rfl rfl rfl rfl (n1 := xs.length) (c := smC xs) (ks := [3]) rfl (m := 1) (ks' := [5]) rfl rfl (by omega) rfl (by omega) (by omega) rfl (c' := smC Z) (by rw [List.take_of_length_le (by omega), happ]; rfl) ?_
        rw [lZ]
        (repeat (first | refine K4 ?_ | refine RG.d ?_ | refine S2 ?_))
        refine ⟨(j, i + 1, Z, w), ⟨by dsimp only; omega, hb3, by dsimp only; omega, by dsimp only; omega, hRj⟩, Nat.lt_succ_self _, Sub.renB sigSa ?_ ?_ sigSa_inj (fun a ha => sigSa_hi a ha) (fun a ha => sigSa_q a ha)⟩
        · repeat (first | exact SubEr.no _ _ | refine SubEr.put rfl ?_ | refine SubEr.put (show some (A.val (.int .i64 (IntKind.i64.wrap ((i : Int) + 1)))) = some (i64 ((i + 1 : Nat) : Int)) from iv_i64 (by omega)) ?_)
        · repeat (first | exact SubHr.no _ _ | refine SubHr.put rfl (hsC_free _) ?_ | refine SubHr.put rfl (dsC_free _) ?_ | refine SubHr.put rfl (smC_free _) ?_ | refine SubHr.putR rfl rfl ?_)
      · rw [if_neg hpk] at hb hRj
        have c2 := nested0_fc E k d v (hp k hpk)
        have c3 := other_fc E ok k d v (by omega)
        obtain ⟨q2, h2⟩ : ∃ q, q = gOther E k d v := ⟨_, rfl⟩
        rw [← h2] at c3 hb hRj
        obtain ⟨l, w⟩ := q2
        dsimp only at c3 hb hRj
        clear h2
        have hb1 := hb.e
        have hb2 := hb.loop
        have hb3 := hb.rm hr
        have happ := smC_app xs l
        have hll := smC_len l
        obtain ⟨Z, hZ⟩ : ∃ Z, Z = xs ++ l := ⟨_, rfl⟩
        have lZ : xs.length + l.length = Z.length := by rw [hZ, List.length_append]
        rw [← hZ] at happ hRj
        have hw := fmW_len (w := Sm.w) Sm.w_pos l
        (repeat (first | refine K4 ?_ | refine S1 ?_ | refine S2 ?_))
        refine RG.put 16 rfl (v' := .val (.bool true)) (by rw [decide_eq_true (show (i : Int) < (n : Int) by omega)]) ?_
        (repeat (first | refine K4 ?_ | refine L1 ?_ | refine RG.d ?_))
        refine AW.condD rfl (fun _ => ?_) (fun k' => absurd (show (s.left : Int) > 0 by omega) k')
        (repeat (first | refine S3 ?_))
        refine S1 ?_
        refine S4 ?_
        refine S1 ?_
        refine S2 ?_
        iterate 5 ((first | refine K4 ?_ | refine L1 ?_))
        refine RG.put 29 rfl (v' := i64 ((s.left - 1 : Nat) : Int)) (by rw [show (s.left : Int) - 1 = ((s.left - 1 : Nat) : Int) by omega]; exact Option.some.inj (iv_i64 (by omega))) ?_
        (repeat (first | refine KM c1 ?_ | refine KM c2 ?_ | refine KM c3 ?_ | refine K4 ?_ | refine L2 ?_ | refine L3 ?_ | refine RG.d ?_ | refine S1 ?_ | refine S2 ?_ | refine S8 ?_))
        refine RG.append tok rfl rfl rfl rfl rfl rfl rfl rfl (n1 := xs.length) (c := smC xs) (ks := [3]) rfl (m := l.length) (l := smC l) (ks' := []) rfl hll (by omega) (smC_cell l) (by omega) (by omega) rfl (c' := smC Z) (by rw [List.take_of_length_le (by omega), happ]) ?_
        rw [lZ]
        (repeat (first | refine K4 ?_ | refine RG.d ?_ | refine S2 ?_))
        refine ⟨(j, i + 1, Z, w), ⟨by dsimp only; omega, hb3, by dsimp only; omega, by dsimp only; omega, hRj⟩, Nat.lt_succ_self _, Sub.renB sigSb ?_ ?_ sigSb_inj (fun a ha => sigSb_hi a ha) (fun a ha => sigSb_q a ha)⟩
        · repeat (first | exact SubEr.no _ _ | refine SubEr.put rfl ?_ | refine SubEr.put (show some (A.val (.int .i64 (IntKind.i64.wrap ((i : Int) + 1)))) = some (i64 ((i + 1 : Nat) : Int)) from iv_i64 (by omega)) ?_)
        · repeat (first | exact SubHr.no _ _ | refine SubHr.put rfl (hsC_free _) ?_ | refine SubHr.put rfl (dsC_free _) ?_ | refine SubHr.put rfl (smC_free _) ?_ | refine SubHr.putR rfl rfl ?_)
theorem sts_fc (E : Ev) (ok : E.ok) : ∀ d, StsFC E d
  | 0, n, s, hn, hr, hl => stsL_fc E ok 0 (fun _ => False) (fun _ s => (stm 0 0 0 0 0 zE zE zC, s)) _ (fun s => by rw [if_neg (fun h => h)]) (fun k _ => .inl rfl) (fun k s h => h.elim) (fun s h hs => other_bd ok _ 0 s h hs) n s hn hr hl
  | d + 1, n, s, hn, hr, hl => stsL_fc E ok (d + 1) (fun k => 4 ≤ k ∧ k ≤ 7) (gNes E (gSts E d)) _ (fun s => rfl) (fun k h => .inr (by omega)) (fun k s h h1 h2 h3 => nested_fc E ok d (sts_fc E ok d) k s h h1 h2 (by omega)) (fun s h hs => by
      split
      · exact nes_bd ok (fun n s => gSts_bd ok d n s) _ s h hs
      · exact other_bd ok _ (d + 1) s h hs) n s hn hr hl
end Go.Proofs.YtifeioddiddnoaaGreatDoor
