/- The maker of programs: nested and other statements. No conditions. -/
import Derived.Test.YtifeioddiddnoaaGreatDoorEc39
set_option linter.unusedVariables false
set_option linter.unusedSimpArgs false
namespace Go.Proofs.YtifeioddiddnoaaGreatDoor
open Go.Abs Go Go.RowKit
set_option maxRecDepth 20000
theorem smC_free (l : List Sm) : ltL 0 (smC l) = true := by rw [smC_eq]; exact flC_free Sm.cl_free l
/-- What is shown of lists of statements. -/
def StsFC (E : Ev) (d : Nat) : Prop := ∀ (n : Nat) (s : Ms), n ≤ 1000000 → Rm s → s.loop + d ≤ 1000 → FC Tryz.prog ge 107 [.ptr 0 [] 0, i64 (n : Int), i64 (d : Int)] [.one (mC E s), .one (hsC E), .one (dsC E)] ((.ro (gSts E d n s).1.length (smC (gSts E d n s).1))) [.one (mC E (gSts E d n s).2), .one (hsC E), .one (dsC E)] NoP
abbrev zS : List A := [i64 0, i64 0, i64 0, i64 0, i64 0, i64 0, i64 0, i64 0, nilA, i64 0, i64 0, i64 0, nilA, i64 0, nilA, nilA, nilA, nilA, nilA, nilA]
theorem nested0_fc (E : Ev) (k d : Nat) (s : Ms) (h : d = 0 ∨ k < 4 ∨ 7 < k) : FC Tryz.prog ge 132 [.ptr 0 [] 0, i64 (k : Int), i64 (d : Int)] [.one (mC E s), .one (hsC E), .one (dsC E)] ((.tup [.agg zS, .val (.bool false)])) [.one (mC E s), .one (hsC E), .one (dsC E)] NoP := by
  cases d with
  | zero =>
    refine FC.of_AW tok Tryz.func132 (by kernel_rfl) rfl Tryz.ntmps132 [] rfl rfl rfl ?_; intro w0 X0 Y f0 hI0 hX0
    (repeat (first | refine K1 ?_ | refine K4 ?_ | refine L2 ?_ | refine L3 ?_ | refine RG.d ?_ | refine S1 ?_ | refine S2 ?_ | refine S6 ?_ | refine S7 ?_))
    exact ⟨⟨_, rfl, rfl⟩, rfl, .cons rfl (.one rfl) (Reg.lt_one rfl) ⟨[], _, rfl⟩ (.one rfl (hsC_free _) (.one rfl (dsC_free _) (.nil _)))⟩
  | succ d =>
    by_cases hk : k < 4
    · refine FC.of_AW tok Tryz.func132 (by kernel_rfl) rfl Tryz.ntmps132 [] rfl rfl rfl ?_; intro w0 X0 Y f0 hI0 hX0
      (repeat (first | refine K4 ?_ | refine L2 ?_ | refine RG.d ?_ | refine S1 ?_ | refine S2 ?_))
      refine RG.put 15 rfl (v' := .val (.bool true)) (by rw [decide_eq_true (show (k : Int) < 4 by omega)]) ?_
      (repeat (first | refine K1 ?_ | refine K4 ?_ | refine L3 ?_ | refine RG.d ?_ | refine S1 ?_ | refine S2 ?_ | refine S6 ?_ | refine S7 ?_))
      exact ⟨⟨_, rfl, rfl⟩, rfl, .cons rfl (.one rfl) (Reg.lt_one rfl) ⟨[], _, rfl⟩ (.one rfl (hsC_free _) (.one rfl (dsC_free _) (.nil _)))⟩
    · have h7 : 7 < k := by omega
      refine FC.of_AW tok Tryz.func132 (by kernel_rfl) rfl Tryz.ntmps132 [] rfl rfl rfl ?_; intro w0 X0 Y f0 hI0 hX0
      (repeat (first | refine K4 ?_ | refine L2 ?_ | refine RG.d ?_ | refine S1 ?_ | refine S2 ?_))
      refine RG.put 15 rfl (v' := .val (.bool false)) (by rw [decide_eq_false (show ¬ (k : Int) < 4 by omega)]) ?_
      (repeat (first | refine K4 ?_ | refine RG.d ?_))
      refine AW.condD rfl (fun _ => ?_) (fun kk => absurd (show (k : Int) > 7 by omega) kk)
      (repeat (first | refine K4 ?_ | refine L3 ?_ | refine RG.d ?_ | refine S1 ?_ | refine S2 ?_ | refine S6 ?_))
      exact ⟨⟨_, rfl, rfl⟩, rfl, .cons rfl (.one rfl) (Reg.lt_one rfl) ⟨[], _, rfl⟩ (.one rfl (hsC_free _) (.one rfl (dsC_free _) (.nil _)))⟩
set_option maxHeartbeats 16000000 in
theorem nested_fc (E : Ev) (ok : E.ok) (d : Nat) (ih : StsFC E d) (k : Nat) (s : Ms) (hk : 4 ≤ k ∧ k ≤ 7) (hs : s.t + 130 * s.left ≤ 799880) (hdn : s.done ≤ 2) (hlp : s.loop + d + 1 ≤ 1000) : FC Tryz.prog ge 132 [.ptr 0 [] 0, i64 (k : Int), i64 ((d + 1 : Nat) : Int)] [.one (mC E s), .one (hsC E), .one (dsC E)] ((.tup [.agg (gNes E (gSts E d) k s).1.cl, .val (.bool true)])) [.one (mC E (gNes E (gSts E d) k s).2), .one (hsC E), .one (dsC E)] NoP := by
  have e3 : cT 1 = 28 := rfl
  unfold gNes
  dsimp only
  have c1 := site_fc E s (by omega)
  have t1 := gS_ct s
  obtain ⟨q1, h1⟩ : ∃ q, q = gS s := ⟨_, rfl⟩
  rw [← h1] at c1 t1  ⊢
  obtain ⟨v1, s1⟩ := q1
  dsimp only at c1 t1  ⊢
  clear h1
  by_cases h6 : k = 6
  · subst h6
    rw [if_pos rfl]
    have c2 := cond_fc E ok 1 s1 (by omega) (by have := t1.t; omega)
    have t2 := gC_ct (E := E) 1 s1
    obtain ⟨q2, h2⟩ : ∃ q, q = gC E 1 s1 := ⟨_, rfl⟩
    rw [← h2] at c2 t2  ⊢
    obtain ⟨⟨a1, a2, a3⟩, s2⟩ := q2
    dsimp only at c2 t2  ⊢
    clear h2
    have l3 := gN_lt (E := E) (n := 3) s2 (by decide)
    have c3 := gn_fc E ok.L ok.Ll 3 (by decide) (by decide) s2 (by have := t1.t; have := t2.t; omega)
    have t3 := gN_ct (E := E) 3 s2
    obtain ⟨q3, h3⟩ : ∃ q, q = gN E 3 s2 := ⟨_, rfl⟩
    rw [← h3] at c3 t3 l3 ⊢
    obtain ⟨v3, s3⟩ := q3
    dsimp only at c3 t3 l3 ⊢
    clear h3
    have q3 : ({ s3 with loop := s3.loop + 1 } : Ms).t = s3.t := rfl
    have l4 := gN_lt (E := E) (n := 2) { s3 with loop := s3.loop + 1 } (by decide)
    have c4 := gn_fc E ok.L ok.Ll 2 (by decide) (by decide) { s3 with loop := s3.loop + 1 } (show s3.t ≤ 2000000 by have := t1.t; have := t2.t; have := t3.t; omega)
    have t4 := gN_ct (E := E) 2 { s3 with loop := s3.loop + 1 }
    obtain ⟨q4, h4⟩ : ∃ q, q = gN E 2 { s3 with loop := s3.loop + 1 } := ⟨_, rfl⟩
    rw [← h4] at c4 t4 l4 ⊢
    obtain ⟨v4, s4⟩ := q4
    dsimp only at c4 t4 l4 ⊢
    clear h4
    have u1 : s4.t ≤ s3.t + 1 := t4.t
    have u2 : s4.left = s3.left := t4.left
    have u3 : s4.loop = s3.loop + 1 := t4.loop
    have u4 : s4.done = s3.done := t4.done
    have r5 : Rm s4 := ⟨by have := t1.t; have := t1.left; have := t1.loop; have := t1.done; have := t2.t; have := t2.left; have := t2.loop; have := t2.done; have := t3.t; have := t3.left; have := t3.loop; have := t3.done; omega, by have := t1.t; have := t1.left; have := t1.loop; have := t1.done; have := t2.t; have := t2.left; have := t2.loop; have := t2.done; have := t3.t; have := t3.left; have := t3.loop; have := t3.done; omega⟩
    have c5 := ih (1 + v4) s4 (by omega) r5 (by have := t1.t; have := t1.left; have := t1.loop; have := t1.done; have := t2.t; have := t2.left; have := t2.loop; have := t2.done; have := t3.t; have := t3.left; have := t3.loop; have := t3.done; omega)
    have t5 := gSts_bd ok d (1 + v4) s4 r5
    obtain ⟨q5, h5⟩ : ∃ q, q = gSts E d (1 + v4) s4 := ⟨_, rfl⟩
    rw [← h5] at c5 t5  ⊢
    obtain ⟨v5, s5⟩ := q5
    dsimp only at c5 t5  ⊢
    clear h5
    have ob : s5.loop = s.loop + 1 := by have := t5.loop; have := t1.loop; have := t2.loop; have := t3.loop; omega
    have ol : s3.loop ≤ 1000 := by have := t1.loop; have := t2.loop; have := t3.loop; omega
    clear q3
    refine FC.of_AW tok Tryz.func132 (by kernel_rfl) rfl Tryz.ntmps132 [] rfl rfl rfl ?_; intro w0 X0 Y f0 hI0 hX0
    (repeat (first | refine K4 ?_ | refine L2 ?_ | refine RG.d ?_ | refine S1 ?_ | refine S2 ?_ | refine S3 ?_ | refine S8 ?_))
    refine RG.put 15 rfl (v' := .val (.bool false)) rfl ?_
    (repeat (first | refine KM c1 ?_ | refine KM c2 ?_ | refine KM c3 ?_ | refine KM c4 ?_ | refine K2 ?_ | refine K4 ?_ | refine L1 ?_ | refine L2 ?_ | refine L3 ?_ | refine RG.d ?_ | refine S1 ?_ | refine S2 ?_ | refine S7 ?_))
    refine RG.put 45 rfl (v' := i64 (d : Int)) (by rw [show ((d + 1 : Nat) : Int) - 1 = (d : Int) by omega]) ?_
    (repeat (first | refine KM c5 ?_ | refine K4 ?_ | refine L3 ?_ | refine RG.d ?_))
    refine S1 ?_
    refine S2 ?_
    iterate 5 ((first | refine K2 ?_ | refine K4 ?_ | refine L1 ?_))
    refine RG.put 52 rfl (v' := i64 ((s5.loop - 1 : Nat) : Int)) (by rw [show (s5.loop : Int) - 1 = ((s5.loop - 1 : Nat) : Int) by omega]) ?_
    (repeat (first | refine K4 ?_ | refine L1 ?_ | refine L3 ?_ | refine RG.d ?_ | refine S1 ?_ | refine S2 ?_))
    refine AW.sub (Sub.frzH (ks := []) (c' := [i64 (v1 : Int), i64 12, i64 (0 : Int), i64 0, i64 (1 + v3 : Int), i64 0, i64 0, i64 0, .ro 0 [], i64 0, i64 0, i64 0, .ro 0 [], i64 a1, .ro a2.length (exC a2), .ro a3.length (coC a3), .ro 0 [], .ro 0 [], .ro v5.length (smC v5), .ro 0 []]) 3 rfl List.not_mem_nil (by repeat (first | exact Frzs.nil | refine Frzs.cons (Frz.wk (Frz.refl _) Wk.nil) ?_ | refine Frzs.cons (Frz.refl _) ?_))) ?_
    (repeat (first | refine S6 ?_))
    exact ⟨⟨_, rfl, rfl⟩, rfl, .cons rfl (.one rfl) (Reg.lt_one rfl) ⟨[], _, rfl⟩ (.one rfl (hsC_free _) (.one rfl (dsC_free _) (.nil _)))⟩
  rw [if_neg h6]
  by_cases h7 : k = 7
  · subst h7
    rw [if_pos rfl]
    have c2 := target_fc E ok s1 (by have := t1.t; omega)
    have t2 := gT_ct (E := E) s1
    obtain ⟨q2, h2⟩ : ∃ q, q = gT E s1 := ⟨_, rfl⟩
    rw [← h2] at c2 t2  ⊢
    obtain ⟨v2, s2⟩ := q2
    dsimp only at c2 t2  ⊢
    clear h2
    have l3 := gN_lt (E := E) (n := 2) s2 (by decide)
    have c3 := gn_fc E ok.L ok.Ll 2 (by decide) (by decide) s2 (by have := t1.t; have := t2.t; omega)
    have t3 := gN_ct (E := E) 2 s2
    obtain ⟨q3, h3⟩ : ∃ q, q = gN E 2 s2 := ⟨_, rfl⟩
    rw [← h3] at c3 t3 l3 ⊢
    obtain ⟨v3, s3⟩ := q3
    dsimp only at c3 t3 l3 ⊢
    clear h3
    have r4 : Rm s3 := ⟨by have := t1.t; have := t1.left; have := t1.loop; have := t1.done; have := t2.t; have := t2.left; have := t2.loop; have := t2.done; have := t3.t; have := t3.left; have := t3.loop; have := t3.done; omega, by have := t1.t; have := t1.left; have := t1.loop; have := t1.done; have := t2.t; have := t2.left; have := t2.loop; have := t2.done; have := t3.t; have := t3.left; have := t3.loop; have := t3.done; omega⟩
    have c4 := ih (1 + v3) s3 (by omega) r4 (by have := t1.t; have := t1.left; have := t1.loop; have := t1.done; have := t2.t; have := t2.left; have := t2.loop; have := t2.done; have := t3.t; have := t3.left; have := t3.loop; have := t3.done; omega)
    have t4 := gSts_bd ok d (1 + v3) s3 r4
    obtain ⟨q4, h4⟩ : ∃ q, q = gSts E d (1 + v3) s3 := ⟨_, rfl⟩
    rw [← h4] at c4 t4  ⊢
    obtain ⟨v4, s4⟩ := q4
    dsimp only at c4 t4  ⊢
    clear h4
    have l5 := gN_lt (E := E) (n := 2) s4 (by decide)
    have c5 := gn_fc E ok.L ok.Ll 2 (by decide) (by decide) s4 (by have := t1.t; have := t1.left; have := t1.loop; have := t1.done; have := t2.t; have := t2.left; have := t2.loop; have := t2.done; have := t3.t; have := t3.left; have := t3.loop; have := t3.done; have := t4.e; have := t4.left; have := t4.loop; have := t4.done; omega)
    have t5 := gN_ct (E := E) 2 s4
    obtain ⟨q5, h5⟩ : ∃ q, q = gN E 2 s4 := ⟨_, rfl⟩
    rw [← h5] at c5 t5 l5 ⊢
    obtain ⟨v5, s5⟩ := q5
    dsimp only at c5 t5 l5 ⊢
    clear h5
    have r6 : Rm s5 := ⟨by have := t1.t; have := t1.left; have := t1.loop; have := t1.done; have := t2.t; have := t2.left; have := t2.loop; have := t2.done; have := t3.t; have := t3.left; have := t3.loop; have := t3.done; have := t5.t; have := t5.left; have := t5.loop; have := t5.done; have := t4.e; have := t4.left; have := t4.loop; have := t4.done; omega, by have := t1.t; have := t1.left; have := t1.loop; have := t1.done; have := t2.t; have := t2.left; have := t2.loop; have := t2.done; have := t3.t; have := t3.left; have := t3.loop; have := t3.done; have := t5.t; have := t5.left; have := t5.loop; have := t5.done; have := t4.e; have := t4.left; have := t4.loop; have := t4.done; omega⟩
    have c6 := ih v5 s5 (by omega) r6 (by have := t1.t; have := t1.left; have := t1.loop; have := t1.done; have := t2.t; have := t2.left; have := t2.loop; have := t2.done; have := t3.t; have := t3.left; have := t3.loop; have := t3.done; have := t5.t; have := t5.left; have := t5.loop; have := t5.done; have := t4.e; have := t4.left; have := t4.loop; have := t4.done; omega)
    have t6 := gSts_bd ok d v5 s5 r6
    obtain ⟨q6, h6⟩ : ∃ q, q = gSts E d v5 s5 := ⟨_, rfl⟩
    rw [← h6] at c6 t6  ⊢
    obtain ⟨v6, s6⟩ := q6
    dsimp only at c6 t6  ⊢
    clear h6
    refine FC.of_AW tok Tryz.func132 (by kernel_rfl) rfl Tryz.ntmps132 [] rfl rfl rfl ?_; intro w0 X0 Y f0 hI0 hX0
    (repeat (first | refine K4 ?_ | refine L2 ?_ | refine RG.d ?_ | refine S1 ?_ | refine S2 ?_ | refine S3 ?_ | refine S8 ?_))
    refine RG.put 15 rfl (v' := .val (.bool false)) rfl ?_
    (repeat (first | refine KM c1 ?_ | refine KM c2 ?_ | refine KM c3 ?_ | refine K2 ?_ | refine K4 ?_ | refine L2 ?_ | refine L3 ?_ | refine RG.d ?_ | refine S1 ?_ | refine S2 ?_ | refine S3 ?_ | refine S7 ?_ | refine S8 ?_))
    refine RG.put 70 rfl (v' := i64 (d : Int)) (by rw [show ((d + 1 : Nat) : Int) - 1 = (d : Int) by omega]) ?_
    (repeat (first | refine KM c4 ?_ | refine KM c5 ?_ | refine K2 ?_ | refine K4 ?_ | refine L3 ?_ | refine RG.d ?_ | refine S1 ?_ | refine S2 ?_))
    refine RG.put 77 rfl (v' := i64 (d : Int)) (by rw [show ((d + 1 : Nat) : Int) - 1 = (d : Int) by omega]) ?_
    (repeat (first | refine KM c6 ?_ | refine K4 ?_ | refine L1 ?_ | refine L3 ?_ | refine RG.d ?_ | refine S1 ?_ | refine S2 ?_))
    refine AW.sub (Sub.frzH (ks := []) (c' := [i64 (v1 : Int), i64 15, i64 (v2 : Int), i64 0, i64 (0 : Int), i64 0, i64 0, i64 0, .ro 0 [], i64 0, i64 0, i64 0, .ro 0 [], i64 0, .ro 0 [], .ro 0 [], .ro 0 [], .ro 0 [], .ro v4.length (smC v4), .ro v6.length (smC v6)]) 3 rfl List.not_mem_nil (by repeat (first | exact Frzs.nil | refine Frzs.cons (Frz.wk (Frz.refl _) Wk.nil) ?_ | refine Frzs.cons (Frz.refl _) ?_))) ?_
    (repeat (first | refine S6 ?_))
    exact ⟨⟨_, rfl, rfl⟩, rfl, .cons rfl (.one rfl) (Reg.lt_one rfl) ⟨[], _, rfl⟩ (.one rfl (hsC_free _) (.one rfl (dsC_free _) (.nil _)))⟩
  rw [if_neg h7]
  have c2 := cond_fc E ok 1 s1 (by omega) (by have := t1.t; omega)
  have t2 := gC_ct (E := E) 1 s1
  obtain ⟨q2, h2⟩ : ∃ q, q = gC E 1 s1 := ⟨_, rfl⟩
  rw [← h2] at c2 t2  ⊢
  obtain ⟨⟨a1, a2, a3⟩, s2⟩ := q2
  dsimp only at c2 t2  ⊢
  clear h2
  have l3 := gN_lt (E := E) (n := 2) s2 (by decide)
  have c3 := gn_fc E ok.L ok.Ll 2 (by decide) (by decide) s2 (by have := t1.t; have := t2.t; omega)
  have t3 := gN_ct (E := E) 2 s2
  obtain ⟨q3, h3⟩ : ∃ q, q = gN E 2 s2 := ⟨_, rfl⟩
  rw [← h3] at c3 t3 l3 ⊢
  obtain ⟨v3, s3⟩ := q3
  dsimp only at c3 t3 l3 ⊢
  clear h3
  have r4 : Rm s3 := ⟨by have := t1.t; have := t1.left; have := t1.loop; have := t1.done; have := t2.t; have := t2.left; have := t2.loop; have := t2.done; have := t3.t; have := t3.left; have := t3.loop; have := t3.done; omega, by have := t1.t; have := t1.left; have := t1.loop; have := t1.done; have := t2.t; have := t2.left; have := t2.loop; have := t2.done; have := t3.t; have := t3.left; have := t3.loop; have := t3.done; omega⟩
  have c4 := ih (1 + v3) s3 (by omega) r4 (by have := t1.t; have := t1.left; have := t1.loop; have := t1.done; have := t2.t; have := t2.left; have := t2.loop; have := t2.done; have := t3.t; have := t3.left; have := t3.loop; have := t3.done; omega)
  have t4 := gSts_bd ok d (1 + v3) s3 r4
  obtain ⟨q4, h4⟩ : ∃ q, q = gSts E d (1 + v3) s3 := ⟨_, rfl⟩
  rw [← h4] at c4 t4  ⊢
  obtain ⟨v4, s4⟩ := q4
  dsimp only at c4 t4  ⊢
  clear h4
  have l5 := gN_lt (E := E) (n := 2) s4 (by decide)
  have c5 := gn_fc E ok.L ok.Ll 2 (by decide) (by decide) s4 (by have := t1.t; have := t1.left; have := t1.loop; have := t1.done; have := t2.t; have := t2.left; have := t2.loop; have := t2.done; have := t3.t; have := t3.left; have := t3.loop; have := t3.done; have := t4.e; have := t4.left; have := t4.loop; have := t4.done; omega)
  have t5 := gN_ct (E := E) 2 s4
  obtain ⟨q5, h5⟩ : ∃ q, q = gN E 2 s4 := ⟨_, rfl⟩
  rw [← h5] at c5 t5 l5 ⊢
  obtain ⟨v5, s5⟩ := q5
  dsimp only at c5 t5 l5 ⊢
  clear h5
  have r6 : Rm s5 := ⟨by have := t1.t; have := t1.left; have := t1.loop; have := t1.done; have := t2.t; have := t2.left; have := t2.loop; have := t2.done; have := t3.t; have := t3.left; have := t3.loop; have := t3.done; have := t5.t; have := t5.left; have := t5.loop; have := t5.done; have := t4.e; have := t4.left; have := t4.loop; have := t4.done; omega, by have := t1.t; have := t1.left; have := t1.loop; have := t1.done; have := t2.t; have := t2.left; have := t2.loop; have := t2.done; have := t3.t; have := t3.left; have := t3.loop; have := t3.done; have := t5.t; have := t5.left; have := t5.loop; have := t5.done; have := t4.e; have := t4.left; have := t4.loop; have := t4.done; omega⟩
  have c6 := ih v5 s5 (by omega) r6 (by have := t1.t; have := t1.left; have := t1.loop; have := t1.done; have := t2.t; have := t2.left; have := t2.loop; have := t2.done; have := t3.t; have := t3.left; have := t3.loop; have := t3.done; have := t5.t; have := t5.left; have := t5.loop; have := t5.done; have := t4.e; have := t4.left; have := t4.loop; have := t4.done; omega)
  have t6 := gSts_bd ok d v5 s5 r6
  obtain ⟨q6, h6⟩ : ∃ q, q = gSts E d v5 s5 := ⟨_, rfl⟩
  rw [← h6] at c6 t6  ⊢
  obtain ⟨v6, s6⟩ := q6
  dsimp only at c6 t6  ⊢
  clear h6
  refine FC.of_AW tok Tryz.func132 (by kernel_rfl) rfl Tryz.ntmps132 [] rfl rfl rfl ?_; intro w0 X0 Y f0 hI0 hX0
  (repeat (first | refine K4 ?_ | refine L2 ?_ | refine RG.d ?_ | refine S1 ?_ | refine S2 ?_))
  refine RG.put 15 rfl (v' := .val (.bool false)) (by rw [decide_eq_false (show ¬ (k : Int) < 4 by omega)]) ?_
  (repeat (first | refine K4 ?_ | refine RG.d ?_))
  refine AW.condD rfl (fun k => absurd k (by omega)) (fun _ => ?_)
  (repeat (first | refine KM c1 ?_ | refine K4 ?_ | refine L2 ?_ | refine L3 ?_ | refine RG.d ?_ | refine S1 ?_ | refine S2 ?_ | refine S3 ?_))
  refine AW.condD rfl (fun k => absurd k (by omega)) (fun _ => ?_)
  (repeat (first | refine K4 ?_ | refine RG.d ?_ | refine S1 ?_ | refine S2 ?_ | refine S3 ?_))
  refine AW.condD rfl (fun k => absurd k (by omega)) (fun _ => ?_)
  (repeat (first | refine KM c2 ?_ | refine KM c3 ?_ | refine K2 ?_ | refine K4 ?_ | refine L3 ?_ | refine RG.d ?_ | refine S1 ?_ | refine S2 ?_))
  refine RG.put 70 rfl (v' := i64 (d : Int)) (by rw [show ((d + 1 : Nat) : Int) - 1 = (d : Int) by omega]) ?_
  (repeat (first | refine KM c4 ?_ | refine KM c5 ?_ | refine K2 ?_ | refine K4 ?_ | refine L3 ?_ | refine RG.d ?_ | refine S1 ?_ | refine S2 ?_))
  refine RG.put 77 rfl (v' := i64 (d : Int)) (by rw [show ((d + 1 : Nat) : Int) - 1 = (d : Int) by omega]) ?_
  (repeat (first | refine KM c6 ?_ | refine K4 ?_ | refine L1 ?_ | refine L3 ?_ | refine RG.d ?_ | refine S1 ?_ | refine S2 ?_))
  refine AW.sub (Sub.frzH (ks := []) (c' := [i64 (v1 : Int), i64 11, i64 (0 : Int), i64 0, i64 (0 : Int), i64 0, i64 0, i64 0, .ro 0 [], i64 0, i64 0, i64 0, .ro 0 [], i64 a1, .ro a2.length (exC a2), .ro a3.length (coC a3), .ro 0 [], .ro 0 [], .ro v4.length (smC v4), .ro v6.length (smC v6)]) 3 rfl List.not_mem_nil (by repeat (first | exact Frzs.nil | refine Frzs.cons (Frz.wk (Frz.refl _) Wk.nil) ?_ | refine Frzs.cons (Frz.refl _) ?_))) ?_
  (repeat (first | refine S6 ?_))
  exact ⟨⟨_, rfl, rfl⟩, rfl, .cons rfl (.one rfl) (Reg.lt_one rfl) ⟨[], _, rfl⟩ (.one rfl (hsC_free _) (.one rfl (dsC_free _) (.nil _)))⟩
end Go.Proofs.YtifeioddiddnoaaGreatDoor
