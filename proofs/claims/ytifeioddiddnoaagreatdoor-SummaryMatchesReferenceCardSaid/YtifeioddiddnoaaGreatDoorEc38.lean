/- The maker of programs: simple statements, and those that may fail. No conditions. -/
import Derived.Test.YtifeioddiddnoaaGreatDoorEc37
set_option linter.unusedVariables false
set_option linter.unusedSimpArgs false
namespace Go.Proofs.YtifeioddiddnoaaGreatDoor
open Go.Abs Go Go.RowKit
set_option maxRecDepth 20000
set_option maxHeartbeats 16000000 in
theorem risky_fc (E : Ev) (ok : E.ok) (s : Ms) (hs : s.t + 40 ≤ 2000000) : FC Tryz.prog ge 155 [.ptr 0 [] 0] [.one (mC E s), .one (hsC E), .one (dsC E)] ((.agg (gRisky E s).1.cl)) [.one (mC E (gRisky E s).2), .one (hsC E), .one (dsC E)] NoP := by
  have e1 : eT 1 = 6 := rfl
  have e2 : eT 2 = 14 := rfl
  have e3 : cT 1 = 28 := rfl
  have har := ok.arr
  unfold gRisky
  dsimp only
  have c1 := site_fc E s (by omega)
  have t1 := gS_ct s
  obtain ⟨q1, h1⟩ : ∃ q, q = gS s := ⟨_, rfl⟩
  rw [← h1] at c1 t1  ⊢
  obtain ⟨v1, s1⟩ := q1
  dsimp only at c1 t1  ⊢
  clear h1
  have l2 := gN_lt (E := E) (n := 15) s1 (by decide)
  have c2 := gn_fc E ok.L ok.Ll 15 (by decide) (by decide) s1 (by have := t1.t; omega)
  have t2 := gN_ct (E := E) 15 s1
  obtain ⟨q2, h2⟩ : ∃ q, q = gN E 15 s1 := ⟨_, rfl⟩
  rw [← h2] at c2 t2 l2 ⊢
  obtain ⟨v2, s2⟩ := q2
  dsimp only at c2 t2 l2 ⊢
  clear h2
  obtain ⟨R, hR⟩ : ∃ R, R = gRk E v1 v2 s2 := ⟨_, rfl⟩
  rw [← hR]
  refine FC.of_AW tok Tryz.func155 (by kernel_rfl) rfl Tryz.ntmps155 [] rfl rfl rfl ?_; intro w0 X0 Y f0 hI0 hX0
  (repeat (first | refine KM c1 ?_ | refine KM c2 ?_ | refine K4 ?_ | refine L2 ?_ | refine L3 ?_ | refine RG.d ?_ | refine S1 ?_ | refine S2 ?_ | refine S4 ?_))
  refine AW.condD rfl (fun hk => ?_) (fun hn0 => ?_)
  · obtain rfl : v2 = 0 := by omega
    dsimp only [gRk, gArr] at hR
    have c3 := target_fc E ok s2 (by have := t1.t; have := t2.t; omega)
    have t3 := gT_ct (E := E) s2
    obtain ⟨q3, h3⟩ : ∃ q, q = gT E s2 := ⟨_, rfl⟩
    rw [← h3] at c3 t3  hR
    obtain ⟨v3, s3⟩ := q3
    dsimp only at c3 t3  hR
    clear h3
    have c4 := gn_fc E ok.L ok.Ll E.D.arrays.length (by omega) (by omega) s3 (by have := t1.t; have := t2.t; have := t3.t; omega)
    have t4 := gN_ct (E := E) E.D.arrays.length s3
    obtain ⟨q4, h4⟩ : ∃ q, q = gN E E.D.arrays.length s3 := ⟨_, rfl⟩
    rw [← h4] at c4 t4  hR
    obtain ⟨v4, s4⟩ := q4
    dsimp only at c4 t4  hR
    clear h4
    have c5 := expr_fc E ok 1 s4 (by omega) (by have := t1.t; have := t2.t; have := t3.t; have := t4.t; omega)
    have t5 := gE_ct (E := E) 1 s4
    obtain ⟨q5, h5⟩ : ∃ q, q = gE E 1 s4 := ⟨_, rfl⟩
    rw [← h5] at c5 t5  hR
    obtain ⟨⟨f1, f2, f3, f4⟩, s5⟩ := q5
    dsimp only at c5 t5  hR
    clear h5
    subst hR
    (repeat (first | refine KM c3 ?_ | refine KM c4 ?_ | refine KM c5 ?_ | refine L4 ?_ | refine RG.dS ?_ | refine K4 ?_ | refine L3 ?_ | refine S1 ?_ | refine S2 ?_ | refine S3 ?_ | refine S7 ?_))
    refine AW.sub (Sub.frzH (ks := []) (c' := [i64 (v1 : Int), i64 (2 : Int), i64 (v3 : Int), i64 (v4 : Int), i64 0, i64 f1, i64 f2, i64 f3, .ro f4.length (exC f4), i64 0, i64 0, i64 0, .ro 0 [], i64 0, .ro 0 [], .ro 0 [], .ro 0 [], .ro 0 [], .ro 0 [], .ro 0 []]) 3 rfl List.not_mem_nil (by repeat (first | exact Frzs.nil | refine Frzs.cons (Frz.wk (Frz.refl _) Wk.nil) ?_ | refine Frzs.cons (Frz.refl _) ?_))) ?_
    (repeat (first | refine S6 ?_))
    exact ⟨⟨_, rfl, rfl⟩, rfl, .cons rfl (.one rfl) (Reg.lt_one rfl) ⟨[], _, rfl⟩ (.one rfl (hsC_free _) (.one rfl (dsC_free _) (.nil _)))⟩
  (repeat (first | refine K4 ?_ | refine RG.d ?_ | refine S2 ?_))
  refine AW.condD rfl (fun hk => ?_) (fun hn1 => ?_)
  · obtain rfl : v2 = 1 := by omega
    dsimp only [gRk, gArr] at hR
    have c3 := target_fc E ok s2 (by have := t1.t; have := t2.t; omega)
    have t3 := gT_ct (E := E) s2
    obtain ⟨q3, h3⟩ : ∃ q, q = gT E s2 := ⟨_, rfl⟩
    rw [← h3] at c3 t3  hR
    obtain ⟨v3, s3⟩ := q3
    dsimp only at c3 t3  hR
    clear h3
    have c4 := gn_fc E ok.L ok.Ll E.D.arrays.length (by omega) (by omega) s3 (by have := t1.t; have := t2.t; have := t3.t; omega)
    have t4 := gN_ct (E := E) E.D.arrays.length s3
    obtain ⟨q4, h4⟩ : ∃ q, q = gN E E.D.arrays.length s3 := ⟨_, rfl⟩
    rw [← h4] at c4 t4  hR
    obtain ⟨v4, s4⟩ := q4
    dsimp only at c4 t4  hR
    clear h4
    have c5 := expr_fc E ok 1 s4 (by omega) (by have := t1.t; have := t2.t; have := t3.t; have := t4.t; omega)
    have t5 := gE_ct (E := E) 1 s4
    obtain ⟨q5, h5⟩ : ∃ q, q = gE E 1 s4 := ⟨_, rfl⟩
    rw [← h5] at c5 t5  hR
    obtain ⟨⟨f1, f2, f3, f4⟩, s5⟩ := q5
    dsimp only at c5 t5  hR
    clear h5
    subst hR
    (repeat (first | refine KM c3 ?_ | refine KM c4 ?_ | refine KM c5 ?_ | refine L4 ?_ | refine RG.dS ?_ | refine K4 ?_ | refine L3 ?_ | refine S1 ?_ | refine S2 ?_))
    refine AW.sub (Sub.frzH (ks := []) (c' := [i64 (v1 : Int), i64 (2 : Int), i64 (v3 : Int), i64 (v4 : Int), i64 0, i64 f1, i64 f2, i64 f3, .ro f4.length (exC f4), i64 0, i64 0, i64 0, .ro 0 [], i64 0, .ro 0 [], .ro 0 [], .ro 0 [], .ro 0 [], .ro 0 [], .ro 0 []]) 3 rfl List.not_mem_nil (by repeat (first | exact Frzs.nil | refine Frzs.cons (Frz.wk (Frz.refl _) Wk.nil) ?_ | refine Frzs.cons (Frz.refl _) ?_))) ?_
    (repeat (first | refine S6 ?_))
    exact ⟨⟨_, rfl, rfl⟩, rfl, .cons rfl (.one rfl) (Reg.lt_one rfl) ⟨[], _, rfl⟩ (.one rfl (hsC_free _) (.one rfl (dsC_free _) (.nil _)))⟩
  (repeat (first | refine K4 ?_ | refine RG.d ?_ | refine S1 ?_ | refine S2 ?_))
  refine AW.condD rfl (fun hk => ?_) (fun hn2 => ?_)
  · obtain rfl : v2 = 2 := by omega
    dsimp only [gRk, gArr] at hR
    have c3 := gn_fc E ok.L ok.Ll E.D.arrays.length (by omega) (by omega) s2 (by have := t1.t; have := t2.t; omega)
    have t3 := gN_ct (E := E) E.D.arrays.length s2
    obtain ⟨q3, h3⟩ : ∃ q, q = gN E E.D.arrays.length s2 := ⟨_, rfl⟩
    rw [← h3] at c3 t3  hR
    obtain ⟨v3, s3⟩ := q3
    dsimp only at c3 t3  hR
    clear h3
    have c4 := expr_fc E ok 1 s3 (by omega) (by have := t1.t; have := t2.t; have := t3.t; omega)
    have t4 := gE_ct (E := E) 1 s3
    obtain ⟨q4, h4⟩ : ∃ q, q = gE E 1 s3 := ⟨_, rfl⟩
    rw [← h4] at c4 t4  hR
    obtain ⟨⟨e1, e2, e3, e4⟩, s4⟩ := q4
    dsimp only at c4 t4  hR
    clear h4
    have c5 := expr_fc E ok 1 s4 (by omega) (by have := t1.t; have := t2.t; have := t3.t; have := t4.t; omega)
    have t5 := gE_ct (E := E) 1 s4
    obtain ⟨q5, h5⟩ : ∃ q, q = gE E 1 s4 := ⟨_, rfl⟩
    rw [← h5] at c5 t5  hR
    obtain ⟨⟨f1, f2, f3, f4⟩, s5⟩ := q5
    dsimp only at c5 t5  hR
    clear h5
    subst hR
    (repeat (first | refine KM c3 ?_ | refine KM c4 ?_ | refine KM c5 ?_ | refine L4 ?_ | refine RG.dS ?_ | refine K4 ?_ | refine L3 ?_ | refine S1 ?_ | refine S2 ?_))
    refine AW.sub (Sub.frzH (ks := []) (c' := [i64 (v1 : Int), i64 (3 : Int), i64 (0 : Int), i64 (v3 : Int), i64 0, i64 e1, i64 e2, i64 e3, .ro e4.length (exC e4), i64 f1, i64 f2, i64 f3, .ro f4.length (exC f4), i64 0, .ro 0 [], .ro 0 [], .ro 0 [], .ro 0 [], .ro 0 [], .ro 0 []]) 3 rfl List.not_mem_nil (by repeat (first | exact Frzs.nil | refine Frzs.cons (Frz.wk (Frz.refl _) Wk.nil) ?_ | refine Frzs.cons (Frz.refl _) ?_))) ?_
    (repeat (first | refine S6 ?_))
    exact ⟨⟨_, rfl, rfl⟩, rfl, .cons rfl (.one rfl) (Reg.lt_one rfl) ⟨[], _, rfl⟩ (.one rfl (hsC_free _) (.one rfl (dsC_free _) (.nil _)))⟩
  (repeat (first | refine K4 ?_ | refine RG.d ?_ | refine S1 ?_ | refine S2 ?_))
  refine AW.condD rfl (fun hk => ?_) (fun hn3 => ?_)
  · obtain rfl : v2 = 3 := by omega
    dsimp only [gRk, gArr] at hR
    have l3 := gN_lt (E := E) (n := 2) s2 (by decide)
    have c3 := gn_fc E ok.L ok.Ll 2 (by decide) (by decide) s2 (by have := t1.t; have := t2.t; omega)
    have t3 := gN_ct (E := E) 2 s2
    obtain ⟨q3, h3⟩ : ∃ q, q = gN E 2 s2 := ⟨_, rfl⟩
    rw [← h3] at c3 t3 l3 hR
    obtain ⟨v3, s3⟩ := q3
    dsimp only at c3 t3 l3 hR
    clear h3
    have c4 := expr_fc E ok 1 s3 (by omega) (by have := t1.t; have := t2.t; have := t3.t; omega)
    have t4 := gE_ct (E := E) 1 s3
    obtain ⟨q4, h4⟩ : ∃ q, q = gE E 1 s3 := ⟨_, rfl⟩
    rw [← h4] at c4 t4  hR
    obtain ⟨⟨e1, e2, e3, e4⟩, s4⟩ := q4
    dsimp only at c4 t4  hR
    clear h4
    subst hR
    (repeat (first | refine KM c3 ?_ | refine KM c4 ?_ | refine L4 ?_ | refine RG.dS ?_ | refine K4 ?_ | refine L3 ?_ | refine S1 ?_ | refine S2 ?_))
    refine AW.sub (Sub.frzH (ks := []) (c' := [i64 (v1 : Int), i64 (5 : Int), i64 (0 : Int), i64 (v3 : Int), i64 0, i64 e1, i64 e2, i64 e3, .ro e4.length (exC e4), i64 0, i64 0, i64 0, .ro 0 [], i64 0, .ro 0 [], .ro 0 [], .ro 0 [], .ro 0 [], .ro 0 [], .ro 0 []]) 3 rfl List.not_mem_nil (by repeat (first | exact Frzs.nil | refine Frzs.cons (Frz.wk (Frz.refl _) Wk.nil) ?_ | refine Frzs.cons (Frz.refl _) ?_))) ?_
    (repeat (first | refine S6 ?_))
    exact ⟨⟨_, rfl, rfl⟩, rfl, .cons rfl (.one rfl) (Reg.lt_one rfl) ⟨[], _, rfl⟩ (.one rfl (hsC_free _) (.one rfl (dsC_free _) (.nil _)))⟩
  (repeat (first | refine K4 ?_ | refine RG.d ?_ | refine S1 ?_ | refine S2 ?_))
  refine AW.condD rfl (fun hk => ?_) (fun hn4 => ?_)
  · obtain rfl : v2 = 4 := by omega
    dsimp only [gRk, gArr] at hR
    have l3 := gN_lt (E := E) (n := 2) s2 (by decide)
    have c3 := gn_fc E ok.L ok.Ll 2 (by decide) (by decide) s2 (by have := t1.t; have := t2.t; omega)
    have t3 := gN_ct (E := E) 2 s2
    obtain ⟨q3, h3⟩ : ∃ q, q = gN E 2 s2 := ⟨_, rfl⟩
    rw [← h3] at c3 t3 l3 hR
    obtain ⟨v3, s3⟩ := q3
    dsimp only at c3 t3 l3 hR
    clear h3
    subst hR
    (repeat (first | refine KM c3 ?_ | refine L4 ?_ | refine RG.dS ?_ | refine K4 ?_ | refine L3 ?_ | refine S1 ?_ | refine S2 ?_))
    refine AW.sub (Sub.frzH (ks := []) (c' := [i64 (v1 : Int), i64 (6 : Int), i64 (v3 : Int), i64 (0 : Int), i64 0, i64 0, i64 0, i64 0, .ro 0 [], i64 0, i64 0, i64 0, .ro 0 [], i64 0, .ro 0 [], .ro 0 [], .ro 0 [], .ro 0 [], .ro 0 [], .ro 0 []]) 3 rfl List.not_mem_nil (by repeat (first | exact Frzs.nil | refine Frzs.cons (Frz.wk (Frz.refl _) Wk.nil) ?_ | refine Frzs.cons (Frz.refl _) ?_))) ?_
    (repeat (first | refine S6 ?_))
    exact ⟨⟨_, rfl, rfl⟩, rfl, .cons rfl (.one rfl) (Reg.lt_one rfl) ⟨[], _, rfl⟩ (.one rfl (hsC_free _) (.one rfl (dsC_free _) (.nil _)))⟩
  (repeat (first | refine K4 ?_ | refine RG.d ?_ | refine S1 ?_ | refine S2 ?_))
  refine AW.condD rfl (fun hk => ?_) (fun hn5 => ?_)
  · obtain rfl : v2 = 5 := by omega
    dsimp only [gRk, gArr] at hR
    have l3 := gN_lt (E := E) (n := 2) s2 (by decide)
    have c3 := gn_fc E ok.L ok.Ll 2 (by decide) (by decide) s2 (by have := t1.t; have := t2.t; omega)
    have t3 := gN_ct (E := E) 2 s2
    obtain ⟨q3, h3⟩ : ∃ q, q = gN E 2 s2 := ⟨_, rfl⟩
    rw [← h3] at c3 t3 l3 hR
    obtain ⟨v3, s3⟩ := q3
    dsimp only at c3 t3 l3 hR
    clear h3
    subst hR
    (repeat (first | refine KM c3 ?_ | refine L4 ?_ | refine RG.dS ?_ | refine K4 ?_ | refine L3 ?_ | refine S1 ?_ | refine S2 ?_))
    refine AW.sub (Sub.frzH (ks := []) (c' := [i64 (v1 : Int), i64 (7 : Int), i64 (v3 : Int), i64 (0 : Int), i64 0, i64 0, i64 0, i64 0, .ro 0 [], i64 0, i64 0, i64 0, .ro 0 [], i64 0, .ro 0 [], .ro 0 [], .ro 0 [], .ro 0 [], .ro 0 [], .ro 0 []]) 3 rfl List.not_mem_nil (by repeat (first | exact Frzs.nil | refine Frzs.cons (Frz.wk (Frz.refl _) Wk.nil) ?_ | refine Frzs.cons (Frz.refl _) ?_))) ?_
    (repeat (first | refine S6 ?_))
    exact ⟨⟨_, rfl, rfl⟩, rfl, .cons rfl (.one rfl) (Reg.lt_one rfl) ⟨[], _, rfl⟩ (.one rfl (hsC_free _) (.one rfl (dsC_free _) (.nil _)))⟩
  (repeat (first | refine K4 ?_ | refine RG.d ?_ | refine S1 ?_ | refine S2 ?_))
  refine AW.condD rfl (fun hk => ?_) (fun hn6 => ?_)
  · obtain rfl : v2 = 6 := by omega
    dsimp only [gRk, gArr] at hR
    have l3 := gN_lt (E := E) (n := 2) s2 (by decide)
    have c3 := gn_fc E ok.L ok.Ll 2 (by decide) (by decide) s2 (by have := t1.t; have := t2.t; omega)
    have t3 := gN_ct (E := E) 2 s2
    obtain ⟨q3, h3⟩ : ∃ q, q = gN E 2 s2 := ⟨_, rfl⟩
    rw [← h3] at c3 t3 l3 hR
    obtain ⟨v3, s3⟩ := q3
    dsimp only at c3 t3 l3 hR
    clear h3
    have l4 := gN_lt (E := E) (n := 2) s3 (by decide)
    have c4 := gn_fc E ok.L ok.Ll 2 (by decide) (by decide) s3 (by have := t1.t; have := t2.t; have := t3.t; omega)
    have t4 := gN_ct (E := E) 2 s3
    obtain ⟨q4, h4⟩ : ∃ q, q = gN E 2 s3 := ⟨_, rfl⟩
    rw [← h4] at c4 t4 l4 hR
    obtain ⟨v4, s4⟩ := q4
    dsimp only at c4 t4 l4 hR
    clear h4
    subst hR
    (repeat (first | refine KM c3 ?_ | refine KM c4 ?_ | refine L4 ?_ | refine RG.dS ?_ | refine K4 ?_ | refine L3 ?_ | refine S1 ?_ | refine S2 ?_))
    refine AW.sub (Sub.frzH (ks := []) (c' := [i64 (v1 : Int), i64 (8 : Int), i64 (v3 : Int), i64 (v4 : Int), i64 0, i64 0, i64 0, i64 0, .ro 0 [], i64 0, i64 0, i64 0, .ro 0 [], i64 0, .ro 0 [], .ro 0 [], .ro 0 [], .ro 0 [], .ro 0 [], .ro 0 []]) 3 rfl List.not_mem_nil (by repeat (first | exact Frzs.nil | refine Frzs.cons (Frz.wk (Frz.refl _) Wk.nil) ?_ | refine Frzs.cons (Frz.refl _) ?_))) ?_
    (repeat (first | refine S6 ?_))
    exact ⟨⟨_, rfl, rfl⟩, rfl, .cons rfl (.one rfl) (Reg.lt_one rfl) ⟨[], _, rfl⟩ (.one rfl (hsC_free _) (.one rfl (dsC_free _) (.nil _)))⟩
  (repeat (first | refine K4 ?_ | refine RG.d ?_ | refine S1 ?_ | refine S2 ?_))
  refine AW.condD rfl (fun hk => ?_) (fun hn7 => ?_)
  · obtain rfl : v2 = 7 := by omega
    dsimp only [gRk, gArr] at hR
    have c3 := target_fc E ok s2 (by have := t1.t; have := t2.t; omega)
    have t3 := gT_ct (E := E) s2
    obtain ⟨q3, h3⟩ : ∃ q, q = gT E s2 := ⟨_, rfl⟩
    rw [← h3] at c3 t3  hR
    obtain ⟨v3, s3⟩ := q3
    dsimp only at c3 t3  hR
    clear h3
    have l4 := gN_lt (E := E) (n := 2) s3 (by decide)
    have c4 := gn_fc E ok.L ok.Ll 2 (by decide) (by decide) s3 (by have := t1.t; have := t2.t; have := t3.t; omega)
    have t4 := gN_ct (E := E) 2 s3
    obtain ⟨q4, h4⟩ : ∃ q, q = gN E 2 s3 := ⟨_, rfl⟩
    rw [← h4] at c4 t4 l4 hR
    obtain ⟨v4, s4⟩ := q4
    dsimp only at c4 t4 l4 hR
    clear h4
    subst hR
    (repeat (first | refine KM c3 ?_ | refine KM c4 ?_ | refine L4 ?_ | refine RG.dS ?_ | refine K4 ?_ | refine L3 ?_ | refine S1 ?_ | refine S2 ?_))
    refine AW.sub (Sub.frzH (ks := []) (c' := [i64 (v1 : Int), i64 (10 : Int), i64 (v3 : Int), i64 (v4 : Int), i64 0, i64 0, i64 0, i64 0, .ro 0 [], i64 0, i64 0, i64 0, .ro 0 [], i64 0, .ro 0 [], .ro 0 [], .ro 0 [], .ro 0 [], .ro 0 [], .ro 0 []]) 3 rfl List.not_mem_nil (by repeat (first | exact Frzs.nil | refine Frzs.cons (Frz.wk (Frz.refl _) Wk.nil) ?_ | refine Frzs.cons (Frz.refl _) ?_))) ?_
    (repeat (first | refine S6 ?_))
    exact ⟨⟨_, rfl, rfl⟩, rfl, .cons rfl (.one rfl) (Reg.lt_one rfl) ⟨[], _, rfl⟩ (.one rfl (hsC_free _) (.one rfl (dsC_free _) (.nil _)))⟩
  (repeat (first | refine K4 ?_ | refine RG.d ?_ | refine S1 ?_ | refine S2 ?_))
  refine AW.condD rfl (fun hk => ?_) (fun hn8 => ?_)
  · obtain rfl : v2 = 8 := by omega
    dsimp only [gRk, gArr] at hR
    have l3 := gN_lt (E := E) (n := 2) s2 (by decide)
    have c3 := gn_fc E ok.L ok.Ll 2 (by decide) (by decide) s2 (by have := t1.t; have := t2.t; omega)
    have t3 := gN_ct (E := E) 2 s2
    obtain ⟨q3, h3⟩ : ∃ q, q = gN E 2 s2 := ⟨_, rfl⟩
    rw [← h3] at c3 t3 l3 hR
    obtain ⟨v3, s3⟩ := q3
    dsimp only at c3 t3 l3 hR
    clear h3
    have l4 := gN_lt (E := E) (n := 3) s3 (by decide)
    have c4 := gn_fc E ok.L ok.Ll 3 (by decide) (by decide) s3 (by have := t1.t; have := t2.t; have := t3.t; omega)
    have t4 := gN_ct (E := E) 3 s3
    obtain ⟨q4, h4⟩ : ∃ q, q = gN E 3 s3 := ⟨_, rfl⟩
    rw [← h4] at c4 t4 l4 hR
    obtain ⟨v4, s4⟩ := q4
    dsimp only at c4 t4 l4 hR
    clear h4
    subst hR
    (repeat (first | refine KM c3 ?_ | refine KM c4 ?_ | refine L4 ?_ | refine RG.dS ?_ | refine K2 ?_ | refine K4 ?_ | refine L3 ?_ | refine S1 ?_ | refine S2 ?_))
    refine AW.sub (Sub.frzH (ks := []) (c' := [i64 (v1 : Int), i64 (16 + v3 : Int), i64 (0 : Int), i64 (v4 : Int), i64 0, i64 0, i64 0, i64 0, .ro 0 [], i64 0, i64 0, i64 0, .ro 0 [], i64 0, .ro 0 [], .ro 0 [], .ro 0 [], .ro 0 [], .ro 0 [], .ro 0 []]) 3 rfl List.not_mem_nil (by repeat (first | exact Frzs.nil | refine Frzs.cons (Frz.wk (Frz.refl _) Wk.nil) ?_ | refine Frzs.cons (Frz.refl _) ?_))) ?_
    (repeat (first | refine S6 ?_))
    exact ⟨⟨_, rfl, rfl⟩, rfl, .cons rfl (.one rfl) (Reg.lt_one rfl) ⟨[], _, rfl⟩ (.one rfl (hsC_free _) (.one rfl (dsC_free _) (.nil _)))⟩
  (repeat (first | refine K4 ?_ | refine RG.d ?_ | refine S1 ?_ | refine S2 ?_))
  refine AW.condD rfl (fun hk => ?_) (fun hn9 => ?_)
  · obtain rfl : v2 = 9 := by omega
    dsimp only [gRk, gArr] at hR
    have c3 := expr_fc E ok 1 s2 (by omega) (by have := t1.t; have := t2.t; omega)
    have t3 := gE_ct (E := E) 1 s2
    obtain ⟨q3, h3⟩ : ∃ q, q = gE E 1 s2 := ⟨_, rfl⟩
    rw [← h3] at c3 t3  hR
    obtain ⟨⟨d1, d2, d3, d4⟩, s3⟩ := q3
    dsimp only at c3 t3  hR
    clear h3
    subst hR
    (repeat (first | refine KM c3 ?_ | refine L4 ?_ | refine RG.dS ?_ | refine K4 ?_ | refine L3 ?_ | refine S1 ?_ | refine S2 ?_))
    refine AW.sub (Sub.frzH (ks := []) (c' := [i64 (v1 : Int), i64 (18 : Int), i64 (0 : Int), i64 (0 : Int), i64 0, i64 d1, i64 d2, i64 d3, .ro d4.length (exC d4), i64 0, i64 0, i64 0, .ro 0 [], i64 0, .ro 0 [], .ro 0 [], .ro 0 [], .ro 0 [], .ro 0 [], .ro 0 []]) 3 rfl List.not_mem_nil (by repeat (first | exact Frzs.nil | refine Frzs.cons (Frz.wk (Frz.refl _) Wk.nil) ?_ | refine Frzs.cons (Frz.refl _) ?_))) ?_
    (repeat (first | refine S6 ?_))
    exact ⟨⟨_, rfl, rfl⟩, rfl, .cons rfl (.one rfl) (Reg.lt_one rfl) ⟨[], _, rfl⟩ (.one rfl (hsC_free _) (.one rfl (dsC_free _) (.nil _)))⟩
  (repeat (first | refine K4 ?_ | refine RG.d ?_ | refine S1 ?_ | refine S2 ?_))
  refine AW.condD rfl (fun hk => ?_) (fun hn10 => ?_)
  · obtain rfl : v2 = 10 := by omega
    dsimp only [gRk, gArr] at hR
    have c3 := target_fc E ok s2 (by have := t1.t; have := t2.t; omega)
    have t3 := gT_ct (E := E) s2
    obtain ⟨q3, h3⟩ : ∃ q, q = gT E s2 := ⟨_, rfl⟩
    rw [← h3] at c3 t3  hR
    obtain ⟨v3, s3⟩ := q3
    dsimp only at c3 t3  hR
    clear h3
    subst hR
    (repeat (first | refine KM c3 ?_ | refine L4 ?_ | refine RG.dS ?_ | refine K4 ?_ | refine L3 ?_ | refine S1 ?_ | refine S2 ?_))
    refine AW.sub (Sub.frzH (ks := []) (c' := [i64 (v1 : Int), i64 (19 : Int), i64 (v3 : Int), i64 (0 : Int), i64 0, i64 0, i64 0, i64 0, .ro 0 [], i64 0, i64 0, i64 0, .ro 0 [], i64 0, .ro 0 [], .ro 0 [], .ro 0 [], .ro 0 [], .ro 0 [], .ro 0 []]) 3 rfl List.not_mem_nil (by repeat (first | exact Frzs.nil | refine Frzs.cons (Frz.wk (Frz.refl _) Wk.nil) ?_ | refine Frzs.cons (Frz.refl _) ?_))) ?_
    (repeat (first | refine S6 ?_))
    exact ⟨⟨_, rfl, rfl⟩, rfl, .cons rfl (.one rfl) (Reg.lt_one rfl) ⟨[], _, rfl⟩ (.one rfl (hsC_free _) (.one rfl (dsC_free _) (.nil _)))⟩
  (repeat (first | refine K4 ?_ | refine RG.d ?_ | refine S1 ?_ | refine S2 ?_))
  refine AW.condD rfl (fun hk => ?_) (fun hn11 => ?_)
  · obtain rfl : v2 = 11 := by omega
    dsimp only [gRk, gArr] at hR
    have l3 := gN_lt (E := E) (n := 3) s2 (by decide)
    have c3 := gn_fc E ok.L ok.Ll 3 (by decide) (by decide) s2 (by have := t1.t; have := t2.t; omega)
    have t3 := gN_ct (E := E) 3 s2
    obtain ⟨q3, h3⟩ : ∃ q, q = gN E 3 s2 := ⟨_, rfl⟩
    rw [← h3] at c3 t3 l3 hR
    obtain ⟨v3, s3⟩ := q3
    dsimp only at c3 t3 l3 hR
    clear h3
    have c4 := expr_fc E ok 1 s3 (by omega) (by have := t1.t; have := t2.t; have := t3.t; omega)
    have t4 := gE_ct (E := E) 1 s3
    obtain ⟨q4, h4⟩ : ∃ q, q = gE E 1 s3 := ⟨_, rfl⟩
    rw [← h4] at c4 t4  hR
    obtain ⟨⟨e1, e2, e3, e4⟩, s4⟩ := q4
    dsimp only at c4 t4  hR
    clear h4
    subst hR
    (repeat (first | refine KM c3 ?_ | refine KM c4 ?_ | refine L4 ?_ | refine RG.dS ?_ | refine K4 ?_ | refine L3 ?_ | refine S1 ?_ | refine S2 ?_))
    refine AW.sub (Sub.frzH (ks := []) (c' := [i64 (v1 : Int), i64 (21 : Int), i64 (0 : Int), i64 (v3 : Int), i64 0, i64 e1, i64 e2, i64 e3, .ro e4.length (exC e4), i64 0, i64 0, i64 0, .ro 0 [], i64 0, .ro 0 [], .ro 0 [], .ro 0 [], .ro 0 [], .ro 0 [], .ro 0 []]) 3 rfl List.not_mem_nil (by repeat (first | exact Frzs.nil | refine Frzs.cons (Frz.wk (Frz.refl _) Wk.nil) ?_ | refine Frzs.cons (Frz.refl _) ?_))) ?_
    (repeat (first | refine S6 ?_))
    exact ⟨⟨_, rfl, rfl⟩, rfl, .cons rfl (.one rfl) (Reg.lt_one rfl) ⟨[], _, rfl⟩ (.one rfl (hsC_free _) (.one rfl (dsC_free _) (.nil _)))⟩
  (repeat (first | refine K4 ?_ | refine RG.d ?_ | refine S1 ?_ | refine S2 ?_))
  refine AW.condD rfl (fun hk => ?_) (fun hn12 => ?_)
  · obtain rfl : v2 = 12 := by omega
    dsimp only [gRk, gArr] at hR
    have l3 := gN_lt (E := E) (n := 3) s2 (by decide)
    have c3 := gn_fc E ok.L ok.Ll 3 (by decide) (by decide) s2 (by have := t1.t; have := t2.t; omega)
    have t3 := gN_ct (E := E) 3 s2
    obtain ⟨q3, h3⟩ : ∃ q, q = gN E 3 s2 := ⟨_, rfl⟩
    rw [← h3] at c3 t3 l3 hR
    obtain ⟨v3, s3⟩ := q3
    dsimp only at c3 t3 l3 hR
    clear h3
    subst hR
    (repeat (first | refine KM c3 ?_ | refine L4 ?_ | refine RG.dS ?_ | refine K4 ?_ | refine L3 ?_ | refine S1 ?_ | refine S2 ?_))
    refine AW.sub (Sub.frzH (ks := []) (c' := [i64 (v1 : Int), i64 (22 : Int), i64 (0 : Int), i64 (v3 : Int), i64 0, i64 0, i64 0, i64 0, .ro 0 [], i64 0, i64 0, i64 0, .ro 0 [], i64 0, .ro 0 [], .ro 0 [], .ro 0 [], .ro 0 [], .ro 0 [], .ro 0 []]) 3 rfl List.not_mem_nil (by repeat (first | exact Frzs.nil | refine Frzs.cons (Frz.wk (Frz.refl _) Wk.nil) ?_ | refine Frzs.cons (Frz.refl _) ?_))) ?_
    (repeat (first | refine S6 ?_))
    exact ⟨⟨_, rfl, rfl⟩, rfl, .cons rfl (.one rfl) (Reg.lt_one rfl) ⟨[], _, rfl⟩ (.one rfl (hsC_free _) (.one rfl (dsC_free _) (.nil _)))⟩
  (repeat (first | refine K4 ?_ | refine RG.d ?_ | refine S1 ?_ | refine S2 ?_))
  refine AW.condD rfl (fun hk => ?_) (fun hn13 => ?_)
  · obtain rfl : v2 = 13 := by omega
    dsimp only [gRk, gArr] at hR
    have c3 := cond_fc E ok 1 s2 (by omega) (by have := t1.t; have := t2.t; omega)
    have t3 := gC_ct (E := E) 1 s2
    obtain ⟨q3, h3⟩ : ∃ q, q = gC E 1 s2 := ⟨_, rfl⟩
    rw [← h3] at c3 t3  hR
    obtain ⟨⟨d1, d2, d3⟩, s3⟩ := q3
    dsimp only at c3 t3  hR
    clear h3
    subst hR
    (repeat (first | refine KM c3 ?_ | refine L4 ?_ | refine RG.dS ?_ | refine K4 ?_ | refine L3 ?_ | refine S1 ?_ | refine S2 ?_))
    refine AW.sub (Sub.frzH (ks := []) (c' := [i64 (v1 : Int), i64 (23 : Int), i64 (0 : Int), i64 (0 : Int), i64 0, i64 0, i64 0, i64 0, .ro 0 [], i64 0, i64 0, i64 0, .ro 0 [], i64 d1, .ro d2.length (exC d2), .ro d3.length (coC d3), .ro 0 [], .ro 0 [], .ro 0 [], .ro 0 []]) 3 rfl List.not_mem_nil (by repeat (first | exact Frzs.nil | refine Frzs.cons (Frz.wk (Frz.refl _) Wk.nil) ?_ | refine Frzs.cons (Frz.refl _) ?_))) ?_
    (repeat (first | refine S6 ?_))
    exact ⟨⟨_, rfl, rfl⟩, rfl, .cons rfl (.one rfl) (Reg.lt_one rfl) ⟨[], _, rfl⟩ (.one rfl (hsC_free _) (.one rfl (dsC_free _) (.nil _)))⟩
  (repeat (first | refine K4 ?_ | refine L1 ?_ | refine S1 ?_ | refine S2 ?_ | refine S3 ?_))
  obtain ⟨j, rfl⟩ : ∃ j, v2 = j + 14 := ⟨v2 - 14, by omega⟩
  dsimp only [gRk, gArr] at hR
  have l3 := gN_lt (E := E) (n := 2) s2 (by decide)
  have c3 := gn_fc E ok.L ok.Ll 2 (by decide) (by decide) s2 (by have := t1.t; have := t2.t; omega)
  have t3 := gN_ct (E := E) 2 s2
  obtain ⟨q3, h3⟩ : ∃ q, q = gN E 2 s2 := ⟨_, rfl⟩
  rw [← h3] at c3 t3 l3 hR
  obtain ⟨v3, s3⟩ := q3
  dsimp only at c3 t3 l3 hR
  clear h3
  have c4 := expr_fc E ok 1 s3 (by omega) (by have := t1.t; have := t2.t; have := t3.t; omega)
  have t4 := gE_ct (E := E) 1 s3
  obtain ⟨q4, h4⟩ : ∃ q, q = gE E 1 s3 := ⟨_, rfl⟩
  rw [← h4] at c4 t4  hR
  obtain ⟨⟨e1, e2, e3, e4⟩, s4⟩ := q4
  dsimp only at c4 t4  hR
  clear h4
  subst hR
  (repeat (first | refine KM c3 ?_ | refine KM c4 ?_ | refine RG.dS ?_ | refine K4 ?_ | refine L3 ?_))
  refine AW.sub (Sub.frzH (ks := []) (c' := [i64 (v1 : Int), i64 (9 : Int), i64 (v3 : Int), i64 (0 : Int), i64 0, i64 e1, i64 e2, i64 e3, .ro e4.length (exC e4), i64 0, i64 0, i64 0, .ro 0 [], i64 0, .ro 0 [], .ro 0 [], .ro 0 [], .ro 0 [], .ro 0 [], .ro 0 []]) 3 rfl List.not_mem_nil (by repeat (first | exact Frzs.nil | refine Frzs.cons (Frz.wk (Frz.refl _) Wk.nil) ?_ | refine Frzs.cons (Frz.refl _) ?_))) ?_
  (repeat (first | refine S6 ?_))
  exact ⟨⟨_, rfl, rfl⟩, rfl, .cons rfl (.one rfl) (Reg.lt_one rfl) ⟨[], _, rfl⟩ (.one rfl (hsC_free _) (.one rfl (dsC_free _) (.nil _)))⟩
set_option maxHeartbeats 16000000 in
theorem simple_fc (E : Ev) (ok : E.ok) (s : Ms) (hs : s.t + 40 ≤ 2000000) : FC Tryz.prog ge 154 [.ptr 0 [] 0] [.one (mC E s), .one (hsC E), .one (dsC E)] ((.ro (gSimple E s).1.length (smC (gSimple E s).1))) [.one (mC E (gSimple E s).2), .one (hsC E), .one (dsC E)] NoP := by
  have e1 : eT 1 = 6 := rfl
  have e2 : eT 2 = 14 := rfl
  have e3 : cT 1 = 28 := rfl
  have har := ok.arr
  unfold gSimple
  dsimp only
  have c1 := site_fc E s (by omega)
  have t1 := gS_ct s
  obtain ⟨q1, h1⟩ : ∃ q, q = gS s := ⟨_, rfl⟩
  rw [← h1] at c1 t1  ⊢
  obtain ⟨v1, s1⟩ := q1
  dsimp only at c1 t1  ⊢
  clear h1
  have l2 := gN_lt (E := E) (n := 8) s1 (by decide)
  have c2 := gn_fc E ok.L ok.Ll 8 (by decide) (by decide) s1 (by have := t1.t; omega)
  have t2 := gN_ct (E := E) 8 s1
  obtain ⟨q2, h2⟩ : ∃ q, q = gN E 8 s1 := ⟨_, rfl⟩
  rw [← h2] at c2 t2 l2 ⊢
  obtain ⟨v2, s2⟩ := q2
  dsimp only at c2 t2 l2 ⊢
  clear h2
  obtain ⟨R, hR⟩ : ∃ R, R = gSk E v1 v2 s2 := ⟨_, rfl⟩
  rw [← hR]
  refine FC.of_AW tok Tryz.func154 (by kernel_rfl) rfl Tryz.ntmps154 [] rfl rfl rfl ?_; intro w0 X0 Y f0 hI0 hX0
  (repeat (first | refine KM c1 ?_ | refine KM c2 ?_ | refine K4 ?_ | refine L2 ?_ | refine L3 ?_ | refine RG.d ?_ | refine S1 ?_ | refine S2 ?_ | refine S4 ?_))
  refine AW.condD rfl (fun hk => ?_) (fun hn0 => ?_)
  · obtain rfl : v2 = 0 := by omega
    dsimp only [gSk] at hR
    have c3 := target_fc E ok s2 (by have := t1.t; have := t2.t; omega)
    have t3 := gT_ct (E := E) s2
    obtain ⟨q3, h3⟩ : ∃ q, q = gT E s2 := ⟨_, rfl⟩
    rw [← h3] at c3 t3  hR
    obtain ⟨v3, s3⟩ := q3
    dsimp only at c3 t3  hR
    clear h3
    have l4 := gN_lt (E := E) (n := 4) s3 (by decide)
    have c4 := gn_fc E ok.L ok.Ll 4 (by decide) (by decide) s3 (by have := t1.t; have := t2.t; have := t3.t; omega)
    have t4 := gN_ct (E := E) 4 s3
    obtain ⟨q4, h4⟩ : ∃ q, q = gN E 4 s3 := ⟨_, rfl⟩
    rw [← h4] at c4 t4 l4 hR
    obtain ⟨v4, s4⟩ := q4
    dsimp only at c4 t4 l4 hR
    clear h4
    subst hR
    (repeat (first | refine KM c3 ?_ | refine KM c4 ?_ | refine RG.call rfl rfl rfl rfl (num_fc _) [] rfl rfl rfl rfl (.nil _) (.nil _) (fun _ h => False.elim h) rfl (A.ren_free _ _ (by first | exact rfl | exact Ex.agg_free _ | exact Co.agg_free _)) rfl ?_ | refine L4 ?_ | refine RG.dS ?_ | refine K4 ?_ | refine L2 ?_ | refine S1 ?_ | refine S2 ?_))
    refine AW.sub (Sub.frz (ks := [4]) (a' := .ro (0 + 1) [i64 (v1 : Int), i64 (2 : Int), i64 (v3 : Int), i64 (0 : Int), i64 0, i64 1, i64 0, i64 (v4 : Int), .ro 0 [], i64 0, i64 0, i64 0, .ro 0 [], i64 0, .ro 0 [], .ro 0 [], .ro 0 [], .ro 0 [], .ro 0 [], .ro 0 []]) 2 rfl (Frz.wk (frzC (st := 20) (n := 1) rfl (.head _) rfl rfl) (Wk.ro (by repeat (first | exact WkL.nil | refine WkL.cons (Wk.refl _) ?_ | refine WkL.cons Wk.nil ?_))))) ?_
    (repeat (first | refine S6 ?_))
    exact ⟨⟨_, rfl, rfl⟩, rfl, .cons rfl (.one rfl) (Reg.lt_one rfl) ⟨[], _, rfl⟩ (.one rfl (hsC_free _) (.one rfl (dsC_free _) (.nil _)))⟩
  (repeat (first | refine K4 ?_ | refine RG.d ?_ | refine S1 ?_ | refine S2 ?_))
  refine AW.condD rfl (fun hk => ?_) (fun hn1 => ?_)
  · obtain rfl : v2 = 1 := by omega
    dsimp only [gSk] at hR
    have l3 := gN_lt (E := E) (n := 4) s2 (by decide)
    have c3 := gn_fc E ok.L ok.Ll 4 (by decide) (by decide) s2 (by have := t1.t; have := t2.t; omega)
    have t3 := gN_ct (E := E) 4 s2
    obtain ⟨q3, h3⟩ : ∃ q, q = gN E 4 s2 := ⟨_, rfl⟩
    rw [← h3] at c3 t3 l3 hR
    obtain ⟨v3, s3⟩ := q3
    dsimp only at c3 t3 l3 hR
    clear h3
    have c4 := expr_fc E ok 2 s3 (by omega) (by have := t1.t; have := t2.t; have := t3.t; omega)
    have t4 := gE_ct (E := E) 2 s3
    obtain ⟨q4, h4⟩ : ∃ q, q = gE E 2 s3 := ⟨_, rfl⟩
    rw [← h4] at c4 t4  hR
    obtain ⟨⟨e1, e2, e3, e4⟩, s4⟩ := q4
    dsimp only at c4 t4  hR
    clear h4
    subst hR
    (repeat (first | refine KM c3 ?_ | refine KM c4 ?_ | refine RG.call rfl rfl rfl rfl (num_fc _) [] rfl rfl rfl rfl (.nil _) (.nil _) (fun _ h => False.elim h) rfl (A.ren_free _ _ (by first | exact rfl | exact Ex.agg_free _ | exact Co.agg_free _)) rfl ?_ | refine L4 ?_ | refine RG.dS ?_ | refine K4 ?_ | refine L2 ?_ | refine S1 ?_ | refine S2 ?_))
    refine AW.sub (Sub.frz (ks := [4]) (a' := .ro (0 + 1) [i64 (v1 : Int), i64 (3 : Int), i64 (0 : Int), i64 (0 : Int), i64 0, i64 1, i64 0, i64 (v3 : Int), .ro 0 [], i64 e1, i64 e2, i64 e3, .ro e4.length (exC e4), i64 0, .ro 0 [], .ro 0 [], .ro 0 [], .ro 0 [], .ro 0 [], .ro 0 []]) 2 rfl (Frz.wk (frzC (st := 20) (n := 1) rfl (.head _) rfl rfl) (Wk.ro (by repeat (first | exact WkL.nil | refine WkL.cons (Wk.refl _) ?_ | refine WkL.cons Wk.nil ?_))))) ?_
    (repeat (first | refine S6 ?_))
    exact ⟨⟨_, rfl, rfl⟩, rfl, .cons rfl (.one rfl) (Reg.lt_one rfl) ⟨[], _, rfl⟩ (.one rfl (hsC_free _) (.one rfl (dsC_free _) (.nil _)))⟩
  (repeat (first | refine K4 ?_ | refine RG.d ?_ | refine S1 ?_ | refine S2 ?_))
  refine AW.condD rfl (fun hk => ?_) (fun hn2 => ?_)
  · obtain rfl : v2 = 2 := by omega
    dsimp only [gSk] at hR
    have c3 := target_fc E ok s2 (by have := t1.t; have := t2.t; omega)
    have t3 := gT_ct (E := E) s2
    obtain ⟨q3, h3⟩ : ∃ q, q = gT E s2 := ⟨_, rfl⟩
    rw [← h3] at c3 t3  hR
    obtain ⟨v3, s3⟩ := q3
    dsimp only at c3 t3  hR
    clear h3
    have l4 := gN_lt (E := E) (n := 2) s3 (by decide)
    have c4 := gn_fc E ok.L ok.Ll 2 (by decide) (by decide) s3 (by have := t1.t; have := t2.t; have := t3.t; omega)
    have t4 := gN_ct (E := E) 2 s3
    obtain ⟨q4, h4⟩ : ∃ q, q = gN E 2 s3 := ⟨_, rfl⟩
    rw [← h4] at c4 t4 l4 hR
    obtain ⟨v4, s4⟩ := q4
    dsimp only at c4 t4 l4 hR
    clear h4
    subst hR
    (repeat (first | refine KM c3 ?_ | refine KM c4 ?_ | refine L4 ?_ | refine RG.dS ?_ | refine K4 ?_ | refine L2 ?_ | refine S1 ?_ | refine S2 ?_))
    refine AW.sub (Sub.frz (ks := [4]) (a' := .ro (0 + 1) [i64 (v1 : Int), i64 (4 : Int), i64 (v3 : Int), i64 (v4 : Int), i64 0, i64 0, i64 0, i64 0, .ro 0 [], i64 0, i64 0, i64 0, .ro 0 [], i64 0, .ro 0 [], .ro 0 [], .ro 0 [], .ro 0 [], .ro 0 [], .ro 0 []]) 2 rfl (Frz.wk (frzC (st := 20) (n := 1) rfl (.head _) rfl rfl) (Wk.ro (by repeat (first | exact WkL.nil | refine WkL.cons (Wk.refl _) ?_ | refine WkL.cons Wk.nil ?_))))) ?_
    (repeat (first | refine S6 ?_))
    exact ⟨⟨_, rfl, rfl⟩, rfl, .cons rfl (.one rfl) (Reg.lt_one rfl) ⟨[], _, rfl⟩ (.one rfl (hsC_free _) (.one rfl (dsC_free _) (.nil _)))⟩
  (repeat (first | refine K4 ?_ | refine RG.d ?_ | refine S1 ?_ | refine S2 ?_))
  refine AW.condD rfl (fun hk => ?_) (fun hn3 => ?_)
  · obtain rfl : v2 = 3 := by omega
    dsimp only [gSk] at hR
    have c3 := target_fc E ok s2 (by have := t1.t; have := t2.t; omega)
    have t3 := gT_ct (E := E) s2
    obtain ⟨q3, h3⟩ : ∃ q, q = gT E s2 := ⟨_, rfl⟩
    rw [← h3] at c3 t3  hR
    obtain ⟨v3, s3⟩ := q3
    dsimp only at c3 t3  hR
    clear h3
    have l4 := gN_lt (E := E) (n := 2) s3 (by decide)
    have c4 := gn_fc E ok.L ok.Ll 2 (by decide) (by decide) s3 (by have := t1.t; have := t2.t; have := t3.t; omega)
    have t4 := gN_ct (E := E) 2 s3
    obtain ⟨q4, h4⟩ : ∃ q, q = gN E 2 s3 := ⟨_, rfl⟩
    rw [← h4] at c4 t4 l4 hR
    obtain ⟨v4, s4⟩ := q4
    dsimp only at c4 t4 l4 hR
    clear h4
    subst hR
    (repeat (first | refine KM c3 ?_ | refine KM c4 ?_ | refine L4 ?_ | refine RG.dS ?_ | refine K4 ?_ | refine L2 ?_ | refine S1 ?_ | refine S2 ?_))
    refine AW.sub (Sub.frz (ks := [4]) (a' := .ro (0 + 1) [i64 (v1 : Int), i64 (20 : Int), i64 (v3 : Int), i64 (v4 : Int), i64 0, i64 0, i64 0, i64 0, .ro 0 [], i64 0, i64 0, i64 0, .ro 0 [], i64 0, .ro 0 [], .ro 0 [], .ro 0 [], .ro 0 [], .ro 0 [], .ro 0 []]) 2 rfl (Frz.wk (frzC (st := 20) (n := 1) rfl (.head _) rfl rfl) (Wk.ro (by repeat (first | exact WkL.nil | refine WkL.cons (Wk.refl _) ?_ | refine WkL.cons Wk.nil ?_))))) ?_
    (repeat (first | refine S6 ?_))
    exact ⟨⟨_, rfl, rfl⟩, rfl, .cons rfl (.one rfl) (Reg.lt_one rfl) ⟨[], _, rfl⟩ (.one rfl (hsC_free _) (.one rfl (dsC_free _) (.nil _)))⟩
  (repeat (first | refine K4 ?_ | refine RG.d ?_ | refine S1 ?_ | refine S2 ?_))
  refine AW.condD rfl (fun hk => ?_) (fun hn4 => ?_)
  · obtain rfl : v2 = 4 := by omega
    dsimp only [gSk] at hR
    have l3 := gN_lt (E := E) (n := 3) s2 (by decide)
    have c3 := gn_fc E ok.L ok.Ll 3 (by decide) (by decide) s2 (by have := t1.t; have := t2.t; omega)
    have t3 := gN_ct (E := E) 3 s2
    obtain ⟨q3, h3⟩ : ∃ q, q = gN E 3 s2 := ⟨_, rfl⟩
    rw [← h3] at c3 t3 l3 hR
    obtain ⟨v3, s3⟩ := q3
    dsimp only at c3 t3 l3 hR
    clear h3
    have c4 := site_fc E s3 (by have := t1.t; have := t2.t; have := t3.t; omega)
    have t4 := gS_ct s3
    obtain ⟨q4, h4⟩ : ∃ q, q = gS s3 := ⟨_, rfl⟩
    rw [← h4] at c4 t4  hR
    obtain ⟨v4, s4⟩ := q4
    dsimp only at c4 t4  hR
    clear h4
    have l5 := gN_lt (E := E) (n := 9) s4 (by decide)
    have c5 := gn_fc E ok.L ok.Ll 9 (by decide) (by decide) s4 (by have := t1.t; have := t2.t; have := t3.t; have := t4.t; omega)
    have t5 := gN_ct (E := E) 9 s4
    obtain ⟨q5, h5⟩ : ∃ q, q = gN E 9 s4 := ⟨_, rfl⟩
    rw [← h5] at c5 t5 l5 hR
    obtain ⟨v5, s5⟩ := q5
    dsimp only at c5 t5 l5 hR
    clear h5
    have c6 := site_fc E s5 (by have := t1.t; have := t2.t; have := t3.t; have := t4.t; have := t5.t; omega)
    have t6 := gS_ct s5
    obtain ⟨q6, h6⟩ : ∃ q, q = gS s5 := ⟨_, rfl⟩
    rw [← h6] at c6 t6  hR
    obtain ⟨v6, s6⟩ := q6
    dsimp only at c6 t6  hR
    clear h6
    subst hR
    (repeat (first | refine KM c3 ?_ | refine KM c4 ?_ | refine KM c5 ?_ | refine KM c6 ?_ | refine RG.call rfl rfl rfl rfl (num_fc _) [] rfl rfl rfl rfl (.nil _) (.nil _) (fun _ h => False.elim h) rfl (A.ren_free _ _ (by first | exact rfl | exact Ex.agg_free _ | exact Co.agg_free _)) rfl ?_ | refine L4 ?_ | refine RG.dS ?_ | refine K4 ?_ | refine L2 ?_ | refine RG.d ?_ | refine S1 ?_ | refine S2 ?_))
    refine AW.sub (Sub.frz (ks := [4]) (a' := .ro (0 + 1 + 1 + 1) [i64 (v1 : Int), i64 (16 : Int), i64 (0 : Int), i64 (v3 : Int), i64 0, i64 0, i64 0, i64 0, .ro 0 [], i64 0, i64 0, i64 0, .ro 0 [], i64 0, .ro 0 [], .ro 0 [], .ro 0 [], .ro 0 [], .ro 0 [], .ro 0 [], i64 (v4 : Int), i64 (5 : Int), i64 (0 : Int), i64 (0 : Int), i64 0, i64 1, i64 0, i64 (v5 : Int), .ro 0 [], i64 0, i64 0, i64 0, .ro 0 [], i64 0, .ro 0 [], .ro 0 [], .ro 0 [], .ro 0 [], .ro 0 [], .ro 0 [], i64 (v6 : Int), i64 (17 : Int), i64 (0 : Int), i64 (v3 : Int), i64 0, i64 0, i64 0, i64 0, .ro 0 [], i64 0, i64 0, i64 0, .ro 0 [], i64 0, .ro 0 [], .ro 0 [], .ro 0 [], .ro 0 [], .ro 0 [], .ro 0 []]) 2 rfl (Frz.wk (frzC (st := 20) (n := 3) rfl (.head _) rfl rfl) (Wk.ro (by repeat (first | exact WkL.nil | refine WkL.cons (Wk.refl _) ?_ | refine WkL.cons Wk.nil ?_))))) ?_
    (repeat (first | refine S6 ?_))
    exact ⟨⟨_, rfl, rfl⟩, rfl, .cons rfl (.one rfl) (Reg.lt_one rfl) ⟨[], _, rfl⟩ (.one rfl (hsC_free _) (.one rfl (dsC_free _) (.nil _)))⟩
  (repeat (first | refine K4 ?_ | refine RG.d ?_ | refine S1 ?_ | refine S2 ?_))
  refine AW.condD rfl (fun hk => ?_) (fun hn5 => ?_)
  · obtain rfl : v2 = 5 := by omega
    dsimp only [gSk] at hR
    have c3 := site_fc E s2 (by have := t1.t; have := t2.t; omega)
    have t3 := gS_ct s2
    obtain ⟨q3, h3⟩ : ∃ q, q = gS s2 := ⟨_, rfl⟩
    rw [← h3] at c3 t3  hR
    obtain ⟨v3, s3⟩ := q3
    dsimp only at c3 t3  hR
    clear h3
    have c4 := expr_fc E ok 1 s3 (by omega) (by have := t1.t; have := t2.t; have := t3.t; omega)
    have t4 := gE_ct (E := E) 1 s3
    obtain ⟨q4, h4⟩ : ∃ q, q = gE E 1 s3 := ⟨_, rfl⟩
    rw [← h4] at c4 t4  hR
    obtain ⟨⟨e1, e2, e3, e4⟩, s4⟩ := q4
    dsimp only at c4 t4  hR
    clear h4
    have c5 := site_fc E s4 (by have := t1.t; have := t2.t; have := t3.t; have := t4.t; omega)
    have t5 := gS_ct s4
    obtain ⟨q5, h5⟩ : ∃ q, q = gS s4 := ⟨_, rfl⟩
    rw [← h5] at c5 t5  hR
    obtain ⟨v5, s5⟩ := q5
    dsimp only at c5 t5  hR
    clear h5
    subst hR
    (repeat (first | refine KM c3 ?_ | refine KM c4 ?_ | refine KM c5 ?_ | refine L4 ?_ | refine RG.dS ?_ | refine K4 ?_ | refine L2 ?_ | refine S1 ?_ | refine S2 ?_))
    refine AW.sub (Sub.frz (ks := [4]) (a' := .ro (0 + 1 + 1 + 1) [i64 (v1 : Int), i64 (6 : Int), i64 (1 : Int), i64 (0 : Int), i64 0, i64 0, i64 0, i64 0, .ro 0 [], i64 0, i64 0, i64 0, .ro 0 [], i64 0, .ro 0 [], .ro 0 [], .ro 0 [], .ro 0 [], .ro 0 [], .ro 0 [], i64 (v3 : Int), i64 (9 : Int), i64 (1 : Int), i64 (0 : Int), i64 0, i64 e1, i64 e2, i64 e3, .ro e4.length (exC e4), i64 0, i64 0, i64 0, .ro 0 [], i64 0, .ro 0 [], .ro 0 [], .ro 0 [], .ro 0 [], .ro 0 [], .ro 0 [], i64 (v5 : Int), i64 (7 : Int), i64 (1 : Int), i64 (0 : Int), i64 0, i64 0, i64 0, i64 0, .ro 0 [], i64 0, i64 0, i64 0, .ro 0 [], i64 0, .ro 0 [], .ro 0 [], .ro 0 [], .ro 0 [], .ro 0 [], .ro 0 []]) 2 rfl (Frz.wk (frzC (st := 20) (n := 3) rfl (.head _) rfl rfl) (Wk.ro (by repeat (first | exact WkL.nil | refine WkL.cons (Wk.refl _) ?_ | refine WkL.cons Wk.nil ?_))))) ?_
    (repeat (first | refine S6 ?_))
    exact ⟨⟨_, rfl, rfl⟩, rfl, .cons rfl (.one rfl) (Reg.lt_one rfl) ⟨[], _, rfl⟩ (.one rfl (hsC_free _) (.one rfl (dsC_free _) (.nil _)))⟩
  (repeat (first | refine K4 ?_ | refine S1 ?_ | refine S2 ?_ | refine S3 ?_))
  obtain ⟨j, rfl⟩ : ∃ j, v2 = j + 6 := ⟨v2 - 6, by omega⟩
  dsimp only [gSk] at hR
  have c3 := target_fc E ok s2 (by have := t1.t; have := t2.t; omega)
  have t3 := gT_ct (E := E) s2
  obtain ⟨q3, h3⟩ : ∃ q, q = gT E s2 := ⟨_, rfl⟩
  rw [← h3] at c3 t3  hR
  obtain ⟨v3, s3⟩ := q3
  dsimp only at c3 t3  hR
  clear h3
  have c4 := expr_fc E ok 2 s3 (by omega) (by have := t1.t; have := t2.t; have := t3.t; omega)
  have t4 := gE_ct (E := E) 2 s3
  obtain ⟨q4, h4⟩ : ∃ q, q = gE E 2 s3 := ⟨_, rfl⟩
  rw [← h4] at c4 t4  hR
  obtain ⟨⟨e1, e2, e3, e4⟩, s4⟩ := q4
  dsimp only at c4 t4  hR
  clear h4
  subst hR
  (repeat (first | refine KM c3 ?_ | refine KM c4 ?_ | refine L4 ?_ | refine K4 ?_ | refine L2 ?_ | refine L3 ?_ | refine RG.d ?_ | refine S1 ?_ | refine S2 ?_))
  refine AW.sub (Sub.frz (ks := [4]) (a' := .ro (0 + 1) [i64 (v1 : Int), i64 (1 : Int), i64 (v3 : Int), i64 (0 : Int), i64 0, i64 e1, i64 e2, i64 e3, .ro e4.length (exC e4), i64 0, i64 0, i64 0, .ro 0 [], i64 0, .ro 0 [], .ro 0 [], .ro 0 [], .ro 0 [], .ro 0 [], .ro 0 []]) 2 rfl (Frz.wk (frzC (st := 20) (n := 1) rfl (.head _) rfl rfl) (Wk.ro (by repeat (first | exact WkL.nil | refine WkL.cons (Wk.refl _) ?_ | refine WkL.cons Wk.nil ?_))))) ?_
  (repeat (first | refine S6 ?_))
  exact ⟨⟨_, rfl, rfl⟩, rfl, .cons rfl (.one rfl) (Reg.lt_one rfl) ⟨[], _, rfl⟩ (.one rfl (hsC_free _) (.one rfl (dsC_free _) (.nil _)))⟩
end Go.Proofs.YtifeioddiddnoaaGreatDoor
