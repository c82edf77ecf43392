/- How a program is read. No conditions. -/
import Derived.Test.YtmfccaidgaelcaaEc46
set_option linter.unusedVariables false
set_option linter.unusedSimpArgs false
namespace Go.Proofs.Ytmfccaidgaelcaa
open Go.Abs Go Go.RowKit
set_option maxHeartbeats 64000000 in
set_option maxRecDepth 10000 in
theorem pg_rd (t : List Int) (ht : t.length < 8) (k : Nat) (hk : k ≤ 200000) (ws : List Int) (hws : ws.length ≤ k) (hi : ∀ x, x ∈ ws → I64' x) : FC Try.prog ge 45 [rdrA] [.one (stB ws t)] (rres (fun x : Pg => .agg x.cl) (rdPg k ws)) [.one (stB (rrest (rdPg k ws)) t)] (PN (rdPg k ws)) := by
  have nn := next_no t ht
  have mrgN : FC Try.prog ge 78 [rdrA, .fn 79 [rdrA] []] [.one (stB [] t)] A.no [.one (stB [] t)] PW := many_rg_fc _ rdRg rg_can t ht 0 (by omega) (fun ws h hi => by omega) [] (by simp) (fun _ h => by cases h)
  have mintN : FC Try.prog ge 83 [rdrA, .fn 82 [.ptr 0 [] 0] []] [.one (stB [] t)] A.no [.one (stB [] t)] PW := many_int_fc _ one one_can t ht 1 (by omega) (fun ws h hi => one_rd t ht ws (by omega) hi) [] (by simp) (fun _ h => by cases h)
  have mdfN : FC Try.prog ge 86 [rdrA, .fn 57 [rdrA] []] [.one (stB [] t)] A.no [.one (stB [] t)] PW := many_df_fc _ (rdDf 0) (df_can 0) t ht 0 (by omega) (fun ws h hi => by omega) [] (by simp) (fun _ h => by cases h)
  obtain ⟨M, hM⟩ : ∃ M, M = rdPg k ws := ⟨_, rfl⟩
  rw [← hM]
  have kn := kind_no 2 t ht
  refine FC.of_AW tok Try.func45 (by kernel_rfl) rfl Try.ntmps45 [] rfl rfl rfl ?_; intro w0 X0 Y f0 hI0 hX0
  refine S1 ?_; (repeat (first | refine L2 ?_ | refine RG.d ?_ | refine S2 ?_))
  refine S1 ?_; (repeat (first | refine L1 ?_ | refine S2 ?_))
  rcases ws with _ | ⟨kd, w⟩
  · rw [show M = none from hM]
    refine RG.call rfl rfl rfl rfl (kn) [0] rfl rfl rfl rfl (.cons rfl (.one rfl) (Reg.lt_one rfl) ⟨[], _, rfl⟩ (.nil _)) (.cons (.one rfl) (.nil _)) (fun _ h => by first | exact h | exact False.elim h) rfl rfl rfl ?_
    repeat refine RG.dead 5 rfl rfl ?_
    refine RG.done rfl ?_
    exact AW.absurd 5 rfl
  have hi0 : ∀ x, x ∈ w → I64' x := fun x hx => hi x (by simp [hx])
  have hkd := hi kd (by simp)
  simp only [List.length_cons] at hws
  by_cases h1 : kd = 2
  rotate_left
  · have k1 := kind_no1 2 kd w t hkd h1 (by unfold BW; omega) ht
    rw [show M = none by rw [hM]; simp only [rdPg, one]; rw [if_neg h1]]
    refine RG.call rfl rfl rfl rfl (k1) [0] rfl rfl rfl rfl (.cons rfl (.one rfl) (Reg.lt_one rfl) ⟨[], _, rfl⟩ (.nil _)) (.cons (.one rfl) (.nil _)) (fun _ h => by first | exact h | exact False.elim h) rfl rfl rfl ?_
    repeat refine RG.dead 5 rfl rfl ?_
    refine RG.done rfl ?_
    exact AW.absurd 5 rfl
  subst h1
  have k1 := kind_ok 2 w t hkd (by unfold BW; omega) ht
  refine RG.call rfl rfl rfl rfl (k1) [0] rfl rfl rfl rfl (.cons rfl (.one rfl) (Reg.lt_one rfl) ⟨[], _, rfl⟩ (.nil _)) (.cons (.one rfl) (.nil _)) (fun _ h => by first | exact h | exact False.elim h) rfl rfl rfl ?_
  (repeat (first | refine RG.d ?_))
  refine S1 ?_
  (repeat (first | refine L2 ?_ | refine RG.d ?_ | refine S2 ?_))
  refine S1 ?_; (repeat (first | refine K4 ?_ | refine L1 ?_ | refine S2 ?_))
  have c1 := many_rg_fc _ rdRg rg_can t ht k (by omega) (fun ws h hi => span_rd t ht ws (by omega) hi) w (by omega) hi0
  cases h1 : lst rdRg w with
  | none =>
    rw [show M = none by rw [hM]; simp only [rdPg, if_true, one, h1]]
    rw [h1] at c1
    simp only [rres, rrest, PN] at c1
    refine RG.call rfl rfl rfl rfl (c1) [0] rfl rfl rfl rfl (.cons rfl (.one rfl) (Reg.lt_one rfl) ⟨[], _, rfl⟩ (.nil _)) (.cons (.one rfl) (.nil _)) (fun _ h => by first | exact h | exact False.elim h) rfl rfl rfl ?_
    (repeat (first | refine RG.call rfl rfl rfl rfl (mrgN) [0] rfl rfl rfl rfl (.cons rfl (.one rfl) (Reg.lt_one rfl) ⟨[], _, rfl⟩ (.nil _)) (.cons (.one rfl) (.nil _)) (fun _ h => by first | exact h | exact False.elim h) rfl rfl rfl ?_ | refine K4 ?_ | refine L1 ?_ | refine L3 ?_ | refine RG.dd ?_))
    repeat (refine RG.dead 9 rfl rfl ?_; (repeat (first | refine RG.call rfl rfl rfl rfl (mrgN) [0] rfl rfl rfl rfl (.cons rfl (.one rfl) (Reg.lt_one rfl) ⟨[], _, rfl⟩ (.nil _)) (.cons (.one rfl) (.nil _)) (fun _ h => by first | exact h | exact False.elim h) rfl rfl rfl ?_)))
    exact AW.absurd 9 rfl
  | some p =>
    obtain ⟨globals, w1⟩ := p
    rw [h1] at c1
    simp only [rres, rrest, PN] at c1
    obtain ⟨e1, -⟩ := lst_can rg_can h1
    have hi1 : ∀ x, x ∈ w1 → I64' x := fun x hx => hi0 x (by rw [e1]; simp [hx])
    have hl1 : w1.length ≤ w.length := by rw [e1]; simp only [List.length_cons, List.length_append]; omega
    refine RG.call rfl rfl rfl rfl (c1) [0] rfl rfl rfl rfl (.cons rfl (.one rfl) (Reg.lt_one rfl) ⟨[], _, rfl⟩ (.nil _)) (.cons (.one rfl) (.nil _)) (fun _ h => by first | exact h | exact False.elim h) rfl rfl rfl ?_
    (repeat (first | refine K4 ?_ | refine L1 ?_))
    have c2 := many_rg_fc _ rdRg rg_can t ht k (by omega) (fun ws h hi => span_rd t ht ws (by omega) hi) w1 (by omega) hi1
    cases h2 : lst rdRg w1 with
    | none =>
      rw [show M = none by rw [hM]; simp only [rdPg, if_true, one, h1, h2]]
      rw [h2] at c2
      simp only [rres, rrest, PN] at c2
      refine RG.call rfl rfl rfl rfl (c2) [0] rfl rfl rfl rfl (.cons rfl (.one rfl) (Reg.lt_one rfl) ⟨[], _, rfl⟩ (.nil _)) (.cons (.one rfl) (.nil _)) (fun _ h => by first | exact h | exact False.elim h) rfl rfl rfl ?_
      (repeat (first | refine K4 ?_ | refine L3 ?_ | refine RG.dd ?_))
      repeat (refine RG.dead 13 rfl rfl ?_; (repeat (first | refine K1 ?_)))
      exact AW.absurd 13 rfl
    | some p =>
      obtain ⟨classes, w2⟩ := p
      rw [h2] at c2
      simp only [rres, rrest, PN] at c2
      obtain ⟨e2, -⟩ := lst_can rg_can h2
      have hi2 : ∀ x, x ∈ w2 → I64' x := fun x hx => hi1 x (by rw [e2]; simp [hx])
      have hl2 : w2.length ≤ w1.length := by rw [e2]; simp only [List.length_cons, List.length_append]; omega
      refine RG.call rfl rfl rfl rfl (c2) [0] rfl rfl rfl rfl (.cons rfl (.one rfl) (Reg.lt_one rfl) ⟨[], _, rfl⟩ (.nil _)) (.cons (.one rfl) (.nil _)) (fun _ h => by first | exact h | exact False.elim h) rfl rfl rfl ?_
      (repeat (first | refine K4 ?_ | refine L3 ?_ | refine RG.dd ?_))
      refine S1 ?_; (repeat (first | refine K4 ?_ | refine L1 ?_ | refine S2 ?_))
      have c3 := many_qu_fc _ rdQu qu_can t ht k (by omega) (fun ws h hi => qu_rd t ht ws (by omega) hi) w2 (by omega) hi2
      cases h3 : lst rdQu w2 with
      | none =>
        rw [show M = none by rw [hM]; simp only [rdPg, if_true, one, h1, h2, h3]]
        rw [h3] at c3
        simp only [rres, rrest, PN] at c3
        refine RG.call rfl rfl rfl rfl (c3) [0, 1] rfl rfl rfl rfl (.cons rfl (.one rfl) (Reg.lt_one rfl) ⟨[], _, rfl⟩ (.cons rfl (.one rfl) (Reg.lt_one rfl) ⟨[], _, rfl⟩ (.nil _))) (.cons (.one rfl) (.cons (.one rfl) (.nil _))) (fun _ h => by first | exact h | exact False.elim h) rfl rfl rfl ?_
        (repeat (first | refine K4 ?_ | refine L3 ?_ | refine RG.d ?_))
        repeat (refine RG.dead 20 rfl rfl ?_; (repeat (first | refine K1 ?_)))
        exact AW.absurd 20 rfl
      | some p =>
        obtain ⟨queues, w3⟩ := p
        rw [h3] at c3
        simp only [rres, rrest, PN] at c3
        obtain ⟨e3, -⟩ := lst_can qu_can h3
        have hi3 : ∀ x, x ∈ w3 → I64' x := fun x hx => hi2 x (by rw [e3]; simp [hx])
        have hl3 : w3.length ≤ w2.length := by rw [e3]; simp only [List.length_cons, List.length_append]; omega
        refine RG.call rfl rfl rfl rfl (c3) [0, 1] rfl rfl rfl rfl (.cons rfl (.one rfl) (Reg.lt_one rfl) ⟨[], _, rfl⟩ (.cons rfl (.one rfl) (Reg.lt_one rfl) ⟨[], _, rfl⟩ (.nil _))) (.cons (.one rfl) (.cons (.one rfl) (.nil _))) (fun _ h => by first | exact h | exact False.elim h) rfl rfl rfl ?_
        (repeat (first | refine K4 ?_ | refine L3 ?_ | refine RG.d ?_))
        refine S1 ?_; (repeat (first | refine K4 ?_ | refine L1 ?_ | refine S2 ?_))
        have c4 := many_int_fc _ one one_can t ht k (by omega) (fun ws h hi => one_rd t ht ws (by omega) hi) w3 (by omega) hi3
        cases h4 : lst one w3 with
        | none =>
          rw [show M = none by rw [hM]; simp only [rdPg, if_true, one, h1, h2, h3, h4]]
          rw [h4] at c4
          simp only [rres, rrest, PN] at c4
          refine RG.call rfl rfl rfl rfl (c4) [0] rfl rfl rfl rfl (.cons rfl (.one rfl) (Reg.lt_one rfl) ⟨[], _, rfl⟩ (.nil _)) (.cons (.one rfl) (.nil _)) (fun _ h => by first | exact h | exact False.elim h) rfl rfl rfl ?_
          (repeat (first | refine K4 ?_ | refine L3 ?_ | refine RG.d ?_))
          repeat (refine RG.dead 27 rfl rfl ?_; (repeat (first | refine K1 ?_)))
          exact AW.absurd 27 rfl
        | some p =>
          obtain ⟨sinks, w4⟩ := p
          rw [h4] at c4
          simp only [rres, rrest, PN] at c4
          obtain ⟨e4, -⟩ := lst_can one_can h4
          have hi4 : ∀ x, x ∈ w4 → I64' x := fun x hx => hi3 x (by rw [e4]; simp [hx])
          have hl4 : w4.length ≤ w3.length := by rw [e4]; simp only [List.length_cons, List.length_append]; omega
          refine RG.call rfl rfl rfl rfl (c4) [0] rfl rfl rfl rfl (.cons rfl (.one rfl) (Reg.lt_one rfl) ⟨[], _, rfl⟩ (.nil _)) (.cons (.one rfl) (.nil _)) (fun _ h => by first | exact h | exact False.elim h) rfl rfl rfl ?_
          (repeat (first | refine K4 ?_ | refine L3 ?_ | refine RG.d ?_))
          refine S1 ?_; (repeat (first | refine K4 ?_ | refine L1 ?_ | refine S2 ?_))
          rcases w4 with _ | ⟨locks, w5⟩
          · rw [show M = none by rw [hM]; simp only [rdPg, if_true, one, h1, h2, h3, h4]]
            refine RG.call rfl rfl rfl rfl (nn) [0] rfl rfl rfl rfl (.cons rfl (.one rfl) (Reg.lt_one rfl) ⟨[], _, rfl⟩ (.nil _)) (.cons (.one rfl) (.nil _)) (fun _ h => by first | exact h | exact False.elim h) rfl rfl rfl ?_
            (repeat (first | refine RG.call rfl rfl rfl rfl (nn) [0] rfl rfl rfl rfl (.cons rfl (.one rfl) (Reg.lt_one rfl) ⟨[], _, rfl⟩ (.nil _)) (.cons (.one rfl) (.nil _)) (fun _ h => by first | exact h | exact False.elim h) rfl rfl rfl ?_ | refine K4 ?_ | refine L1 ?_ | refine L3 ?_ | refine RG.dd ?_))
            repeat (refine RG.dead 32 rfl rfl ?_; (repeat (first | refine RG.call rfl rfl rfl rfl (nn) [0] rfl rfl rfl rfl (.cons rfl (.one rfl) (Reg.lt_one rfl) ⟨[], _, rfl⟩ (.nil _)) (.cons (.one rfl) (.nil _)) (fun _ h => by first | exact h | exact False.elim h) rfl rfl rfl ?_)))
            exact AW.absurd 32 rfl
          have c5 := next_ok locks w5 t (hi4 locks (by simp)) (by simp only [List.length_cons] at hl4; unfold BW; omega) ht
          have hi5 : ∀ x, x ∈ w5 → I64' x := fun x hx => hi4 x (by simp [hx])
          simp only [List.length_cons] at hl4
          refine RG.call rfl rfl rfl rfl (c5) [0] rfl rfl rfl rfl (.cons rfl (.one rfl) (Reg.lt_one rfl) ⟨[], _, rfl⟩ (.nil _)) (.cons (.one rfl) (.nil _)) (fun _ h => by first | exact h | exact False.elim h) rfl rfl rfl ?_
          (repeat (first | refine K4 ?_ | refine L1 ?_))
          rcases w5 with _ | ⟨parts, w6⟩
          · rw [show M = none by rw [hM]; simp only [rdPg, if_true, one, h1, h2, h3, h4]]
            refine RG.call rfl rfl rfl rfl (nn) [0] rfl rfl rfl rfl (.cons rfl (.one rfl) (Reg.lt_one rfl) ⟨[], _, rfl⟩ (.nil _)) (.cons (.one rfl) (.nil _)) (fun _ h => by first | exact h | exact False.elim h) rfl rfl rfl ?_
            (repeat (first | refine RG.call rfl rfl rfl rfl (nn) [0] rfl rfl rfl rfl (.cons rfl (.one rfl) (Reg.lt_one rfl) ⟨[], _, rfl⟩ (.nil _)) (.cons (.one rfl) (.nil _)) (fun _ h => by first | exact h | exact False.elim h) rfl rfl rfl ?_ | refine K4 ?_ | refine L1 ?_ | refine L3 ?_ | refine RG.dd ?_))
            repeat (refine RG.dead 35 rfl rfl ?_; (repeat (first | refine RG.call rfl rfl rfl rfl (nn) [0] rfl rfl rfl rfl (.cons rfl (.one rfl) (Reg.lt_one rfl) ⟨[], _, rfl⟩ (.nil _)) (.cons (.one rfl) (.nil _)) (fun _ h => by first | exact h | exact False.elim h) rfl rfl rfl ?_)))
            exact AW.absurd 35 rfl
          have c6 := next_ok parts w6 t (hi5 parts (by simp)) (by simp only [List.length_cons] at hl4; unfold BW; omega) ht
          have hi6 : ∀ x, x ∈ w6 → I64' x := fun x hx => hi5 x (by simp [hx])
          simp only [List.length_cons] at hl4
          refine RG.call rfl rfl rfl rfl (c6) [0] rfl rfl rfl rfl (.cons rfl (.one rfl) (Reg.lt_one rfl) ⟨[], _, rfl⟩ (.nil _)) (.cons (.one rfl) (.nil _)) (fun _ h => by first | exact h | exact False.elim h) rfl rfl rfl ?_
          (repeat (first | refine K4 ?_ | refine L1 ?_))
          rcases w6 with _ | ⟨firms, w7⟩
          · rw [show M = none by rw [hM]; simp only [rdPg, if_true, one, h1, h2, h3, h4]]
            refine RG.call rfl rfl rfl rfl (nn) [0] rfl rfl rfl rfl (.cons rfl (.one rfl) (Reg.lt_one rfl) ⟨[], _, rfl⟩ (.nil _)) (.cons (.one rfl) (.nil _)) (fun _ h => by first | exact h | exact False.elim h) rfl rfl rfl ?_
            (repeat (first | refine K4 ?_ | refine L3 ?_ | refine RG.dd ?_))
            repeat (refine RG.dead 38 rfl rfl ?_; (repeat (first | refine K1 ?_)))
            exact AW.absurd 38 rfl
          have c7 := next_ok firms w7 t (hi6 firms (by simp)) (by simp only [List.length_cons] at hl4; unfold BW; omega) ht
          have hi7 : ∀ x, x ∈ w7 → I64' x := fun x hx => hi6 x (by simp [hx])
          simp only [List.length_cons] at hl4
          refine RG.call rfl rfl rfl rfl (c7) [0] rfl rfl rfl rfl (.cons rfl (.one rfl) (Reg.lt_one rfl) ⟨[], _, rfl⟩ (.nil _)) (.cons (.one rfl) (.nil _)) (fun _ h => by first | exact h | exact False.elim h) rfl rfl rfl ?_
          (repeat (first | refine K4 ?_ | refine L3 ?_ | refine RG.dd ?_))
          refine S1 ?_; (repeat (first | refine K4 ?_ | refine L1 ?_ | refine S2 ?_))
          have c8 := many_hd_fc _ rdHd hd_can t ht k (by omega) (fun ws h hi => hd_rd t ht k (by omega) ws (by omega) hi) w7 (by omega) hi7
          cases h8 : lst rdHd w7 with
          | none =>
            rw [show M = none by rw [hM]; simp only [rdPg, if_true, one, h1, h2, h3, h4, h8]]
            rw [h8] at c8
            simp only [rres, rrest, PN] at c8
            refine RG.call rfl rfl rfl rfl (c8) [0] rfl rfl rfl rfl (.cons rfl (.one rfl) (Reg.lt_one rfl) ⟨[], _, rfl⟩ (.nil _)) (.cons (.one rfl) (.nil _)) (fun _ h => by first | exact h | exact False.elim h) rfl rfl rfl ?_
            (repeat (first | refine RG.call rfl rfl rfl rfl (mdfN) [0] rfl rfl rfl rfl (.cons rfl (.one rfl) (Reg.lt_one rfl) ⟨[], _, rfl⟩ (.nil _)) (.cons (.one rfl) (.nil _)) (fun _ h => by first | exact h | exact False.elim h) rfl rfl rfl ?_ | refine RG.call rfl rfl rfl rfl (mintN) [0] rfl rfl rfl rfl (.cons rfl (.one rfl) (Reg.lt_one rfl) ⟨[], _, rfl⟩ (.nil _)) (.cons (.one rfl) (.nil _)) (fun _ h => by first | exact h | exact False.elim h) rfl rfl rfl ?_ | refine K4 ?_ | refine L1 ?_ | refine L3 ?_ | refine RG.dd ?_))
            repeat (refine RG.dead 48 rfl rfl ?_; (repeat (first | refine RG.call rfl rfl rfl rfl (mdfN) [0] rfl rfl rfl rfl (.cons rfl (.one rfl) (Reg.lt_one rfl) ⟨[], _, rfl⟩ (.nil _)) (.cons (.one rfl) (.nil _)) (fun _ h => by first | exact h | exact False.elim h) rfl rfl rfl ?_)))
            exact AW.absurd 48 rfl
          | some p =>
            obtain ⟨heads, w8⟩ := p
            rw [h8] at c8
            simp only [rres, rrest, PN] at c8
            obtain ⟨e8, -⟩ := lst_can hd_can h8
            have hi8 : ∀ x, x ∈ w8 → I64' x := fun x hx => hi7 x (by rw [e8]; simp [hx])
            have hl8 : w8.length ≤ w7.length := by rw [e8]; simp only [List.length_cons, List.length_append]; omega
            refine RG.call rfl rfl rfl rfl (c8) [0] rfl rfl rfl rfl (.cons rfl (.one rfl) (Reg.lt_one rfl) ⟨[], _, rfl⟩ (.nil _)) (.cons (.one rfl) (.nil _)) (fun _ h => by first | exact h | exact False.elim h) rfl rfl rfl ?_
            (repeat (first | refine K4 ?_ | refine L1 ?_))
            have c9 := many_df_fc _ (rdDf k) (df_can k) t ht k (by omega) (fun ws h hi => df_rd t ht k (by omega) ws (by omega) hi) w8 (by omega) hi8
            cases h9 : lst (rdDf k) w8 with
            | none =>
              rw [show M = none by rw [hM]; simp only [rdPg, if_true, one, h1, h2, h3, h4, h8, h9]]
              rw [h9] at c9
              simp only [rres, rrest, PN] at c9
              refine RG.call rfl rfl rfl rfl (c9) [0] rfl rfl rfl rfl (.cons rfl (.one rfl) (Reg.lt_one rfl) ⟨[], _, rfl⟩ (.nil _)) (.cons (.one rfl) (.nil _)) (fun _ h => by first | exact h | exact False.elim h) rfl rfl rfl ?_
              (repeat (first | refine RG.call rfl rfl rfl rfl (mintN) [0] rfl rfl rfl rfl (.cons rfl (.one rfl) (Reg.lt_one rfl) ⟨[], _, rfl⟩ (.nil _)) (.cons (.one rfl) (.nil _)) (fun _ h => by first | exact h | exact False.elim h) rfl rfl rfl ?_ | refine K4 ?_ | refine L1 ?_ | refine L3 ?_ | refine RG.dd ?_))
              repeat (refine RG.dead 52 rfl rfl ?_; (repeat (first | refine RG.call rfl rfl rfl rfl (mintN) [0] rfl rfl rfl rfl (.cons rfl (.one rfl) (Reg.lt_one rfl) ⟨[], _, rfl⟩ (.nil _)) (.cons (.one rfl) (.nil _)) (fun _ h => by first | exact h | exact False.elim h) rfl rfl rfl ?_)))
              exact AW.absurd 52 rfl
            | some p =>
              obtain ⟨defs, w9⟩ := p
              rw [h9] at c9
              simp only [rres, rrest, PN] at c9
              obtain ⟨e9, -⟩ := lst_can (df_can k) h9
              have hi9 : ∀ x, x ∈ w9 → I64' x := fun x hx => hi8 x (by rw [e9]; simp [hx])
              have hl9 : w9.length ≤ w8.length := by rw [e9]; simp only [List.length_cons, List.length_append]; omega
              refine RG.call rfl rfl rfl rfl (c9) [0] rfl rfl rfl rfl (.cons rfl (.one rfl) (Reg.lt_one rfl) ⟨[], _, rfl⟩ (.nil _)) (.cons (.one rfl) (.nil _)) (fun _ h => by first | exact h | exact False.elim h) rfl rfl rfl ?_
              (repeat (first | refine K4 ?_ | refine L1 ?_))
              have c10 := many_int_fc _ one one_can t ht k (by omega) (fun ws h hi => one_rd t ht ws (by omega) hi) w9 (by omega) hi9
              cases h10 : lst one w9 with
              | none =>
                rw [show M = none by rw [hM]; simp only [rdPg, if_true, one, h1, h2, h3, h4, h8, h9, h10]]
                rw [h10] at c10
                simp only [rres, rrest, PN] at c10
                refine RG.call rfl rfl rfl rfl (c10) [0] rfl rfl rfl rfl (.cons rfl (.one rfl) (Reg.lt_one rfl) ⟨[], _, rfl⟩ (.nil _)) (.cons (.one rfl) (.nil _)) (fun _ h => by first | exact h | exact False.elim h) rfl rfl rfl ?_
                (repeat (first | refine K4 ?_ | refine L3 ?_ | refine RG.dd ?_))
                repeat (refine RG.dead 57 rfl rfl ?_; (repeat (first | refine K1 ?_)))
                exact AW.absurd 57 rfl
              | some p =>
                obtain ⟨threads, w10⟩ := p
                rw [h10] at c10
                simp only [rres, rrest, PN] at c10
                obtain ⟨e10, -⟩ := lst_can one_can h10
                have hi10 : ∀ x, x ∈ w10 → I64' x := fun x hx => hi9 x (by rw [e10]; simp [hx])
                have hl10 : w10.length ≤ w9.length := by rw [e10]; simp only [List.length_cons, List.length_append]; omega
                refine RG.call rfl rfl rfl rfl (c10) [0] rfl rfl rfl rfl (.cons rfl (.one rfl) (Reg.lt_one rfl) ⟨[], _, rfl⟩ (.nil _)) (.cons (.one rfl) (.nil _)) (fun _ h => by first | exact h | exact False.elim h) rfl rfl rfl ?_
                (repeat (first | refine K4 ?_ | refine L3 ?_ | refine RG.dd ?_))
                have e : M = some (⟨⟨globals, classes, queues, sinks, locks, parts, firms⟩, heads, defs, threads⟩, w10) := by rw [hM]; simp only [rdPg, if_true, one, h1, h2, h3, h4, h8, h9, h10]
                rw [e]
                simp only [rres, rrest, Pg.cl, Dc.cl, List.cons_append, List.nil_append]; rw [icl_eq, icl_eq]
                (repeat (first | refine L1 ?_ | refine L3 ?_ | refine RG.d ?_ | refine S1 ?_ | refine S2 ?_ | refine S6 ?_))
                exact ⟨⟨_, rfl, rfl⟩, rfl, .cons rfl (.one rfl) (Reg.lt_one rfl) ⟨[], _, rfl⟩ (.nil _)⟩
end Go.Proofs.Ytmfccaidgaelcaa
