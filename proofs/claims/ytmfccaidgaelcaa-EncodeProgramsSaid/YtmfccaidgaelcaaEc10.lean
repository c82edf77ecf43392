/- How a definition is read. No conditions. -/
import Derived.Test.YtmfccaidgaelcaaEc9
import Derived.Test.YtmfccaidgaelcaaAbsE
set_option linter.unusedVariables false
set_option linter.unusedSimpArgs false
namespace Go.Proofs.Ytmfccaidgaelcaa
open Go.Abs Go Go.RowKit
set_option maxHeartbeats 64000000 in
set_option maxRecDepth 10000 in
theorem df_rd (t : List Int) (ht : t.length < 8) (k : Nat) (hk : k ≤ 200000) (ws : List Int) (hws : ws.length ≤ k) (hi : ∀ x, x ∈ ws → I64' x) : FC Try.prog ge 57 [rdrA] [.one (stB ws t)] (rres (fun x : Df => .agg x.cl) (rdDf k ws)) [.one (stB (rrest (rdDf k ws)) t)] (PN (rdDf k ws)) := by
  have nn := next_no t ht
  have mbyN : FC Try.prog ge 104 [rdrA, .fn 105 [rdrA] []] [.one (stB [] t)] A.no [.one (stB [] t)] PW := many_byte_fc _ rdLe le_can t ht 0 (by omega) (fun ws h hi => by omega) [] (by simp) (fun _ h => by cases h)
  have mrgN : FC Try.prog ge 78 [rdrA, .fn 79 [rdrA] []] [.one (stB [] t)] A.no [.one (stB [] t)] PW := many_rg_fc _ rdRg rg_can t ht 0 (by omega) (fun ws h hi => by omega) [] (by simp) (fun _ h => by cases h)
  obtain ⟨M, hM⟩ : ∃ M, M = rdDf k ws := ⟨_, rfl⟩
  rw [← hM]
  have kn := kind_no 1 t ht
  refine FC.of_AW tok Try.func57 (by kernel_rfl) rfl Try.ntmps57 [] rfl rfl rfl ?_; intro w0 X0 Y f0 hI0 hX0
  refine S1 ?_; (repeat (first | refine L2 ?_ | refine RG.d ?_ | refine S2 ?_))
  refine S1 ?_; (repeat (first | refine L1 ?_ | refine S2 ?_))
  rcases ws with _ | ⟨kd, w⟩
  · rw [show M = none from hM]
    refine RG.call rfl rfl rfl rfl (kn) [0] rfl rfl rfl rfl (.cons rfl (.one rfl) (Reg.lt_one rfl) ⟨[], _, rfl⟩ (.nil _)) (.cons (.one rfl) (.nil _)) (fun _ h => by first | exact h | exact False.elim h) rfl rfl rfl ?_
    repeat refine RG.dead 5 rfl rfl ?_
    refine RG.done rfl ?_
    exact AW.absurd 5 rfl
  have hi0 : ∀ x, x ∈ w → I64' x := fun x hx => hi x (by simp [hx])
  have hkd := hi kd (by simp)
  simp only [List.length_cons] at hws
  by_cases h1 : kd = 1
  rotate_left
  · have k1 := kind_no1 1 kd w t hkd h1 (by unfold BW; omega) ht
    rw [show M = none by rw [hM]; simp only [rdDf, one]; rw [if_neg h1]]
    refine RG.call rfl rfl rfl rfl (k1) [0] rfl rfl rfl rfl (.cons rfl (.one rfl) (Reg.lt_one rfl) ⟨[], _, rfl⟩ (.nil _)) (.cons (.one rfl) (.nil _)) (fun _ h => by first | exact h | exact False.elim h) rfl rfl rfl ?_
    repeat refine RG.dead 5 rfl rfl ?_
    refine RG.done rfl ?_
    exact AW.absurd 5 rfl
  subst h1
  have k1 := kind_ok 1 w t hkd (by unfold BW; omega) ht
  refine RG.call rfl rfl rfl rfl (k1) [0] rfl rfl rfl rfl (.cons rfl (.one rfl) (Reg.lt_one rfl) ⟨[], _, rfl⟩ (.nil _)) (.cons (.one rfl) (.nil _)) (fun _ h => by first | exact h | exact False.elim h) rfl rfl rfl ?_
  (repeat (first | refine RG.d ?_))
  refine S1 ?_; (repeat (first | refine K4 ?_ | refine L1 ?_ | refine S2 ?_))
  rcases w with _ | ⟨id, w1⟩
  · rw [show M = none by rw [hM]; simp only [rdDf, if_true, one]]
    refine RG.call rfl rfl rfl rfl (nn) [0] rfl rfl rfl rfl (.cons rfl (.one rfl) (Reg.lt_one rfl) ⟨[], _, rfl⟩ (.nil _)) (.cons (.one rfl) (.nil _)) (fun _ h => by first | exact h | exact False.elim h) rfl rfl rfl ?_
    (repeat (first | refine RG.call rfl rfl rfl rfl (nn) [0] rfl rfl rfl rfl (.cons rfl (.one rfl) (Reg.lt_one rfl) ⟨[], _, rfl⟩ (.nil _)) (.cons (.one rfl) (.nil _)) (fun _ h => by first | exact h | exact False.elim h) rfl rfl rfl ?_ | refine RG.call rfl rfl rfl rfl (mbyN) [0] rfl rfl rfl rfl (.cons rfl (.one rfl) (Reg.lt_one rfl) ⟨[], _, rfl⟩ (.nil _)) (.cons (.one rfl) (.nil _)) (fun _ h => by first | exact h | exact False.elim h) rfl rfl rfl ?_ | refine K4 ?_ | refine L1 ?_))
    repeat (refine RG.dead 8 rfl rfl ?_; (repeat (first | refine RG.call rfl rfl rfl rfl (nn) [0] rfl rfl rfl rfl (.cons rfl (.one rfl) (Reg.lt_one rfl) ⟨[], _, rfl⟩ (.nil _)) (.cons (.one rfl) (.nil _)) (fun _ h => by first | exact h | exact False.elim h) rfl rfl rfl ?_ | refine K4 ?_ | refine L1 ?_ | refine L2 ?_ | refine RG.dd ?_)))
    exact AW.absurd 8 rfl
  have c1 := next_ok id w1 t (hi0 id (by simp)) (by simp only [List.length_cons] at hws; unfold BW; omega) ht
  have hi1 : ∀ x, x ∈ w1 → I64' x := fun x hx => hi0 x (by simp [hx])
  simp only [List.length_cons] at hws
  refine RG.call rfl rfl rfl rfl (c1) [0] rfl rfl rfl rfl (.cons rfl (.one rfl) (Reg.lt_one rfl) ⟨[], _, rfl⟩ (.nil _)) (.cons (.one rfl) (.nil _)) (fun _ h => by first | exact h | exact False.elim h) rfl rfl rfl ?_
  (repeat (first | refine K4 ?_ | refine L1 ?_))
  rcases w1 with _ | ⟨site, w2⟩
  · rw [show M = none by rw [hM]; simp only [rdDf, if_true, one]]
    refine RG.call rfl rfl rfl rfl (nn) [0] rfl rfl rfl rfl (.cons rfl (.one rfl) (Reg.lt_one rfl) ⟨[], _, rfl⟩ (.nil _)) (.cons (.one rfl) (.nil _)) (fun _ h => by first | exact h | exact False.elim h) rfl rfl rfl ?_
    (repeat (first | refine RG.call rfl rfl rfl rfl (mbyN) [0] rfl rfl rfl rfl (.cons rfl (.one rfl) (Reg.lt_one rfl) ⟨[], _, rfl⟩ (.nil _)) (.cons (.one rfl) (.nil _)) (fun _ h => by first | exact h | exact False.elim h) rfl rfl rfl ?_ | refine K4 ?_ | refine L1 ?_))
    repeat (refine RG.dead 11 rfl rfl ?_; (repeat (first | refine RG.call rfl rfl rfl rfl (nn) [0] rfl rfl rfl rfl (.cons rfl (.one rfl) (Reg.lt_one rfl) ⟨[], _, rfl⟩ (.nil _)) (.cons (.one rfl) (.nil _)) (fun _ h => by first | exact h | exact False.elim h) rfl rfl rfl ?_ | refine K4 ?_ | refine L1 ?_ | refine L2 ?_ | refine RG.dd ?_)))
    exact AW.absurd 11 rfl
  have c2 := next_ok site w2 t (hi1 site (by simp)) (by simp only [List.length_cons] at hws; unfold BW; omega) ht
  have hi2 : ∀ x, x ∈ w2 → I64' x := fun x hx => hi1 x (by simp [hx])
  simp only [List.length_cons] at hws
  refine RG.call rfl rfl rfl rfl (c2) [0] rfl rfl rfl rfl (.cons rfl (.one rfl) (Reg.lt_one rfl) ⟨[], _, rfl⟩ (.nil _)) (.cons (.one rfl) (.nil _)) (fun _ h => by first | exact h | exact False.elim h) rfl rfl rfl ?_
  (repeat (first | refine K4 ?_ | refine L1 ?_))
  have c3 := many_byte_fc _ rdLe le_can t ht k (by omega) (fun ws h hi => letter_rd t ht ws (by omega) hi) w2 (by omega) hi2
  cases h3 : lst rdLe w2 with
  | none =>
    rw [show M = none by rw [hM]; simp only [rdDf, if_true, one, h3]]
    rw [h3] at c3
    simp only [rres, rrest, PN] at c3
    refine RG.call rfl rfl rfl rfl (c3) [0] rfl rfl rfl rfl (.cons rfl (.one rfl) (Reg.lt_one rfl) ⟨[], _, rfl⟩ (.nil _)) (.cons (.one rfl) (.nil _)) (fun _ h => by first | exact h | exact False.elim h) rfl rfl rfl ?_
    (repeat (first | refine RG.call rfl rfl rfl rfl (nn) [0] rfl rfl rfl rfl (.cons rfl (.one rfl) (Reg.lt_one rfl) ⟨[], _, rfl⟩ (.nil _)) (.cons (.one rfl) (.nil _)) (fun _ h => by first | exact h | exact False.elim h) rfl rfl rfl ?_))
    repeat (refine RG.dead 15 rfl rfl ?_; (repeat (first | refine RG.call rfl rfl rfl rfl (nn) [0] rfl rfl rfl rfl (.cons rfl (.one rfl) (Reg.lt_one rfl) ⟨[], _, rfl⟩ (.nil _)) (.cons (.one rfl) (.nil _)) (fun _ h => by first | exact h | exact False.elim h) rfl rfl rfl ?_ | refine K4 ?_ | refine L1 ?_ | refine L2 ?_ | refine RG.dd ?_)))
    exact AW.absurd 15 rfl
  | some p =>
    obtain ⟨name, w3⟩ := p
    rw [h3] at c3
    simp only [rres, rrest, PN] at c3
    obtain ⟨e3, -⟩ := lst_can le_can h3
    have hi3 : ∀ x, x ∈ w3 → I64' x := fun x hx => hi2 x (by rw [e3]; simp [hx])
    have hl3 : w3.length ≤ w2.length := by rw [e3]; simp only [List.length_cons, List.length_append]; omega
    rw [bcl_eq] at c3
    refine RG.call rfl rfl rfl rfl (c3) [0] rfl rfl rfl rfl (.cons rfl (.one rfl) (Reg.lt_one rfl) ⟨[], _, rfl⟩ (.nil _)) (.cons (.one rfl) (.nil _)) (fun _ h => by first | exact h | exact False.elim h) rfl rfl rfl ?_
    refine RG.bstr tok rfl rfl rfl rfl rfl rfl rfl rfl rfl ?_
    (repeat (first | refine K4 ?_ | refine L1 ?_))
    rcases w3 with _ | ⟨firm, w4⟩
    · rw [show M = none by rw [hM]; simp only [rdDf, if_true, one, h3]]
      refine RG.call rfl rfl rfl rfl (nn) [0] rfl rfl rfl rfl (.cons rfl (.one rfl) (Reg.lt_one rfl) ⟨[], _, rfl⟩ (.nil _)) (.cons (.one rfl) (.nil _)) (fun _ h => by first | exact h | exact False.elim h) rfl rfl rfl ?_
      (repeat (first | refine RG.call rfl rfl rfl rfl (nn) [0] rfl rfl rfl rfl (.cons rfl (.one rfl) (Reg.lt_one rfl) ⟨[], _, rfl⟩ (.nil _)) (.cons (.one rfl) (.nil _)) (fun _ h => by first | exact h | exact False.elim h) rfl rfl rfl ?_ | refine K4 ?_ | refine L1 ?_ | refine L2 ?_ | refine L3 ?_ | refine RG.dd ?_))
      repeat (refine RG.dead 19 rfl rfl ?_; (repeat (first | refine RG.call rfl rfl rfl rfl (nn) [0] rfl rfl rfl rfl (.cons rfl (.one rfl) (Reg.lt_one rfl) ⟨[], _, rfl⟩ (.nil _)) (.cons (.one rfl) (.nil _)) (fun _ h => by first | exact h | exact False.elim h) rfl rfl rfl ?_)))
      exact AW.absurd 19 rfl
    have c4 := next_ok firm w4 t (hi3 firm (by simp)) (by simp only [List.length_cons] at hl3; unfold BW; omega) ht
    have hi4 : ∀ x, x ∈ w4 → I64' x := fun x hx => hi3 x (by simp [hx])
    simp only [List.length_cons] at hl3
    refine RG.call rfl rfl rfl rfl (c4) [0] rfl rfl rfl rfl (.cons rfl (.one rfl) (Reg.lt_one rfl) ⟨[], _, rfl⟩ (.nil _)) (.cons (.one rfl) (.nil _)) (fun _ h => by first | exact h | exact False.elim h) rfl rfl rfl ?_
    (repeat (first | refine K4 ?_ | refine L1 ?_))
    rcases w4 with _ | ⟨part, w5⟩
    · rw [show M = none by rw [hM]; simp only [rdDf, if_true, one, h3]]
      refine RG.call rfl rfl rfl rfl (nn) [0] rfl rfl rfl rfl (.cons rfl (.one rfl) (Reg.lt_one rfl) ⟨[], _, rfl⟩ (.nil _)) (.cons (.one rfl) (.nil _)) (fun _ h => by first | exact h | exact False.elim h) rfl rfl rfl ?_
      (repeat (first | refine K4 ?_ | refine L2 ?_ | refine L3 ?_ | refine RG.dd ?_))
      repeat (refine RG.dead 22 rfl rfl ?_; (repeat (first | refine K1 ?_)))
      exact AW.absurd 22 rfl
    have c5 := next_ok part w5 t (hi4 part (by simp)) (by simp only [List.length_cons] at hl3; unfold BW; omega) ht
    have hi5 : ∀ x, x ∈ w5 → I64' x := fun x hx => hi4 x (by simp [hx])
    simp only [List.length_cons] at hl3
    refine RG.call rfl rfl rfl rfl (c5) [0] rfl rfl rfl rfl (.cons rfl (.one rfl) (Reg.lt_one rfl) ⟨[], _, rfl⟩ (.nil _)) (.cons (.one rfl) (.nil _)) (fun _ h => by first | exact h | exact False.elim h) rfl rfl rfl ?_
    (repeat (first | refine K4 ?_ | refine L2 ?_ | refine L3 ?_ | refine RG.dd ?_))
    refine S1 ?_; (repeat (first | refine K4 ?_ | refine L1 ?_ | refine S2 ?_))
    have c6 := many_rg_fc _ rdRg rg_can t ht k (by omega) (fun ws h hi => span_rd t ht ws (by omega) hi) w5 (by omega) hi5
    cases h6 : lst rdRg w5 with
    | none =>
      rw [show M = none by rw [hM]; simp only [rdDf, if_true, one, h3, h6]]
      rw [h6] at c6
      simp only [rres, rrest, PN] at c6
      refine RG.call rfl rfl rfl rfl (c6) [0] rfl rfl rfl rfl (.cons rfl (.one rfl) (Reg.lt_one rfl) ⟨[], _, rfl⟩ (.nil _)) (.cons (.one rfl) (.nil _)) (fun _ h => by first | exact h | exact False.elim h) rfl rfl rfl ?_
      (repeat (first | refine RG.call rfl rfl rfl rfl (mrgN) [0] rfl rfl rfl rfl (.cons rfl (.one rfl) (Reg.lt_one rfl) ⟨[], _, rfl⟩ (.nil _)) (.cons (.one rfl) (.nil _)) (fun _ h => by first | exact h | exact False.elim h) rfl rfl rfl ?_ | refine K4 ?_ | refine L1 ?_ | refine L3 ?_ | refine RG.dd ?_))
      repeat (refine RG.dead 27 rfl rfl ?_; (repeat (first | refine RG.call rfl rfl rfl rfl (mrgN) [0] rfl rfl rfl rfl (.cons rfl (.one rfl) (Reg.lt_one rfl) ⟨[], _, rfl⟩ (.nil _)) (.cons (.one rfl) (.nil _)) (fun _ h => by first | exact h | exact False.elim h) rfl rfl rfl ?_)))
      exact AW.absurd 27 rfl
    | some p =>
      obtain ⟨params, w6⟩ := p
      rw [h6] at c6
      simp only [rres, rrest, PN] at c6
      obtain ⟨e6, -⟩ := lst_can rg_can h6
      have hi6 : ∀ x, x ∈ w6 → I64' x := fun x hx => hi5 x (by rw [e6]; simp [hx])
      have hl6 : w6.length ≤ w5.length := by rw [e6]; simp only [List.length_cons, List.length_append]; omega
      refine RG.call rfl rfl rfl rfl (c6) [0] rfl rfl rfl rfl (.cons rfl (.one rfl) (Reg.lt_one rfl) ⟨[], _, rfl⟩ (.nil _)) (.cons (.one rfl) (.nil _)) (fun _ h => by first | exact h | exact False.elim h) rfl rfl rfl ?_
      (repeat (first | refine K4 ?_ | refine L1 ?_))
      have c7 := many_rg_fc _ rdRg rg_can t ht k (by omega) (fun ws h hi => span_rd t ht ws (by omega) hi) w6 (by omega) hi6
      cases h7 : lst rdRg w6 with
      | none =>
        rw [show M = none by rw [hM]; simp only [rdDf, if_true, one, h3, h6, h7]]
        rw [h7] at c7
        simp only [rres, rrest, PN] at c7
        refine RG.call rfl rfl rfl rfl (c7) [0] rfl rfl rfl rfl (.cons rfl (.one rfl) (Reg.lt_one rfl) ⟨[], _, rfl⟩ (.nil _)) (.cons (.one rfl) (.nil _)) (fun _ h => by first | exact h | exact False.elim h) rfl rfl rfl ?_
        (repeat (first | refine K4 ?_ | refine L3 ?_ | refine RG.dd ?_))
        repeat (refine RG.dead 31 rfl rfl ?_; (repeat (first | refine K1 ?_)))
        exact AW.absurd 31 rfl
      | some p =>
        obtain ⟨given, w7⟩ := p
        rw [h7] at c7
        simp only [rres, rrest, PN] at c7
        obtain ⟨e7, -⟩ := lst_can rg_can h7
        have hi7 : ∀ x, x ∈ w7 → I64' x := fun x hx => hi6 x (by rw [e7]; simp [hx])
        have hl7 : w7.length ≤ w6.length := by rw [e7]; simp only [List.length_cons, List.length_append]; omega
        refine RG.call rfl rfl rfl rfl (c7) [0] rfl rfl rfl rfl (.cons rfl (.one rfl) (Reg.lt_one rfl) ⟨[], _, rfl⟩ (.nil _)) (.cons (.one rfl) (.nil _)) (fun _ h => by first | exact h | exact False.elim h) rfl rfl rfl ?_
        (repeat (first | refine K4 ?_ | refine L3 ?_ | refine RG.dd ?_))
        refine S1 ?_; (repeat (first | refine K4 ?_ | refine L1 ?_ | refine S2 ?_))
        rcases w7 with _ | ⟨vars, w8⟩
        · rw [show M = none by rw [hM]; simp only [rdDf, if_true, one, h3, h6, h7]]
          refine RG.call rfl rfl rfl rfl (nn) [0] rfl rfl rfl rfl (.cons rfl (.one rfl) (Reg.lt_one rfl) ⟨[], _, rfl⟩ (.nil _)) (.cons (.one rfl) (.nil _)) (fun _ h => by first | exact h | exact False.elim h) rfl rfl rfl ?_
          (repeat (first | refine RG.call rfl rfl rfl rfl (nn) [0] rfl rfl rfl rfl (.cons rfl (.one rfl) (Reg.lt_one rfl) ⟨[], _, rfl⟩ (.nil _)) (.cons (.one rfl) (.nil _)) (fun _ h => by first | exact h | exact False.elim h) rfl rfl rfl ?_ | refine K4 ?_ | refine L1 ?_ | refine L3 ?_ | refine RG.dd ?_))
          repeat (refine RG.dead 36 rfl rfl ?_; (repeat (first | refine RG.call rfl rfl rfl rfl (nn) [0] rfl rfl rfl rfl (.cons rfl (.one rfl) (Reg.lt_one rfl) ⟨[], _, rfl⟩ (.nil _)) (.cons (.one rfl) (.nil _)) (fun _ h => by first | exact h | exact False.elim h) rfl rfl rfl ?_)))
          exact AW.absurd 36 rfl
        have c8 := next_ok vars w8 t (hi7 vars (by simp)) (by simp only [List.length_cons] at hl7; unfold BW; omega) ht
        have hi8 : ∀ x, x ∈ w8 → I64' x := fun x hx => hi7 x (by simp [hx])
        simp only [List.length_cons] at hl7
        refine RG.call rfl rfl rfl rfl (c8) [0] rfl rfl rfl rfl (.cons rfl (.one rfl) (Reg.lt_one rfl) ⟨[], _, rfl⟩ (.nil _)) (.cons (.one rfl) (.nil _)) (fun _ h => by first | exact h | exact False.elim h) rfl rfl rfl ?_
        (repeat (first | refine K4 ?_ | refine L1 ?_))
        rcases w8 with _ | ⟨refs, w9⟩
        · rw [show M = none by rw [hM]; simp only [rdDf, if_true, one, h3, h6, h7]]
          refine RG.call rfl rfl rfl rfl (nn) [0] rfl rfl rfl rfl (.cons rfl (.one rfl) (Reg.lt_one rfl) ⟨[], _, rfl⟩ (.nil _)) (.cons (.one rfl) (.nil _)) (fun _ h => by first | exact h | exact False.elim h) rfl rfl rfl ?_
          (repeat (first | refine K4 ?_ | refine L3 ?_ | refine RG.dd ?_))
          repeat (refine RG.dead 39 rfl rfl ?_; (repeat (first | refine K1 ?_)))
          exact AW.absurd 39 rfl
        have c9 := next_ok refs w9 t (hi8 refs (by simp)) (by simp only [List.length_cons] at hl7; unfold BW; omega) ht
        have hi9 : ∀ x, x ∈ w9 → I64' x := fun x hx => hi8 x (by simp [hx])
        simp only [List.length_cons] at hl7
        refine RG.call rfl rfl rfl rfl (c9) [0] rfl rfl rfl rfl (.cons rfl (.one rfl) (Reg.lt_one rfl) ⟨[], _, rfl⟩ (.nil _)) (.cons (.one rfl) (.nil _)) (fun _ h => by first | exact h | exact False.elim h) rfl rfl rfl ?_
        (repeat (first | refine K4 ?_ | refine L3 ?_ | refine RG.dd ?_))
        refine S1 ?_; (repeat (first | refine K4 ?_ | refine L1 ?_ | refine S2 ?_))
        have c10 := many_ar_fc _ rdAr ar_can t ht k (by omega) (fun ws h hi => arr_rd t ht ws (by omega) hi) w9 (by omega) hi9
        cases h10 : lst rdAr w9 with
        | none =>
          rw [show M = none by rw [hM]; simp only [rdDf, if_true, one, h3, h6, h7, h10]]
          rw [h10] at c10
          simp only [rres, rrest, PN] at c10
          refine RG.call rfl rfl rfl rfl (c10) [0, 1] rfl rfl rfl rfl (.cons rfl (.one rfl) (Reg.lt_one rfl) ⟨[], _, rfl⟩ (.cons rfl (.one rfl) (Reg.lt_one rfl) ⟨[], _, rfl⟩ (.nil _))) (.cons (.one rfl) (.cons (.one rfl) (.nil _))) (fun _ h => by first | exact h | exact False.elim h) rfl rfl rfl ?_
          (repeat (first | refine K4 ?_ | refine L3 ?_ | refine RG.d ?_))
          repeat (refine RG.dead 44 rfl rfl ?_; (repeat (first | refine K1 ?_)))
          exact AW.absurd 44 rfl
        | some p =>
          obtain ⟨arrays, w10⟩ := p
          rw [h10] at c10
          simp only [rres, rrest, PN] at c10
          obtain ⟨e10, -⟩ := lst_can ar_can h10
          have hi10 : ∀ x, x ∈ w10 → I64' x := fun x hx => hi9 x (by rw [e10]; simp [hx])
          have hl10 : w10.length ≤ w9.length := by rw [e10]; simp only [List.length_cons, List.length_append]; omega
          refine RG.call rfl rfl rfl rfl (c10) [0, 1] rfl rfl rfl rfl (.cons rfl (.one rfl) (Reg.lt_one rfl) ⟨[], _, rfl⟩ (.cons rfl (.one rfl) (Reg.lt_one rfl) ⟨[], _, rfl⟩ (.nil _))) (.cons (.one rfl) (.cons (.one rfl) (.nil _))) (fun _ h => by first | exact h | exact False.elim h) rfl rfl rfl ?_
          (repeat (first | refine K4 ?_ | refine L3 ?_ | refine RG.d ?_))
          refine S1 ?_; (repeat (first | refine K4 ?_ | refine L1 ?_ | refine S2 ?_))
          rcases w10 with _ | ⟨budget, w11⟩
          · rw [show M = none by rw [hM]; simp only [rdDf, if_true, one, h3, h6, h7, h10]]
            refine RG.call rfl rfl rfl rfl (nn) [0] rfl rfl rfl rfl (.cons rfl (.one rfl) (Reg.lt_one rfl) ⟨[], _, rfl⟩ (.nil _)) (.cons (.one rfl) (.nil _)) (fun _ h => by first | exact h | exact False.elim h) rfl rfl rfl ?_
            (repeat (first | refine K4 ?_ | refine L3 ?_ | refine RG.d ?_))
            repeat (refine RG.dead 48 rfl rfl ?_; (repeat (first | refine K1 ?_)))
            exact AW.absurd 48 rfl
          have c11 := next_ok budget w11 t (hi10 budget (by simp)) (by simp only [List.length_cons] at hl10; unfold BW; omega) ht
          have hi11 : ∀ x, x ∈ w11 → I64' x := fun x hx => hi10 x (by simp [hx])
          simp only [List.length_cons] at hl10
          refine RG.call rfl rfl rfl rfl (c11) [0] rfl rfl rfl rfl (.cons rfl (.one rfl) (Reg.lt_one rfl) ⟨[], _, rfl⟩ (.nil _)) (.cons (.one rfl) (.nil _)) (fun _ h => by first | exact h | exact False.elim h) rfl rfl rfl ?_
          (repeat (first | refine K4 ?_ | refine L3 ?_ | refine RG.d ?_))
          refine S1 ?_; (repeat (first | refine K4 ?_ | refine L1 ?_ | refine S2 ?_))
          have c12 := many_sm_fc _ (rdSm k) (sm_can k) t ht k (by omega) (fun ws h hi => sm_rd t ht k (by omega) ws h hi) w11 (by omega) hi11
          cases h12 : lst (rdSm k) w11 with
          | none =>
            rw [show M = none by rw [hM]; simp only [rdDf, if_true, one, h3, h6, h7, h10, h12]]
            rw [h12] at c12
            simp only [rres, rrest, PN] at c12
            refine RG.call rfl rfl rfl rfl (c12) [0] rfl rfl rfl rfl (.cons rfl (.one rfl) (Reg.lt_one rfl) ⟨[], _, rfl⟩ (.nil _)) (.cons (.one rfl) (.nil _)) (fun _ h => by first | exact h | exact False.elim h) rfl rfl rfl ?_
            (repeat (first | refine K4 ?_ | refine L3 ?_ | refine RG.d ?_))
            repeat (refine RG.dead 53 rfl rfl ?_; (repeat (first | refine K1 ?_)))
            exact AW.absurd 53 rfl
          | some p =>
            obtain ⟨body, w12⟩ := p
            rw [h12] at c12
            simp only [rres, rrest, PN] at c12
            obtain ⟨e12, -⟩ := lst_can (sm_can k) h12
            have hi12 : ∀ x, x ∈ w12 → I64' x := fun x hx => hi11 x (by rw [e12]; simp [hx])
            have hl12 : w12.length ≤ w11.length := by rw [e12]; simp only [List.length_cons, List.length_append]; omega
            refine RG.call rfl rfl rfl rfl (c12) [0] rfl rfl rfl rfl (.cons rfl (.one rfl) (Reg.lt_one rfl) ⟨[], _, rfl⟩ (.nil _)) (.cons (.one rfl) (.nil _)) (fun _ h => by first | exact h | exact False.elim h) rfl rfl rfl ?_
            (repeat (first | refine K4 ?_ | refine L3 ?_ | refine RG.d ?_))
            have e : M = some (⟨id, site, name, firm, part, params, given, vars, refs, arrays, budget, body⟩, w12) := by rw [hM]; simp only [rdDf, if_true, one, h3, h6, h7, h10, h12]
            rw [e]
            simp only [rres, rrest, Df.cl]
            (repeat (first | refine L1 ?_ | refine L3 ?_ | refine RG.d ?_ | refine S1 ?_ | refine S2 ?_ | refine S6 ?_))
            exact ⟨⟨_, rfl, rfl⟩, rfl, .cons rfl (.one rfl) (Reg.lt_one rfl) ⟨[], _, rfl⟩ (.nil _)⟩
end Go.Proofs.Ytmfccaidgaelcaa
