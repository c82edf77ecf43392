/- What Valid of the reference computes. Conditions: sizes. -/
import Derived.Test.YtajlmkokfgbjdaaOld20
import Derived.Test.YtajlmkokfgbjdaaGapPure2
set_option linter.unusedVariables false
set_option linter.unusedSimpArgs false
namespace Go.Proofs.Ytajlmkokfgbjdaa
open Go.RowKit

theorem valid_true {g : List (List Int)} {vars params : Int} (h0 : (g.length : Int) = vars) (h : ∀ i, i < g.length → ((g.getD i []).length : Int) = params ∧ ∀ j, j < (g.getD i []).length → Gp.inR (Gp.at_ g i j) = true) : Gp.valid g vars params = true := by
  unfold Gp.valid
  rw [decide_eq_true h0, Bool.true_and, List.all_eq_true]
  intro l hl
  obtain ⟨i, hi, rfl⟩ := List.mem_iff_getElem.1 hl
  have e : g.getD i [] = g[i] := by simp [List.getD, hi]
  obtain ⟨h1, h2⟩ := h i hi
  rw [e] at h1 h2
  rw [Bool.and_eq_true]
  refine ⟨decide_eq_true h1, ?_⟩
  unfold Gp.rowOk
  rw [List.all_eq_true]
  intro x hx
  obtain ⟨j, hj, rfl⟩ := List.mem_iff_getElem.1 hx
  have := h2 j hj
  unfold Gp.at_ at this
  rw [e] at this
  simpa [List.getD, hj] using this
theorem valid_spec {g : List (List Int)} {vars params : Int} (h : Gp.valid g vars params = true) : (g.length : Int) = vars ∧ ∀ i, i < g.length → ((g.getD i []).length : Int) = params ∧ ∀ j, j < (g.getD i []).length → Gp.inR (Gp.at_ g i j) = true := by
  unfold Gp.valid at h
  rw [Bool.and_eq_true] at h
  refine ⟨of_decide_eq_true h.1, fun i hi => ?_⟩
  have h2 := List.all_eq_true.1 h.2 (g[i]) (List.getElem_mem hi)
  have e : g.getD i [] = g[i] := by simp [List.getD, hi]
  rw [Bool.and_eq_true] at h2
  rw [e]
  refine ⟨of_decide_eq_true h2.1, fun j hj => ?_⟩
  have h3 := h2.2
  unfold Gp.rowOk at h3
  have h4 := List.all_eq_true.1 h3 (g[i][j]) (List.getElem_mem hj)
  unfold Gp.at_
  rw [e]
  simpa [List.getD, hj] using h4

set_option maxRecDepth 100000 in
set_option maxHeartbeats 2000000 in
theorem rvalid_any (v1 : Value) (g : List (List Int)) (vars params : Int) (w : World) (hg : Small g) (h1 : Mx w v1 g) :
    Calls Try.prog 39 #[v1, .int .i64 vars, .int .i64 params] w fun e w' => e = .returned (.bool (Gp.valid g vars params)) ∧ w = w' := by
  obtain ⟨hg0, hg1, hg2⟩ := hg
  obtain ⟨a1, cap1, rfl, _, _, _, hf1⟩ := h1
  obtain ⟨b1, o1, rfl, hb1, hr1⟩ := hf1 hg0
  have HR1 := hid hr1
  have HG := hid hg2
  obtain ⟨n, hn⟩ : ∃ n, g.length = n := ⟨_, rfl⟩
  rw [hn] at hg0 hg1 ⊢
  have HN := hid hn
  clear hf1 hr1 hg2 hn
  by_cases hnv : (n : Int) = vars
  · subst hnv
    have t0 : ((n : Int) != (n : Int)) = false := by simp
    have t0' : ((n : Int) == (n : Int)) = true := by simp
    go_enter Try.func39, Try.ntmps39
    go_wp2_with fail
    go_loopw [7] (fun kv wr => ∃ k : Nat, kv = .int .i64 k ∧ k ≤ n ∧ Hid (∀ i, i < k → ((g.getD i []).length : Int) = params ∧ ∀ j, j < (g.getD i []).length → Gp.inR (Gp.at_ g i j) = true) ∧ w = wr) (fun kv _ => n - (intOf kv).toNat)
    case atStart => exact ⟨0, rfl, Nat.zero_le _, fun i h => absurd h (Nat.not_lt_zero i), rfl⟩
    case round =>
      obtain ⟨k, rfl, hk, hall, rfl⟩ := hrel
      by_cases hlt : k < n
      · obtain ⟨r1, hk1, hs1⟩ := HR1.out k (by rw [HN.out]; exact hlt)
        obtain ⟨ra1, rc1, rfl, _, _, _, hrf1⟩ := hs1
        have hgl := HG.out k
        obtain ⟨p1, hp1⟩ : ∃ p, (g.getD k []).length = p := ⟨_, rfl⟩
        rw [hp1] at hk1 hrf1 hgl
        have HP1 := hid hp1
        have HF1 := hid hrf1
        have i1 : (0 : Int) ≤ (k : Int) := by omega
        have i2 : (k : Int) < (n : Int) := by omega
        clear hp1 hrf1
        by_cases hpp : (p1 : Int) = params
        · subst hpp
          have t1 : ((p1 : Int) != (p1 : Int)) = false := by simp
          have t1' : ((p1 : Int) == (p1 : Int)) = true := by simp
          go_wp2_with fail
          go_loopw [8] (fun pv wr => ∃ p : Nat, pv = .int .i64 p ∧ p ≤ p1 ∧ Hid (∀ j, j < p → Gp.inR (Gp.at_ g k j) = true) ∧ w = wr) (fun pv _ => p1 - (intOf pv).toNat)
          case atStart => exact ⟨0, rfl, Nat.zero_le _, fun i h => absurd h (Nat.not_lt_zero i), rfl⟩
          case round =>
            obtain ⟨p, rfl, hp, hrow, rfl⟩ := hrel
            by_cases hlp : p < p1
            · obtain ⟨c1, d1, rfl, hcb1, hcc1⟩ := HF1.out (by omega)
              have x1 := hcc1 p hlp
              obtain ⟨x, hx⟩ : ∃ x, (g.getD k []).getD p 0 = x := ⟨_, rfl⟩
              rw [hx] at x1
              have HX : Hid (Gp.at_ g k p = x) := hx
              have j1 : (0 : Int) ≤ (p : Int) := by omega
              have j2 : (p : Int) < (p1 : Int) := by omega
              have cF := hid (fine_any x w)
              obtain ⟨q, hq⟩ : ∃ q, Gp.inR x = q := ⟨_, rfl⟩
              rw [hq] at cF
              have HQ := hid hq
              clear hcc1 hx hcb1 hq
              cases q
              · have hres : Gp.valid g n p1 = false := by
                  cases hv : Gp.valid g n p1 with
                  | false => rfl
                  | true =>
                    have := ((valid_spec hv).2 k (by rw [HN.out]; exact hlt)).2 p (by rw [HP1.out]; exact hlp)
                    rw [HX.out, HQ.out] at this
                    cases this
                have HRES := hid hres
                clear hres
                go_wp2_with fail
                refine cF.out.mono ?_
                rintro e w' ⟨rfl, rfl⟩
                go_wp2_with fail
                go_ret
                exact ⟨by rw [HRES.out]; rfl, rfl⟩
              · have H2 : Hid (∀ j, j < p + 1 → Gp.inR (Gp.at_ g k j) = true) := fun j hj => by
                  by_cases hjp : j = p
                  · rw [hjp, HX.out, HQ.out]
                  · exact hrow.out j (by omega)
                go_wp2_with fail
                refine cF.out.mono ?_
                rintro e w' ⟨rfl, rfl⟩
                go_wp2_with fail
                go_roundw
                case rel => exact ⟨p + 1, by go_num, by omega, H2, by trivial⟩
                case measure => simp [intOf]; omega
            · obtain rfl : p = p1 := by omega
              have H2 : Hid (∀ i, i < k + 1 → ((g.getD i []).length : Int) = (p : Int) ∧ ∀ j, j < (g.getD i []).length → Gp.inR (Gp.at_ g i j) = true) := fun i hi => by
                by_cases hik : i = k
                · subst hik
                  exact ⟨by rw [HP1.out], fun j hj => hrow.out j (by rw [HP1.out] at hj; exact hj)⟩
                · exact hall.out i (by omega)
              clear hrow
              go_wp2_with fail
              go_roundw
              case rel => exact ⟨k + 1, by go_num, by omega, H2, by trivial⟩
              case measure => simp [intOf]; omega
        · have t1 : ((p1 : Int) != params) = true := by simpa using hpp
          have t1' : ((p1 : Int) == params) = false := by simpa using hpp
          have hres : Gp.valid g n params = false := by
            cases hv : Gp.valid g n params with
            | false => rfl
            | true =>
              have := ((valid_spec hv).2 k (by rw [HN.out]; exact hlt)).1
              rw [HP1.out] at this
              exact absurd this hpp
          have HRES := hid hres
          clear hres hpp
          go_wp2_with fail
          go_ret
          exact ⟨by rw [HRES.out]; rfl, rfl⟩
      · obtain rfl : k = n := by omega
        have hres : Gp.valid g k params = true := valid_true (by rw [HN.out]) fun i hi => hall.out i (by rw [← HN.out]; exact hi)
        have HRES := hid hres
        clear hres
        go_wp2_with fail
        go_ret
        exact ⟨by rw [HRES.out]; rfl, rfl⟩
  · have t0 : ((n : Int) != vars) = true := by simpa using hnv
    have t0' : ((n : Int) == vars) = false := by simpa using hnv
    have hres : Gp.valid g vars params = false := by
      cases hv : Gp.valid g vars params with
      | false => rfl
      | true => have := (valid_spec hv).1; rw [HN.out] at this; exact absurd this hnv
    have HRES := hid hres
    clear hres hnv
    go_enter Try.func39, Try.ntmps39
    go_wp2_with fail
    go_ret
    exact ⟨by rw [HRES.out]; rfl, rfl⟩
end Go.Proofs.Ytajlmkokfgbjdaa
