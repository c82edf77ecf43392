/- What Has of package gap computes. Conditions: sizes, values of 32 bits. -/
import Derived.Test.YtajlmkokfgbjdaaGap6
set_option linter.unusedVariables false
set_option linter.unusedSimpArgs false
namespace Go.Proofs.Ytajlmkokfgbjdaa
open Go.RowKit

set_option maxRecDepth 100000 in
set_option maxHeartbeats 2000000 in
theorem has_any (v1 v2 : Value) (g : List (List Int)) (vs : List Int) (w : World) (hg : Small g) (hc1 : g.length ≤ vs.length) (hc2 : ∀ i, i < g.length → (g.getD i []).length ≤ vs.length) (hv : ∀ i, -2147483648 ≤ vs.getD i 0 ∧ vs.getD i 0 ≤ 2147483647) (h1 : Mx w v1 g) (h2 : Sl .i64 w v2 vs) :
    Calls Try.prog 14 #[v1, v2] w fun e w' => e = .returned (.bool (Gp.has g vs)) ∧ ∃ q, w' = w.drewN q := by
  obtain ⟨hg0, hg1, hg2⟩ := hg
  obtain ⟨a1, cap1, rfl, _, _, _, hf1⟩ := h1
  obtain ⟨b1, o1, rfl, hb1, hr1⟩ := hf1 hg0
  obtain ⟨a2, cap2, rfl, _, _, _, hf2⟩ := h2
  obtain ⟨b2, o2, rfl, hb2, hr2⟩ := hf2 (by omega)
  have HV := hid hv
  have HR1 := hid hr1
  have HR2 := hid hr2
  have HG := hid hg2
  have HC := hid hc2
  obtain ⟨n, hn⟩ : ∃ n, g.length = n := ⟨_, rfl⟩
  obtain ⟨m, hm⟩ : ∃ m, vs.length = m := ⟨_, rfl⟩
  rw [hn] at hg0 hg1 hc1 ⊢
  rw [hm] at hc1 ⊢
  have HN := hid hn
  have HM := hid hm
  clear hf1 hf2 hr1 hr2 hg2 hc2 hn hm hv
  go_enter Try.func14, Try.ntmps14
  go_wp2_with fail
  go_loopw [11] (fun kv wr => ∃ k : Nat, kv = .int .i64 k ∧ k ≤ n ∧ Hid (∀ i, i < k → ∀ j, j < (g.getD i []).length → decide (vs.getD i 0 - vs.getD j 0 ≤ Gp.at_ g i j) = true) ∧ ∃ q, wr = w.drewN q) (fun kv _ => n - (intOf kv).toNat)
  case atStart => exact ⟨0, rfl, Nat.zero_le _, fun i h => absurd h (Nat.not_lt_zero i), 0, rfl⟩
  case round =>
    obtain ⟨k, rfl, hk, hall, q, rfl⟩ := hrel
    by_cases hlt : k < n
    · obtain ⟨r1, hk1, hs1⟩ := HR1.out k (by rw [HN.out]; exact hlt)
      have hk2 := HR2.out k (by rw [HM.out]; omega)
      obtain ⟨ra1, rc1, rfl, _, _, _, hrf1⟩ := hs1
      have hcl := HC.out k (by rw [HN.out]; exact hlt)
      have hgl := HG.out k
      obtain ⟨p1, hp1⟩ : ∃ p, (g.getD k []).length = p := ⟨_, rfl⟩
      obtain ⟨x, hx⟩ : ∃ x, vs.getD k 0 = x := ⟨_, rfl⟩
      rw [hp1] at hcl hk1 hrf1 hgl
      rw [hx] at hk2
      rw [HM.out] at hcl
      have HX := hid hx
      have hvx := HV.out k
      rw [hx] at hvx
      have HP1 := hid hp1
      have HF1 := hid hrf1
      have i1 : (0 : Int) ≤ (k : Int) := by omega
      have i2 : (k : Int) < (n : Int) := by omega
      have i3 : (k : Int) < (m : Int) := by omega
      clear hp1 hx hrf1
      go_wp2_with fail
      obtain ⟨W, hW⟩ : ∃ W, w.drewN q = W := ⟨_, rfl⟩
      have HW := hid hW
      go_loopw [18] (fun pv wr => ∃ p : Nat, pv = .int .i64 p ∧ p ≤ p1 ∧ Hid (∀ j, j < p → decide (vs.getD k 0 - vs.getD j 0 ≤ Gp.at_ g k j) = true) ∧ ∃ q', wr = w.drewN q') (fun pv _ => p1 - (intOf pv).toNat)
      case atStart => exact ⟨0, rfl, Nat.zero_le _, fun i h => absurd h (Nat.not_lt_zero i), q, rfl⟩
      case round =>
        obtain ⟨p, rfl, hp, hrow, q', rfl⟩ := hrel
        by_cases hlp : p < p1
        · obtain ⟨c1, d1, rfl, hcb1, hcc1⟩ := HF1.out (by omega)
          have x1 := hcc1 p hlp
          have x2 := HR2.out p (by rw [HM.out]; omega)
          obtain ⟨z, hz⟩ : ∃ z, (g.getD k []).getD p 0 = z := ⟨_, rfl⟩
          obtain ⟨y, hy⟩ : ∃ y, vs.getD p 0 = y := ⟨_, rfl⟩
          rw [hz] at x1
          rw [hy] at x2
          have HZ : Hid (Gp.at_ g k p = z) := hz
          have hvy := HV.out p
          rw [hy] at hvy
          have HY := hid hy
          obtain ⟨hx0, hx1⟩ := hvx
          obtain ⟨hy0, hy1⟩ := hvy
          have wr1 : IntKind.i64.wrap (x - y) = x - y := IntWalk.i64_in _ (by omega)
          have j1 : (0 : Int) ≤ (p : Int) := by omega
          have j2 : (p : Int) < (p1 : Int) := by omega
          have j3 : (p : Int) < (m : Int) := by omega
          clear hcc1 hz hy hcb1
          by_cases hxy : x - y ≤ z
          · have t1 : decide (z < x - y) = false := decide_eq_false (by omega)
            have H2 : Hid (∀ j, j < p + 1 → decide (vs.getD k 0 - vs.getD j 0 ≤ Gp.at_ g k j) = true) := fun j hj => by
              by_cases hjp : j = p
              · rw [hjp, HX.out, HY.out, HZ.out]; exact decide_eq_true hxy
              · exact hrow.out j (by omega)
            clear hxy
            go_wp2_with fail
            go_quiet (fail)
            go_wp2_with fail
            go_roundw
            case rel => exact ⟨p + 1, by go_num, by omega, H2, _, rfl⟩
            case measure => simp [intOf]; omega
          · have t1 : decide (z < x - y) = true := decide_eq_true (by omega)
            have hres : Gp.has g vs = false := Gp.every_false (i := k) (j := p) (by rw [HN.out]; exact hlt) (by rw [HP1.out]; exact hlp) (by rw [HX.out, HY.out, HZ.out]; exact decide_eq_false hxy)
            have HRES := hid hres
            clear hxy hres
            go_wp2_with fail
            go_quiet (fail)
            go_wp2_with fail
            go_ret
            exact ⟨by rw [HRES.out]; rfl, _, drewN_add _ _ _⟩
        · obtain rfl : p = p1 := by omega
          have H2 : Hid (∀ i, i < k + 1 → ∀ j, j < (g.getD i []).length → decide (vs.getD i 0 - vs.getD j 0 ≤ Gp.at_ g i j) = true) := fun i hi j hj => by
            by_cases hik : i = k
            · subst hik; exact hrow.out j (by rw [HP1.out] at hj; exact hj)
            · exact hall.out i (by omega) j hj
          clear hrow
          go_wp2_with fail
          go_roundw
          case rel => exact ⟨k + 1, by go_num, by omega, H2, _, rfl⟩
          case measure => simp [intOf]; omega
    · obtain rfl : k = n := by omega
      have hres : Gp.has g vs = true := Gp.every_true fun i hi j hj => hall.out i (by rw [← HN.out]; exact hi) j hj
      have HRES := hid hres
      clear hres
      go_wp2_with fail
      go_ret
      exact ⟨by rw [HRES.out]; rfl, _, rfl⟩
end Go.Proofs.Ytajlmkokfgbjdaa
