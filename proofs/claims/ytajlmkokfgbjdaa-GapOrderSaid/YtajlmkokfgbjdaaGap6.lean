/- What Leq and Has of package gap compute. Conditions: sizes, no overflow. -/
import Derived.Test.YtajlmkokfgbjdaaGap5
set_option linter.unusedVariables false
set_option linter.unusedSimpArgs false
namespace Go.Proofs.Ytajlmkokfgbjdaa
open Go.RowKit

theorem drewN_add (w : World) (a b : Nat) : (w.drewN a).drewN b = w.drewN (a + b) := by
  simp only [World.drewN, Nat.add_assoc]
/-- The second matrix has at least the places of the first. -/
def Covers (g h : List (List Int)) : Prop := g.length ≤ h.length ∧ ∀ i, i < g.length → (g.getD i []).length ≤ (h.getD i []).length

set_option maxRecDepth 100000 in
set_option maxHeartbeats 2000000 in
theorem leq_any (v1 v2 : Value) (g h : List (List Int)) (w : World) (hg : Small g) (hc : Covers g h) (h1 : Mx w v1 g) (h2 : Mx w v2 h) :
    Calls Try.prog 22 #[v1, v2] w fun e w' => e = .returned (.bool (Gp.leq g h)) ∧ ∃ q, w' = w.drewN q := by
  obtain ⟨hg0, hg1, hg2⟩ := hg
  obtain ⟨hc1, hc2⟩ := hc
  obtain ⟨a1, cap1, rfl, _, _, _, hf1⟩ := h1
  obtain ⟨b1, o1, rfl, hb1, hr1⟩ := hf1 hg0
  obtain ⟨a2, cap2, rfl, _, _, _, hf2⟩ := h2
  obtain ⟨b2, o2, rfl, hb2, hr2⟩ := hf2 (by omega)
  have HR1 := hid hr1
  have HR2 := hid hr2
  have HG := hid hg2
  have HC := hid hc2
  obtain ⟨n, hn⟩ : ∃ n, g.length = n := ⟨_, rfl⟩
  obtain ⟨m, hm⟩ : ∃ m, h.length = m := ⟨_, rfl⟩
  rw [hn] at hg0 hg1 hc1 ⊢
  rw [hm] at hc1 ⊢
  have HN := hid hn
  have HM := hid hm
  clear hf1 hf2 hr1 hr2 hg2 hc2 hn hm
  go_enter Try.func22, Try.ntmps22
  go_wp2_with fail
  go_loopw [9] (fun kv wr => ∃ k : Nat, kv = .int .i64 k ∧ k ≤ n ∧ Hid (∀ i, i < k → ∀ j, j < (g.getD i []).length → decide (Gp.at_ g i j ≤ Gp.at_ h i j) = true) ∧ ∃ q, wr = w.drewN q) (fun kv _ => n - (intOf kv).toNat)
  case atStart => exact ⟨0, rfl, Nat.zero_le _, fun i h => absurd h (Nat.not_lt_zero i), 0, rfl⟩
  case round =>
    obtain ⟨k, rfl, hk, hall, q, rfl⟩ := hrel
    by_cases hlt : k < n
    · obtain ⟨r1, hk1, hs1⟩ := HR1.out k (by rw [HN.out]; exact hlt)
      obtain ⟨r2, hk2, hs2⟩ := HR2.out k (by rw [HM.out]; omega)
      obtain ⟨ra1, rc1, rfl, _, _, _, hrf1⟩ := hs1
      obtain ⟨ra2, rc2, rfl, _, _, _, hrf2⟩ := hs2
      have hcl := HC.out k (by rw [HN.out]; exact hlt)
      have hgl := HG.out k
      obtain ⟨p1, hp1⟩ : ∃ p, (g.getD k []).length = p := ⟨_, rfl⟩
      obtain ⟨p2, hp2⟩ : ∃ p, (h.getD k []).length = p := ⟨_, rfl⟩
      rw [hp1] at hcl hk1 hrf1 hgl
      rw [hp2] at hcl hk2 hrf2
      have HP1 := hid hp1
      have HF1 := hid hrf1
      have HF2 := hid hrf2
      have i1 : (0 : Int) ≤ (k : Int) := by omega
      have i2 : (k : Int) < (n : Int) := by omega
      have i3 : (k : Int) < (m : Int) := by omega
      clear hp1 hp2 hrf1 hrf2
      go_wp2_with fail
      obtain ⟨W, hW⟩ : ∃ W, w.drewN q = W := ⟨_, rfl⟩
      have HW := hid hW
      go_loopw [17] (fun pv wr => ∃ p : Nat, pv = .int .i64 p ∧ p ≤ p1 ∧ Hid (∀ j, j < p → decide (Gp.at_ g k j ≤ Gp.at_ h k j) = true) ∧ ∃ q', wr = w.drewN q') (fun pv _ => p1 - (intOf pv).toNat)
      case atStart => exact ⟨0, rfl, Nat.zero_le _, fun i h => absurd h (Nat.not_lt_zero i), q, rfl⟩
      case round =>
        obtain ⟨p, rfl, hp, hrow, q', rfl⟩ := hrel
        by_cases hlp : p < p1
        · obtain ⟨c1, d1, rfl, hcb1, hcc1⟩ := HF1.out (by omega)
          obtain ⟨c2, d2, rfl, hcb2, hcc2⟩ := HF2.out (by omega)
          have x1 := hcc1 p hlp
          have x2 := hcc2 p (by omega)
          obtain ⟨x, hx⟩ : ∃ x, (g.getD k []).getD p 0 = x := ⟨_, rfl⟩
          obtain ⟨y, hy⟩ : ∃ y, (h.getD k []).getD p 0 = y := ⟨_, rfl⟩
          rw [hx] at x1
          rw [hy] at x2
          have HX : Hid (Gp.at_ g k p = x) := hx
          have HY : Hid (Gp.at_ h k p = y) := hy
          have j1 : (0 : Int) ≤ (p : Int) := by omega
          have j2 : (p : Int) < (p1 : Int) := by omega
          have j3 : (p : Int) < (p2 : Int) := by omega
          clear hcc1 hcc2 hx hy hcb1 hcb2
          by_cases hxy : x ≤ y
          · have t1 : decide (y < x) = false := decide_eq_false (by omega)
            have H2 : Hid (∀ j, j < p + 1 → decide (Gp.at_ g k j ≤ Gp.at_ h k j) = true) := fun j hj => by
              by_cases hjp : j = p
              · rw [hjp, HX.out, HY.out]; exact decide_eq_true hxy
              · exact hrow.out j (by omega)
            clear hxy
            go_wp2_with fail
            go_quiet (fail)
            go_wp2_with fail
            go_roundw
            case rel => exact ⟨p + 1, by go_num, by omega, H2, _, rfl⟩
            case measure => simp [intOf]; omega
          · have t1 : decide (y < x) = true := decide_eq_true (by omega)
            have hres : Gp.leq g h = false := Gp.every_false (i := k) (j := p) (by rw [HN.out]; exact hlt) (by rw [HP1.out]; exact hlp) (by rw [HX.out, HY.out]; exact decide_eq_false hxy)
            have HRES := hid hres
            clear hxy hres
            go_wp2_with fail
            go_quiet (fail)
            go_wp2_with fail
            go_ret
            exact ⟨by rw [HRES.out]; rfl, _, drewN_add _ _ _⟩
        · obtain rfl : p = p1 := by omega
          have H2 : Hid (∀ i, i < k + 1 → ∀ j, j < (g.getD i []).length → decide (Gp.at_ g i j ≤ Gp.at_ h i j) = true) := fun i hi j hj => by
            by_cases hik : i = k
            · subst hik; exact hrow.out j (by rw [HP1.out] at hj; exact hj)
            · exact hall.out i (by omega) j hj
          clear hrow
          go_wp2_with fail
          go_roundw
          case rel => exact ⟨k + 1, by go_num, by omega, H2, _, rfl⟩
          case measure => simp [intOf]; omega
    · obtain rfl : k = n := by omega
      have hres : Gp.leq g h = true := Gp.every_true fun i hi j hj => hall.out i (by rw [← HN.out]; exact hi) j hj
      have HRES := hid hres
      clear hres
      go_wp2_with fail
      go_ret
      exact ⟨by rw [HRES.out]; rfl, _, rfl⟩
end Go.Proofs.Ytajlmkokfgbjdaa
