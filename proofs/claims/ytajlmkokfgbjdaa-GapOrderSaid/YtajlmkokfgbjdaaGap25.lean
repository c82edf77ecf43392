/- What Leq and Same of the reference compute. Conditions: sizes. -/
import Derived.Test.YtajlmkokfgbjdaaGap6
import Derived.Test.YtajlmkokfgbjdaaGapPure2
set_option linter.unusedVariables false
set_option linter.unusedSimpArgs false
namespace Go.Proofs.Ytajlmkokfgbjdaa
open Go.RowKit

set_option maxRecDepth 100000 in
set_option maxHeartbeats 2000000 in
theorem rleq_any (v1 v2 : Value) (g h : List (List Int)) (w : World) (hg : Small g) (hc : Covers g h) (h1 : Mx w v1 g) (h2 : Mx w v2 h) :
    Calls Try.prog 36 #[v1, v2] w fun e w' => e = .returned (.bool (Gp.leq g h)) ∧ ∃ q, w' = w.drewN q := by
  obtain ⟨hg0, hg1, hg2⟩ := hg
  obtain ⟨hc1, hc2⟩ := hc
  obtain ⟨a1, cap1, rfl, _, _, _, hf1⟩ := h1
  obtain ⟨b1, o1, rfl, hb1, hr1⟩ := hf1 hg0
  obtain ⟨a2, cap2, rfl, _, _, _, hf2⟩ := h2
  obtain ⟨b2, o2, rfl, hb2, hr2⟩ := hf2 (by omega)
  have HR1 := hid hr1
  have HR2 := hid hr2
  have HG := hid hg2
  have HC := hid hc2
  obtain ⟨n, hn⟩ : ∃ n, g.length = n := ⟨_, rfl⟩
  obtain ⟨m, hm⟩ : ∃ m, h.length = m := ⟨_, rfl⟩
  rw [hn] at hg0 hg1 hc1 ⊢
  rw [hm] at hc1 ⊢
  have HN := hid hn
  have HM := hid hm
  clear hf1 hf2 hr1 hr2 hg2 hc2 hn hm
  go_enter Try.func36, Try.ntmps36
  go_wp2_with fail
  go_loopw [5] (fun kv wr => ∃ k : Nat, kv = .int .i64 k ∧ k ≤ n ∧ Hid (∀ i, i < k → ∀ j, j < (g.getD i []).length → decide (Gp.at_ g i j ≤ Gp.at_ h i j) = true) ∧ ∃ q, wr = w.drewN q) (fun kv _ => n - (intOf kv).toNat)
  case atStart => exact ⟨0, rfl, Nat.zero_le _, fun i h => absurd h (Nat.not_lt_zero i), 0, rfl⟩
  case round =>
    obtain ⟨k, rfl, hk, hall, q, rfl⟩ := hrel
    by_cases hlt : k < n
    · obtain ⟨r1, hk1, hs1⟩ := HR1.out k (by rw [HN.out]; exact hlt)
      obtain ⟨r2, hk2, hs2⟩ := HR2.out k (by rw [HM.out]; omega)
      obtain ⟨ra1, rc1, rfl, _, _, _, hrf1⟩ := hs1
      obtain ⟨ra2, rc2, rfl, _, _, _, hrf2⟩ := hs2
      have hcl := HC.out k (by rw [HN.out]; exact hlt)
      have hgl := HG.out k
      obtain ⟨p1, hp1⟩ : ∃ p, (g.getD k []).length = p := ⟨_, rfl⟩
      obtain ⟨p2, hp2⟩ : ∃ p, (h.getD k []).length = p := ⟨_, rfl⟩
      rw [hp1] at hcl hk1 hrf1 hgl
      rw [hp2] at hcl hk2 hrf2
      have HP1 := hid hp1
      have HF1 := hid hrf1
      have HF2 := hid hrf2
      have i1 : (0 : Int) ≤ (k : Int) := by omega
      have i2 : (k : Int) < (n : Int) := by omega
      have i3 : (k : Int) < (m : Int) := by omega
      clear hp1 hp2 hrf1 hrf2
      go_wp2_with fail
      obtain ⟨W, hW⟩ : ∃ W, w.drewN q = W := ⟨_, rfl⟩
      have HW := hid hW
      go_loopw [6] (fun pv wr => ∃ p : Nat, pv = .int .i64 p ∧ p ≤ p1 ∧ Hid (∀ j, j < p → decide (Gp.at_ g k j ≤ Gp.at_ h k j) = true) ∧ ∃ q', wr = w.drewN q') (fun pv _ => p1 - (intOf pv).toNat)
      case atStart => exact ⟨0, rfl, Nat.zero_le _, fun i h => absurd h (Nat.not_lt_zero i), q, rfl⟩
      case round =>
        obtain ⟨p, rfl, hp, hrow, q', rfl⟩ := hrel
        by_cases hlp : p < p1
        · obtain ⟨c1, d1, rfl, hcb1, hcc1⟩ := HF1.out (by omega)
          obtain ⟨c2, d2, rfl, hcb2, hcc2⟩ := HF2.out (by omega)
          have x1 := hcc1 p hlp
          have x2 := hcc2 p (by omega)
          obtain ⟨x, hx⟩ : ∃ x, (g.getD k []).getD p 0 = x := ⟨_, rfl⟩
          obtain ⟨y, hy⟩ : ∃ y, (h.getD k []).getD p 0 = y := ⟨_, rfl⟩
          rw [hx] at x1
          rw [hy] at x2
          have HX : Hid (Gp.at_ g k p = x) := hx
          have HY : Hid (Gp.at_ h k p = y) := hy
          have j1 : (0 : Int) ≤ (p : Int) := by omega
          have j2 : (p : Int) < (p1 : Int) := by omega
          have j3 : (p : Int) < (p2 : Int) := by omega
          clear hcc1 hcc2 hx hy hcb1 hcb2
          by_cases hxy : x ≤ y
          · have t1 : decide (y < x) = false := decide_eq_false (by omega)
            have H2 : Hid (∀ j, j < p + 1 → decide (Gp.at_ g k j ≤ Gp.at_ h k j) = true) := fun j hj => by
              by_cases hjp : j = p
              · rw [hjp, HX.out, HY.out]; exact decide_eq_true hxy
              · exact hrow.out j (by omega)
            clear hxy
            go_wp2_with fail
            go_quiet (fail)
            go_wp2_with fail
            go_roundw
            case rel => exact ⟨p + 1, by go_num, by omega, H2, _, rfl⟩
            case measure => simp [intOf]; omega
          · have t1 : decide (y < x) = true := decide_eq_true (by omega)
            have hres : Gp.leq g h = false := Gp.every_false (i := k) (j := p) (by rw [HN.out]; exact hlt) (by rw [HP1.out]; exact hlp) (by rw [HX.out, HY.out]; exact decide_eq_false hxy)
            have HRES := hid hres
            clear hxy hres
            go_wp2_with fail
            go_quiet (fail)
            go_wp2_with fail
            go_ret
            exact ⟨by rw [HRES.out]; rfl, _, drewN_add _ _ _⟩
        · obtain rfl : p = p1 := by omega
          have H2 : Hid (∀ i, i < k + 1 → ∀ j, j < (g.getD i []).length → decide (Gp.at_ g i j ≤ Gp.at_ h i j) = true) := fun i hi j hj => by
            by_cases hik : i = k
            · subst hik; exact hrow.out j (by rw [HP1.out] at hj; exact hj)
            · exact hall.out i (by omega) j hj
          clear hrow
          go_wp2_with fail
          go_roundw
          case rel => exact ⟨k + 1, by go_num, by omega, H2, _, rfl⟩
          case measure => simp [intOf]; omega
    · obtain rfl : k = n := by omega
      have hres : Gp.leq g h = true := Gp.every_true fun i hi j hj => hall.out i (by rw [← HN.out]; exact hi) j hj
      have HRES := hid hres
      clear hres
      go_wp2_with fail
      go_ret
      exact ⟨by rw [HRES.out]; rfl, _, rfl⟩
set_option maxRecDepth 100000 in
set_option maxHeartbeats 2000000 in
theorem same_any (v1 v2 : Value) (g h : List (List Int)) (w : World) (hg : Small g) (hh : Small h) (h1 : Mx w v1 g) (h2 : Mx w v2 h) :
    Calls Try.prog 27 #[v1, v2] w fun e w' => e = .returned (.bool (decide (g = h))) ∧ ∃ q, w' = w.drewN q := by
  obtain ⟨hg0, hg1, hg2⟩ := hg
  obtain ⟨hh0, hh1, hh2⟩ := hh
  obtain ⟨a1, cap1, rfl, _, _, _, hf1⟩ := h1
  obtain ⟨b1, o1, rfl, hb1, hr1⟩ := hf1 hg0
  obtain ⟨a2, cap2, rfl, _, _, _, hf2⟩ := h2
  obtain ⟨b2, o2, rfl, hb2, hr2⟩ := hf2 (by omega)
  have HR1 := hid hr1
  have HR2 := hid hr2
  have HG := hid hg2
  obtain ⟨n, hn⟩ : ∃ n, g.length = n := ⟨_, rfl⟩
  obtain ⟨m, hm⟩ : ∃ m, h.length = m := ⟨_, rfl⟩
  rw [hn] at hg0 hg1 ⊢
  rw [hm] at hh0 hh1 ⊢
  have HN := hid hn
  have HM := hid hm
  clear hf1 hf2 hr1 hr2 hg2 hh2 hn hm
  by_cases hnm : n = m
  · subst hnm
    have t0 : ((n : Int) != (n : Int)) = false := by simp
    have t0' : ((n : Int) == (n : Int)) = true := by simp
    go_enter Try.func27, Try.ntmps27
    go_wp2_with fail
    go_loopw [5] (fun kv wr => ∃ k : Nat, kv = .int .i64 k ∧ k ≤ n ∧ Hid (∀ i, i < k → g.getD i [] = h.getD i []) ∧ ∃ q, wr = w.drewN q) (fun kv _ => n - (intOf kv).toNat)
    case atStart => exact ⟨0, rfl, Nat.zero_le _, fun i h => absurd h (Nat.not_lt_zero i), 0, rfl⟩
    case round =>
      obtain ⟨k, rfl, hk, hall, q, rfl⟩ := hrel
      by_cases hlt : k < n
      · obtain ⟨r1, hk1, hs1⟩ := HR1.out k (by rw [HN.out]; exact hlt)
        obtain ⟨r2, hk2, hs2⟩ := HR2.out k (by rw [HM.out]; omega)
        obtain ⟨ra1, rc1, rfl, _, _, _, hrf1⟩ := hs1
        obtain ⟨ra2, rc2, rfl, _, _, _, hrf2⟩ := hs2
        have hgl := HG.out k
        obtain ⟨p1, hp1⟩ : ∃ p, (g.getD k []).length = p := ⟨_, rfl⟩
        obtain ⟨p2, hp2⟩ : ∃ p, (h.getD k []).length = p := ⟨_, rfl⟩
        rw [hp1] at hk1 hrf1 hgl
        rw [hp2] at hk2 hrf2
        have HP1 := hid hp1
        have HP2 := hid hp2
        have HF1 := hid hrf1
        have HF2 := hid hrf2
        have i1 : (0 : Int) ≤ (k : Int) := by omega
        have i2 : (k : Int) < (n : Int) := by omega
        clear hp1 hp2 hrf1 hrf2
        by_cases hpp : p1 = p2
        · subst hpp
          have t1 : ((p1 : Int) != (p1 : Int)) = false := by simp
          have t1' : ((p1 : Int) == (p1 : Int)) = true := by simp
          go_wp2_with fail
          go_quiet (fail)
          go_wp2_with fail
          obtain ⟨q2, hq2⟩ : ∃ q2, q + nq = q2 := ⟨_, rfl⟩
          try rw [drewN_add]
          go_loopw [6] (fun pv wr => ∃ p : Nat, pv = .int .i64 p ∧ p ≤ p1 ∧ Hid (∀ j, j < p → Gp.at_ g k j = Gp.at_ h k j) ∧ ∃ q', wr = w.drewN q') (fun pv _ => p1 - (intOf pv).toNat)
          case atStart => exact ⟨0, rfl, Nat.zero_le _, fun i h => absurd h (Nat.not_lt_zero i), _, by first | rfl | exact drewN_add _ _ _⟩
          case round =>
            obtain ⟨p, rfl, hp, hrow, q', rfl⟩ := hrel
            by_cases hlp : p < p1
            · obtain ⟨c1, d1, rfl, hcb1, hcc1⟩ := HF1.out (by omega)
              obtain ⟨c2, d2, rfl, hcb2, hcc2⟩ := HF2.out (by omega)
              have x1 := hcc1 p hlp
              have x2 := hcc2 p (by omega)
              obtain ⟨x, hx⟩ : ∃ x, (g.getD k []).getD p 0 = x := ⟨_, rfl⟩
              obtain ⟨y, hy⟩ : ∃ y, (h.getD k []).getD p 0 = y := ⟨_, rfl⟩
              rw [hx] at x1
              rw [hy] at x2
              have HX : Hid (Gp.at_ g k p = x) := hx
              have HY : Hid (Gp.at_ h k p = y) := hy
              have j1 : (0 : Int) ≤ (p : Int) := by omega
              have j2 : (p : Int) < (p1 : Int) := by omega
              clear hcc1 hcc2 hx hy hcb1 hcb2
              by_cases hxy : x = y
              · have t2 : (x == y) = true := by simpa using hxy
                have t3 : (x != y) = false := by simpa using hxy
                have H2 : Hid (∀ j, j < p + 1 → Gp.at_ g k j = Gp.at_ h k j) := fun j hj => by
                  by_cases hjp : j = p
                  · rw [hjp, HX.out, HY.out]; exact hxy
                  · exact hrow.out j (by omega)
                clear hxy
                go_wp2_with fail
                go_quiet (fail)
                go_wp2_with fail
                go_roundw
                case rel => exact ⟨p + 1, by go_num, by omega, H2, _, by first | rfl | exact drewN_add _ _ _⟩
                case measure => simp [intOf]; omega
              · have t2 : (x == y) = false := by simpa using hxy
                have t3 : (x != y) = true := by simpa using hxy
                have hres : decide (g = h) = false := decide_eq_false (by rintro rfl; exact hxy (HX.out.symm.trans HY.out))
                have HRES := hid hres
                clear hxy hres
                go_wp2_with fail
                go_quiet (fail)
                go_wp2_with fail
                go_ret
                exact ⟨by rw [HRES.out]; rfl, _, drewN_add _ _ _⟩
            · obtain rfl : p = p1 := by omega
              have H2 : Hid (∀ i, i < k + 1 → g.getD i [] = h.getD i []) := fun i hi => by
                by_cases hik : i = k
                · subst hik
                  refine Gp.getD_ext (HP1.out.trans HP2.out.symm) fun j hj => hrow.out j (by rw [HP1.out] at hj; exact hj)
                · exact hall.out i (by omega)
              clear hrow
              go_wp2_with fail
              go_roundw
              case rel => exact ⟨k + 1, by go_num, by omega, H2, _, rfl⟩
              case measure => simp [intOf]; omega
        · have t1 : ((p1 : Int) != (p2 : Int)) = true := by rw [bne_iff_ne]; omega
          have t1' : ((p1 : Int) == (p2 : Int)) = false := by rw [beq_eq_false_iff_ne]; omega
          have hres : decide (g = h) = false := decide_eq_false (by rintro rfl; exact hpp (HP1.out.symm.trans HP2.out))
          have HRES := hid hres
          clear hres hpp
          go_wp2_with fail
          go_quiet (fail)
          go_wp2_with fail
          go_ret
          exact ⟨by rw [HRES.out]; rfl, _, drewN_add _ _ _⟩
      · obtain rfl : k = n := by omega
        have hres : decide (g = h) = true := decide_eq_true (by
          apply List.ext_getElem (HN.out.trans HM.out.symm)
          intro i h3 h4
          have := hall.out i (by rw [← HN.out]; exact h3)
          simpa [List.getD, h3, h4] using this)
        have HRES := hid hres
        clear hres
        go_wp2_with fail
        go_ret
        exact ⟨by rw [HRES.out]; rfl, _, rfl⟩
  · have t0 : ((n : Int) != (m : Int)) = true := by rw [bne_iff_ne]; omega
    have t0' : ((n : Int) == (m : Int)) = false := by rw [beq_eq_false_iff_ne]; omega
    have hres : decide (g = h) = false := decide_eq_false (by rintro rfl; exact hnm (HN.out.symm.trans HM.out))
    have HRES := hid hres
    clear hres hnm
    go_enter Try.func27, Try.ntmps27
    go_wp2_with fail
    go_ret
    exact ⟨by rw [HRES.out]; rfl, 0, rfl⟩
end Go.Proofs.Ytajlmkokfgbjdaa
