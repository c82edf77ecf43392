/- What Bound and the parts of shiftOf of package gap compute. Conditions: sizes. -/
import Derived.Test.YtajlmkokfgbjdaaGap7
set_option linter.unusedVariables false
set_option linter.unusedSimpArgs false
namespace Go.Proofs.Ytajlmkokfgbjdaa
open Go.RowKit

theorem bound_any (v : Value) (g : List (List Int)) (i j : Int) (w : World) (hg : Small g) (hs : Mx w v g) :
    Calls Try.prog 19 #[v, .int .i64 i, .int .i64 j] w fun e w' => e = .returned (.int .i64 (Gp.bound g i j)) ∧ w = w' := by
  obtain ⟨hg0, hg1, hg2⟩ := hg
  obtain ⟨a, cap, rfl, hc, hm, ha, hf⟩ := hs
  obtain ⟨b, o, rfl, hbl, hcell⟩ := hf hg0
  by_cases h1 : i < 0
  · have hr : Gp.bound g i j = 1099511627776 := by unfold Gp.bound; rw [if_neg (by omega)]
    have HR := hid hr
    have t1 : decide (i < 0) = true := decide_eq_true h1
    clear hr h1 ha hf hcell hg2 hm
    go_enter Try.func19, Try.ntmps19
    go_wp2_with fail
    go_ret
    exact ⟨by rw [HR.out]; rfl, rfl⟩
  · have t1 : decide (i < 0) = false := decide_eq_false h1
    by_cases h2 : (g.length : Int) ≤ i
    · have hr : Gp.bound g i j = 1099511627776 := by unfold Gp.bound; rw [if_neg (by omega)]
      have HR := hid hr
      have t2 : decide ((g.length : Int) ≤ i) = true := decide_eq_true h2
      clear hr h1 h2 ha hf hcell hg2 hm
      go_enter Try.func19, Try.ntmps19
      go_wp2_with fail
      go_ret
      exact ⟨by rw [HR.out]; rfl, rfl⟩
    · have t2 : decide ((g.length : Int) ≤ i) = false := decide_eq_false h2
      by_cases h3 : j < 0
      · have hr : Gp.bound g i j = 1099511627776 := by unfold Gp.bound; rw [if_neg (by omega)]
        have HR := hid hr
        have t3 : decide (j < 0) = true := decide_eq_true h3
        clear hr h1 h2 h3 ha hf hcell hg2 hm
        go_enter Try.func19, Try.ntmps19
        go_wp2_with fail
        go_ret
        exact ⟨by rw [HR.out]; rfl, rfl⟩
      · have t3 : decide (j < 0) = false := decide_eq_false h3
        obtain ⟨i', rfl⟩ : ∃ i' : Nat, i = i' := ⟨i.toNat, by omega⟩
        obtain ⟨j', rfl⟩ : ∃ j' : Nat, j = j' := ⟨j.toNat, by omega⟩
        obtain ⟨r, hr1, hr2⟩ := hcell i' (by omega)
        obtain ⟨ra, rc, rfl, _, _, _, hrf⟩ := hr2
        have h1' : (0 : Int) ≤ (i' : Int) := by omega
        have h2' : (i' : Int) < (g.length : Int) := by omega
        have t4 : decide (g.length ≤ i') = false := decide_eq_false (by omega)
        obtain ⟨m, hm'⟩ : ∃ m, (g.getD i' []).length = m := ⟨_, rfl⟩
        rw [hm'] at hr1 hrf
        by_cases h4 : m ≤ j'
        · have hr : Gp.bound g i' j' = 1099511627776 := by unfold Gp.bound; rw [if_neg (by rw [Int.toNat_natCast, hm']; omega)]
          have HR := hid hr
          have t5 : decide ((m : Int) ≤ (j' : Int)) = true := decide_eq_true (by omega)
          have t6 : decide (m ≤ j') = true := decide_eq_true (by omega)
          clear hr h1 h2 h3 h4 ha hf hcell hg2 hm hm' hrf
          go_enter Try.func19, Try.ntmps19
          go_wp2_with fail
          go_ret
          exact ⟨by rw [HR.out]; rfl, rfl⟩
        · obtain ⟨c, d, rfl, hcb, hcc⟩ := hrf (by omega)
          have hx := hcc j' (by omega)
          have hr : Gp.bound g i' j' = (g.getD i' []).getD j' 0 := by unfold Gp.bound; rw [if_pos (by rw [Int.toNat_natCast, hm']; omega)]; rfl
          obtain ⟨x, hxx⟩ : ∃ x, (g.getD i' []).getD j' 0 = x := ⟨_, rfl⟩
          rw [hxx] at hr hx
          have HR := hid hr
          have t5 : decide ((m : Int) ≤ (j' : Int)) = false := decide_eq_false (by omega)
          have t6 : decide (m ≤ j') = false := decide_eq_false (by omega)
          have h5 : (0 : Int) ≤ (j' : Int) := by omega
          have h6 : (j' : Int) < (m : Int) := by omega
          clear hr h1 h2 h3 h4 ha hf hcell hg2 hm hm' hrf hxx hcc
          go_enter Try.func19, Try.ntmps19
          go_wp2_with fail
          go_ret
          exact ⟨by rw [HR.out]; rfl, rfl⟩

end Go.Proofs.Ytajlmkokfgbjdaa
