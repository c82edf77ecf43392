/- What Most, fine, Sum, Bound, variable and number of the reference compute. Conditions: sizes, no overflow. -/
import Derived.Test.YtajlmkokfgbjdaaOld8
set_option linter.unusedVariables false
set_option linter.unusedSimpArgs false
namespace Go.Proofs.Ytajlmkokfgbjdaa
open Go.RowKit

theorem most_any (w : World) : Calls Try.prog 26 #[] w fun e w' => e = .returned (.int .i64 17179869184) ∧ w = w' := by
  go_enter Try.func26, Try.ntmps26
  go_wp2
  go_ret
  exact ⟨rfl, rfl⟩
theorem fine_any (n : Int) (w : World) : Calls Try.prog 42 #[.int .i64 n] w fun e w' => e = .returned (.bool (Gp.inR n)) ∧ w = w' := by
  by_cases h1 : n = 1099511627776
  · have hr : Gp.inR n = true := by unfold Gp.inR; simp [h1]
    have t1 : (n == 1099511627776) = true := by simpa using h1
    have HR := hid hr
    clear hr h1
    go_enter Try.func42, Try.ntmps42
    go_wp2_with (go_at_call 26; refine (most_any _).mono ?_; rintro e w' ⟨rfl, rfl⟩)
    go_ret
    exact ⟨by rw [HR.out]; rfl, rfl⟩
  · have t1 : (n == 1099511627776) = false := by simpa using h1
    by_cases h2 : -17179869184 ≤ n
    · have t2 : decide ((-17179869184 : Int) ≤ n) = true := decide_eq_true h2
      by_cases h3 : n ≤ 17179869184
      · have t3 : decide (n ≤ (17179869184 : Int)) = true := decide_eq_true h3
        have hr : Gp.inR n = true := by unfold Gp.inR; exact decide_eq_true (.inr ⟨h2, h3⟩)
        have HR := hid hr
        clear hr h1 h2 h3
        go_enter Try.func42, Try.ntmps42
        go_wp2_with (go_at_call 26; refine (most_any _).mono ?_; rintro e w' ⟨rfl, rfl⟩)
        go_ret
        exact ⟨by rw [HR.out]; rfl, rfl⟩
      · have t3 : decide (n ≤ (17179869184 : Int)) = false := decide_eq_false h3
        have hr : Gp.inR n = false := by unfold Gp.inR; exact decide_eq_false (by omega)
        have HR := hid hr
        clear hr h1 h2 h3
        go_enter Try.func42, Try.ntmps42
        go_wp2_with (go_at_call 26; refine (most_any _).mono ?_; rintro e w' ⟨rfl, rfl⟩)
        go_ret
        exact ⟨by rw [HR.out]; rfl, rfl⟩
    · have t2 : decide ((-17179869184 : Int) ≤ n) = false := decide_eq_false h2
      have hr : Gp.inR n = false := by unfold Gp.inR; exact decide_eq_false (by omega)
      have HR := hid hr
      clear hr h1 h2
      go_enter Try.func42, Try.ntmps42
      go_wp2_with (go_at_call 26; refine (most_any _).mono ?_; rintro e w' ⟨rfl, rfl⟩)
      go_ret
      exact ⟨by rw [HR.out]; rfl, rfl⟩

theorem rsum_any (a k : Int) (w : World) (h0 : -4611686018427387904 ≤ a + k) (h1 : a + k ≤ 4611686018427387904) : Calls Try.prog 65 #[.int .i64 a, .int .i64 k] w fun e w' => e = .returned (.int .i64 (Gp.sum a k)) ∧ w = w' := by
  have wr : IntKind.i64.wrap (a + k) = a + k := IntWalk.i64_in _ (by omega)
  by_cases ha : a = 1099511627776
  · have t1 : (a == 1099511627776) = true := by simpa using ha
    have hr : Gp.sum a k = 1099511627776 := by unfold Gp.sum; rw [if_pos (.inl ha)]
    have HR := hid hr
    clear hr ha
    go_enter Try.func65, Try.ntmps65
    go_wp2
    go_ret
    exact ⟨by rw [HR.out]; rfl, rfl⟩
  · have t1 : (a == 1099511627776) = false := by simpa using ha
    have cR := hid (fine_any (a + k) w)
    obtain ⟨b, hb⟩ : ∃ b, Gp.inR (a + k) = b := ⟨_, rfl⟩
    rw [hb] at cR
    cases b
    · have hr : Gp.sum a k = 1099511627776 := by unfold Gp.sum; rw [if_pos (.inr hb)]
      have HR := hid hr
      clear hr ha hb
      go_enter Try.func65, Try.ntmps65
      go_wp2_with fail
      refine cR.out.mono ?_
      rintro e w' ⟨rfl, rfl⟩
      go_wp2_with fail
      go_ret
      exact ⟨by rw [HR.out]; rfl, rfl⟩
    · have hr : Gp.sum a k = a + k := by unfold Gp.sum; rw [if_neg (by rw [hb]; simp [ha])]
      have HR := hid hr
      clear hr ha hb
      go_enter Try.func65, Try.ntmps65
      go_wp2_with fail
      refine cR.out.mono ?_
      rintro e w' ⟨rfl, rfl⟩
      go_wp2_with fail
      go_ret
      exact ⟨by rw [HR.out]; rfl, rfl⟩

theorem rbound_any (v : Value) (g : List (List Int)) (i j : Int) (w : World) (hg : Small g) (hs : Mx w v g) :
    Calls Try.prog 37 #[v, .int .i64 i, .int .i64 j] w fun e w' => e = .returned (.int .i64 (Gp.bound g i j)) ∧ w = w' := by
  obtain ⟨hg0, hg1, hg2⟩ := hg
  obtain ⟨a, cap, rfl, hc, hm, ha, hf⟩ := hs
  obtain ⟨b, o, rfl, hbl, hcell⟩ := hf hg0
  by_cases h1 : i < 0
  · have hr : Gp.bound g i j = 1099511627776 := by unfold Gp.bound; rw [if_neg (by omega)]
    have HR := hid hr
    have t1 : decide (i < 0) = true := decide_eq_true h1
    clear hr h1 ha hf hcell hg2 hm
    go_enter Try.func37, Try.ntmps37
    go_wp2_with fail
    go_ret
    exact ⟨by rw [HR.out]; rfl, rfl⟩
  · have t1 : decide (i < 0) = false := decide_eq_false h1
    by_cases h2 : (g.length : Int) ≤ i
    · have hr : Gp.bound g i j = 1099511627776 := by unfold Gp.bound; rw [if_neg (by omega)]
      have HR := hid hr
      have t2 : decide ((g.length : Int) ≤ i) = true := decide_eq_true h2
      clear hr h1 h2 ha hf hcell hg2 hm
      go_enter Try.func37, Try.ntmps37
      go_wp2_with fail
      go_ret
      exact ⟨by rw [HR.out]; rfl, rfl⟩
    · have t2 : decide ((g.length : Int) ≤ i) = false := decide_eq_false h2
      by_cases h3 : j < 0
      · have hr : Gp.bound g i j = 1099511627776 := by unfold Gp.bound; rw [if_neg (by omega)]
        have HR := hid hr
        have t3 : decide (j < 0) = true := decide_eq_true h3
        clear hr h1 h2 h3 ha hf hcell hg2 hm
        go_enter Try.func37, Try.ntmps37
        go_wp2_with fail
        go_ret
        exact ⟨by rw [HR.out]; rfl, rfl⟩
      · have t3 : decide (j < 0) = false := decide_eq_false h3
        obtain ⟨i', rfl⟩ : ∃ i' : Nat, i = i' := ⟨i.toNat, by omega⟩
        obtain ⟨j', rfl⟩ : ∃ j' : Nat, j = j' := ⟨j.toNat, by omega⟩
        obtain ⟨r, hr1, hr2⟩ := hcell i' (by omega)
        obtain ⟨ra, rc, rfl, _, _, _, hrf⟩ := hr2
        have h1' : (0 : Int) ≤ (i' : Int) := by omega
        have h2' : (i' : Int) < (g.length : Int) := by omega
        have t4 : decide (g.length ≤ i') = false := decide_eq_false (by omega)
        obtain ⟨m, hm'⟩ : ∃ m, (g.getD i' []).length = m := ⟨_, rfl⟩
        rw [hm'] at hr1 hrf
        by_cases h4 : m ≤ j'
        · have hr : Gp.bound g i' j' = 1099511627776 := by unfold Gp.bound; rw [if_neg (by rw [Int.toNat_natCast, hm']; omega)]
          have HR := hid hr
          have t5 : decide ((m : Int) ≤ (j' : Int)) = true := decide_eq_true (by omega)
          have t6 : decide (m ≤ j') = true := decide_eq_true (by omega)
          clear hr h1 h2 h3 h4 ha hf hcell hg2 hm hm' hrf
          go_enter Try.func37, Try.ntmps37
          go_wp2_with fail
          go_ret
          exact ⟨by rw [HR.out]; rfl, rfl⟩
        · obtain ⟨c, d, rfl, hcb, hcc⟩ := hrf (by omega)
          have hx := hcc j' (by omega)
          have hr : Gp.bound g i' j' = (g.getD i' []).getD j' 0 := by unfold Gp.bound; rw [if_pos (by rw [Int.toNat_natCast, hm']; omega)]; rfl
          obtain ⟨x, hxx⟩ : ∃ x, (g.getD i' []).getD j' 0 = x := ⟨_, rfl⟩
          rw [hxx] at hr hx
          have HR := hid hr
          have t5 : decide ((m : Int) ≤ (j' : Int)) = false := decide_eq_false (by omega)
          have t6 : decide (m ≤ j') = false := decide_eq_false (by omega)
          have h5 : (0 : Int) ≤ (j' : Int) := by omega
          have h6 : (j' : Int) < (m : Int) := by omega
          clear hr h1 h2 h3 h4 ha hf hcell hg2 hm hm' hrf hxx hcc
          go_enter Try.func37, Try.ntmps37
          go_wp2_with fail
          go_ret
          exact ⟨by rw [HR.out]; rfl, rfl⟩

/-- isVar: whatever the list of operands. -/
theorem variable_any (op n v vars : Int) (sl : Value) (a : Option Addr) (l c : Nat) (w : World) (hsl : sl = .slice a l c) :
    Calls Try.prog 71 #[.agg #[.int .i64 op, .int .i64 n, .int .i64 v, sl], .int .i64 vars] w fun e w' => e = .returned (.bool (Gp.isVar vars (op, n, v))) ∧ Below w.heap.size w w' := by
  subst hsl
  by_cases h1 : op = 2
  · have t1 : (op == 2) = true := by simpa using h1
    by_cases h2 : 0 ≤ n
    · have t2 : decide (0 ≤ n) = true := decide_eq_true h2
      by_cases h3 : n < vars
      · have t3 : decide (n < vars) = true := decide_eq_true h3
        have hr : Gp.isVar vars (op, n, v) = true := decide_eq_true ⟨h1, h2, h3⟩
        have HR := hid hr
        clear hr h1 h2 h3
        go_enter Try.func71, Try.ntmps71
        go_wp2_with fail
        go_ret
        exact ⟨by rw [HR.out]; rfl, aB w _⟩
      · have t3 : decide (n < vars) = false := decide_eq_false h3
        have hr : Gp.isVar vars (op, n, v) = false := decide_eq_false (fun h => h3 h.2.2)
        have HR := hid hr
        clear hr h1 h2 h3
        go_enter Try.func71, Try.ntmps71
        go_wp2_with fail
        go_ret
        exact ⟨by rw [HR.out]; rfl, aB w _⟩
    · have t2 : decide (0 ≤ n) = false := decide_eq_false h2
      have hr : Gp.isVar vars (op, n, v) = false := decide_eq_false (fun h => h2 h.2.1)
      have HR := hid hr
      clear hr h1 h2
      go_enter Try.func71, Try.ntmps71
      go_wp2_with fail
      go_ret
      exact ⟨by rw [HR.out]; rfl, aB w _⟩
  · have t1 : (op == 2) = false := by simpa using h1
    have hr : Gp.isVar vars (op, n, v) = false := decide_eq_false (fun h => h1 h.1)
    have HR := hid hr
    clear hr h1
    go_enter Try.func71, Try.ntmps71
    go_wp2_with fail
    go_ret
    exact ⟨by rw [HR.out]; rfl, aB w _⟩
theorem number_any (op n v : Int) (sl : Value) (a : Option Addr) (l c : Nat) (w : World) (hsl : sl = .slice a l c) :
    Calls Try.prog 72 #[.agg #[.int .i64 op, .int .i64 n, .int .i64 v, sl]] w fun e w' => e = .returned (.bool (Gp.isNum (op, n, v))) ∧ Below w.heap.size w w' := by
  subst hsl
  by_cases h1 : op = 1
  · have t1 : (op == 1) = true := by simpa using h1
    by_cases h2 : -2147483648 ≤ v
    · have t2 : decide ((-2147483648 : Int) ≤ v) = true := decide_eq_true h2
      by_cases h3 : v ≤ 2147483648
      · have t3 : decide (v ≤ (2147483648 : Int)) = true := decide_eq_true h3
        have hr : Gp.isNum (op, n, v) = true := decide_eq_true ⟨h1, h2, h3⟩
        have HR := hid hr
        clear hr h1 h2 h3
        go_enter Try.func72, Try.ntmps72
        go_wp2_with fail
        go_ret
        exact ⟨by rw [HR.out]; rfl, aB w _⟩
      · have t3 : decide (v ≤ (2147483648 : Int)) = false := decide_eq_false h3
        have hr : Gp.isNum (op, n, v) = false := decide_eq_false (fun h => h3 h.2.2)
        have HR := hid hr
        clear hr h1 h2 h3
        go_enter Try.func72, Try.ntmps72
        go_wp2_with fail
        go_ret
        exact ⟨by rw [HR.out]; rfl, aB w _⟩
    · have t2 : decide ((-2147483648 : Int) ≤ v) = false := decide_eq_false h2
      have hr : Gp.isNum (op, n, v) = false := decide_eq_false (fun h => h2 h.2.1)
      have HR := hid hr
      clear hr h1 h2
      go_enter Try.func72, Try.ntmps72
      go_wp2_with fail
      go_ret
      exact ⟨by rw [HR.out]; rfl, aB w _⟩
  · have t1 : (op == 1) = false := by simpa using h1
    have hr : Gp.isNum (op, n, v) = false := decide_eq_false (fun h => h1 h.1)
    have HR := hid hr
    clear hr h1
    go_enter Try.func72, Try.ntmps72
    go_wp2_with fail
    go_ret
    exact ⟨by rw [HR.out]; rfl, aB w _⟩
end Go.Proofs.Ytajlmkokfgbjdaa
