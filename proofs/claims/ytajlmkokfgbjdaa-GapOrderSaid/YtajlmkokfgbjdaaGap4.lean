/- What inRange, sum, Valid, Bound, Has and Leq of package gap compute. Conditions: sizes, no overflow. -/
import Derived.Test.YtajlmkokfgbjdaaGap3
set_option linter.unusedVariables false
set_option linter.unusedSimpArgs false
namespace Go.Proofs.Ytajlmkokfgbjdaa
open Go.RowKit

theorem inRange_any (n : Int) (w : World) : Calls Try.prog 61 #[.int .i64 n] w fun e w' => e = .returned (.bool (Gp.inR n)) ∧ w = w' := by
  by_cases h1 : n = 1099511627776
  · have hr : Gp.inR n = true := by unfold Gp.inR; simp [h1]
    have t1 : (n == 1099511627776) = true := by simpa using h1
    have HR := hid hr
    clear hr h1
    go_enter Try.func61, Try.ntmps61
    go_wp2
    go_ret
    exact ⟨by rw [HR.out]; rfl, rfl⟩
  · have t1 : (n == 1099511627776) = false := by simpa using h1
    by_cases h2 : -17179869184 ≤ n
    · have t2 : decide ((-17179869184 : Int) ≤ n) = true := decide_eq_true h2
      by_cases h3 : n ≤ 17179869184
      · have t3 : decide (n ≤ (17179869184 : Int)) = true := decide_eq_true h3
        have hr : Gp.inR n = true := by unfold Gp.inR; exact decide_eq_true (.inr ⟨h2, h3⟩)
        have HR := hid hr
        clear hr h1 h2 h3
        go_enter Try.func61, Try.ntmps61
        go_wp2
        go_ret
        exact ⟨by rw [HR.out]; rfl, rfl⟩
      · have t3 : decide (n ≤ (17179869184 : Int)) = false := decide_eq_false h3
        have hr : Gp.inR n = false := by unfold Gp.inR; exact decide_eq_false (by omega)
        have HR := hid hr
        clear hr h1 h2 h3
        go_enter Try.func61, Try.ntmps61
        go_wp2
        go_ret
        exact ⟨by rw [HR.out]; rfl, rfl⟩
    · have t2 : decide ((-17179869184 : Int) ≤ n) = false := decide_eq_false h2
      have hr : Gp.inR n = false := by unfold Gp.inR; exact decide_eq_false (by omega)
      have HR := hid hr
      clear hr h1 h2
      go_enter Try.func61, Try.ntmps61
      go_wp2
      go_ret
      exact ⟨by rw [HR.out]; rfl, rfl⟩

theorem sum_any (a k : Int) (w : World) (h0 : -4611686018427387904 ≤ a + k) (h1 : a + k ≤ 4611686018427387904) : Calls Try.prog 48 #[.int .i64 a, .int .i64 k] w fun e w' => e = .returned (.int .i64 (Gp.sum a k)) ∧ w = w' := by
  have wr : IntKind.i64.wrap (a + k) = a + k := IntWalk.i64_in _ (by omega)
  by_cases ha : a = 1099511627776
  · have t1 : (a == 1099511627776) = true := by simpa using ha
    have hr : Gp.sum a k = 1099511627776 := by unfold Gp.sum; rw [if_pos (.inl ha)]
    have HR := hid hr
    clear hr ha
    go_enter Try.func48, Try.ntmps48
    go_wp2
    go_ret
    exact ⟨by rw [HR.out]; rfl, rfl⟩
  · have t1 : (a == 1099511627776) = false := by simpa using ha
    have cR := hid (inRange_any (a + k) w)
    obtain ⟨b, hb⟩ : ∃ b, Gp.inR (a + k) = b := ⟨_, rfl⟩
    rw [hb] at cR
    cases b
    · have hr : Gp.sum a k = 1099511627776 := by unfold Gp.sum; rw [if_pos (.inr hb)]
      have HR := hid hr
      clear hr ha hb
      go_enter Try.func48, Try.ntmps48
      go_wp2_with fail
      refine cR.out.mono ?_
      rintro e w' ⟨rfl, rfl⟩
      go_wp2_with fail
      go_ret
      exact ⟨by rw [HR.out]; rfl, rfl⟩
    · have hr : Gp.sum a k = a + k := by unfold Gp.sum; rw [if_neg (by rw [hb]; simp [ha])]
      have HR := hid hr
      clear hr ha hb
      go_enter Try.func48, Try.ntmps48
      go_wp2_with fail
      refine cR.out.mono ?_
      rintro e w' ⟨rfl, rfl⟩
      go_wp2_with fail
      go_ret
      exact ⟨by rw [HR.out]; rfl, rfl⟩

theorem notIn_any (n : Int) (w : World) : Calls Try.prog 60 #[.int .i64 n] w fun e w' => e = .returned (.bool (!Gp.inR n)) ∧ w = w' := by
  have cR := hid (inRange_any n w)
  go_enter Try.func60, Try.ntmps60
  go_wp2_with fail
  refine cR.out.mono ?_
  rintro e w' ⟨rfl, rfl⟩
  go_wp2_with fail
  go_ret
  exact ⟨rfl, rfl⟩

set_option maxHeartbeats 1000000 in
theorem indexRow_any (v : Value) (xs : List Int) (w : World) (hx : xs.length ≤ 1000) (hs : Sl .i64 w v xs) :
    Calls Try.prog 75 #[v, .func (.func 60) #[] #[]] w fun e w' => (∃ i : Int, e = .returned (.int .i64 i) ∧ decide (0 ≤ i) = !Gp.rowOk xs) ∧ w = w' := by
  obtain ⟨a, cap, rfl, hc, hm, ha, hf⟩ := hs
  have HF := hid hf
  obtain ⟨n, hn⟩ : ∃ n, xs.length = n := ⟨_, rfl⟩
  rw [hn] at hc hx ⊢
  have HN := hid hn
  clear ha hf hm hn
  go_enter Try.func75, Try.ntmps75
  go_wp2_with fail
  go_loopw [8] (fun kv wr => ∃ k : Nat, kv = .int .i64 k ∧ k ≤ n ∧ Hid (∀ i, i < k → Gp.inR (xs.getD i 0) = true) ∧ w = wr) (fun kv _ => n - (intOf kv).toNat)
  case atStart => exact ⟨0, rfl, Nat.zero_le _, fun i h => absurd h (Nat.not_lt_zero i), rfl⟩
  case round =>
    obtain ⟨k, rfl, hk, hall, rfl⟩ := hrel
    by_cases hlt : k < n
    · obtain ⟨b, o, rfl, hbl, hcell⟩ := HF.out (by rw [HN.out]; omega)
      have hck := hcell k (by rw [HN.out]; exact hlt)
      obtain ⟨x, hx'⟩ : ∃ x, xs.getD k 0 = x := ⟨_, rfl⟩
      rw [hx'] at hck
      have HX := hid hx'
      have i1 : (0 : Int) ≤ (k : Int) := by omega
      have i2 : (k : Int) < (n : Int) := by omega
      have cR := hid (notIn_any x w)
      obtain ⟨q, hq⟩ : ∃ q, Gp.inR x = q := ⟨_, rfl⟩
      rw [hq] at cR
      have HQ := hid hq
      clear hcell hx' hq
      cases q
      · go_wp2_with fail
        refine cR.out.mono ?_
        rintro e w' ⟨rfl, rfl⟩
        go_wp2_with fail
        go_ret
        refine ⟨⟨_, rfl, ?_⟩, rfl⟩
        have h1 : Gp.rowOk xs = false := by
          unfold Gp.rowOk
          rw [List.all_eq_false]
          refine ⟨xs[k]'(by rw [HN.out]; exact hlt), List.getElem_mem _, ?_⟩
          have h2 : xs[k]'(by rw [HN.out]; exact hlt) = x := by rw [← HX.out]; simp [List.getD, HN.out, hlt]
          rw [h2, HQ.out]; simp
        rw [h1]; exact decide_eq_true (by omega)
      · go_wp2_with fail
        refine cR.out.mono ?_
        rintro e w' ⟨rfl, rfl⟩
        go_wp2_with fail
        have H2 : Hid (∀ i, i < k + 1 → Gp.inR (xs.getD i 0) = true) := fun i hi => by
          by_cases h : i = k
          · rw [h, HX.out, HQ.out]
          · exact hall.out i (by omega)
        go_roundw
        case rel => exact ⟨k + 1, by go_num, by omega, H2, by trivial⟩
        case measure => simp [intOf]; omega
    · obtain rfl : k = n := by omega
      go_wp2_with fail
      go_ret
      refine ⟨⟨_, rfl, ?_⟩, rfl⟩
      have h1 : Gp.rowOk xs = true := by
        unfold Gp.rowOk
        rw [List.all_eq_true]
        intro y hy
        obtain ⟨j, hj, rfl⟩ := List.mem_iff_getElem.1 hy
        have := hall.out j (by rw [← HN.out]; exact hj)
        rw [List.getD_eq_getElem?_getD, List.getElem?_eq_getElem hj] at this
        exact this
      rw [h1]; rfl
theorem containsRow_any (v : Value) (xs : List Int) (w : World) (hx : xs.length ≤ 1000) (hs : Sl .i64 w v xs) :
    Calls Try.prog 59 #[v, .func (.func 60) #[] #[]] w fun e w' => e = .returned (.bool (!Gp.rowOk xs)) ∧ w = w' := by
  have cI := hid (indexRow_any v xs w hx hs)
  clear hs
  go_enter Try.func59, Try.ntmps59
  go_wp2_with fail
  refine cI.out.mono ?_
  rintro e w' ⟨⟨i, rfl, hi⟩, rfl⟩
  have HI := hid hi
  clear hi
  go_wp2_with fail
  go_ret
  exact ⟨by rw [HI.out]; rfl, rfl⟩
end Go.Proofs.Ytajlmkokfgbjdaa
