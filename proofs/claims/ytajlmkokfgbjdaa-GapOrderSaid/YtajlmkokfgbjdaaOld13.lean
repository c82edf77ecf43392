/- What Join and Widen of package gap compute. Conditions: sizes. -/
import Derived.Test.YtajlmkokfgbjdaaOld12
set_option linter.unusedVariables false
set_option linter.unusedSimpArgs false
namespace Go.Proofs.Ytajlmkokfgbjdaa
open Go.RowKit

theorem max_any (a b : Int) (w : World) : Calls Try.prog 63 #[.int .i64 a, .int .i64 b] w fun e w' => e = .returned (.int .i64 (max a b)) ∧ w = w' := by
  go_enter Try.func63, Try.ntmps63
  go_wp2
  go_ret
  exact ⟨rfl, rfl⟩
theorem wid_any (a b : Int) (w : World) : Calls Try.prog 64 #[.int .i64 a, .int .i64 b] w fun e w' => e = .returned (.int .i64 (Gp.wid a b)) ∧ w = w' := by
  by_cases h : a < b
  · have t1 : decide (a < b) = true := decide_eq_true h
    have hr : Gp.wid a b = 1099511627776 := if_pos h
    have HR := hid hr
    clear hr h
    go_enter Try.func64, Try.ntmps64
    go_wp2
    go_ret
    exact ⟨by rw [HR.out]; rfl, rfl⟩
  · have t1 : decide (a < b) = false := decide_eq_false h
    have hr : Gp.wid a b = a := if_neg h
    have HR := hid hr
    clear hr h
    go_enter Try.func64, Try.ntmps64
    go_wp2
    go_ret
    exact ⟨by rw [HR.out]; rfl, rfl⟩
theorem join_any (v1 v2 : Value) (g h : List (List Int)) (p : Nat) (w : World) (hg : Small g) (hr : Rect g p) (hc : h.length = g.length) (hr2 : Rect h p) (h1 : Mx w v1 g) (h2 : Mx w v2 h) :
    Calls Try.prog 29 #[v1, v2] w fun e w' => ∃ v', e = .returned v' ∧ OwnM w.heap.size w' v' (Gp.join g h) ∧ Below w.heap.size w w' := by
  have cE := hid (each_join (fun a b => max a b) max_any v1 v2 g h p w hg hr hc hr2 h1 h2)
  obtain ⟨a1, cap1, rfl, _⟩ := h1
  obtain ⟨a2, cap2, rfl, _⟩ := h2
  clear hg hr hc hr2
  go_enter Try.func29, Try.ntmps29
  go_wp2_with fail
  refine cE.out.mono ?_
  rintro e w1 ⟨v1, rfl, ho, hb⟩
  have HO := hid ho
  clear ho
  go_wp2_with fail
  go_ret
  exact ⟨_, rfl, HO.out, hb⟩
theorem widen_any (v1 v2 : Value) (g h : List (List Int)) (p : Nat) (w : World) (hg : Small g) (hr : Rect g p) (hc : h.length = g.length) (hr2 : Rect h p) (h1 : Mx w v1 g) (h2 : Mx w v2 h) :
    Calls Try.prog 30 #[v1, v2] w fun e w' => ∃ v', e = .returned v' ∧ OwnM w.heap.size w' v' (Gp.widen g h) ∧ Below w.heap.size w w' := by
  have cE := hid (each_widen Gp.wid wid_any v1 v2 g h p w hg hr hc hr2 h1 h2)
  obtain ⟨a1, cap1, rfl, _⟩ := h1
  obtain ⟨a2, cap2, rfl, _⟩ := h2
  clear hg hr hc hr2
  go_enter Try.func30, Try.ntmps30
  go_wp2_with fail
  refine cE.out.mono ?_
  rintro e w1 ⟨v1, rfl, ho, hb⟩
  have HO := hid ho
  clear ho
  go_wp2_with fail
  go_ret
  exact ⟨_, rfl, HO.out, hb⟩
end Go.Proofs.Ytajlmkokfgbjdaa
