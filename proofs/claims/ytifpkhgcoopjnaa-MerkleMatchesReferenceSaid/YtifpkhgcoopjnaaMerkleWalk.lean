/- What halves, top, Root and place compute. Conditions: lists of at most 2^40 words. -/
import Derived.Test.YtifpkhgcoopjnaaMerklePure
import Derived.Test.YtifpkhgcoopjnaaOwn
import Derived.Deep.QuietTactic
import Derived.BigQuiet
namespace Go.Proofs.Ytifpkhgcoopjnaa
open Go.RowKit

theorem Sl.drop {k : IntKind} {w : World} {b o : Nat} {n cap : Nat} {xs : List Int} (h : Sl k w (.slice (some ⟨b, o, none⟩) n cap) xs) (m : Nat) (hm : m ≤ n) : Sl k w (.slice (some ⟨b, o + m, none⟩) (n - m) (cap - m)) (xs.drop m) := by
  obtain ⟨a', cap', he, h1, h2, h3, h4⟩ := h
  simp only [Value.slice.injEq] at he
  obtain ⟨rfl, rfl, rfl⟩ := he
  have hl : (xs.drop m).length = xs.length - m := by rw [List.length_drop]
  refine ⟨some ⟨b, o + m, none⟩, cap - m, by rw [hl], by omega, by omega, by simp, fun hp => ?_⟩
  rw [hl] at hp
  obtain ⟨b', o', he, hlt, hc⟩ := h4 (by omega)
  simp only [Option.some.injEq, Addr.mk.injEq, and_true] at he
  obtain ⟨rfl, rfl⟩ := he
  refine ⟨b, o + m, rfl, hlt, fun i hi => ?_⟩
  rw [hl] at hi
  rw [Nat.add_assoc, hc (m + i) (by omega)]
  simp [List.getD, List.getElem?_drop]
/-- The form of a slice that is not empty. -/
theorem Sl.form {k : IntKind} {w : World} {a : Option Addr} {n cap : Nat} {xs : List Int} (h : Sl k w (.slice a n cap) xs) : n = xs.length ∧ xs.length ≤ cap ∧ cap ≤ maxLen ∧ (0 < xs.length → ∃ b o, a = some ⟨b, o, none⟩ ∧ b < w.heap.size ∧ ∀ i, i < xs.length → w.cell? ⟨b, o + i, none⟩ = some (.int k (xs.getD i 0))) := by
  obtain ⟨a', cap', he, h1, h2, h3, h4⟩ := h
  simp only [Value.slice.injEq] at he
  obtain ⟨rfl, rfl, rfl⟩ := he
  exact ⟨rfl, h1, h2, h4⟩

set_option maxRecDepth 100000 in
set_option maxHeartbeats 400000 in
theorem halves_any (b o n cap : Nat) (w : World) (h2 : 2 ≤ n) (hc : n ≤ cap) (hn : n ≤ 1099511627776) :
    Calls Try.prog 57 #[.slice (some ⟨b, o, none⟩) n cap] w fun e w' => e = .returned (.tuple #[.slice (some ⟨b, o, none⟩) (Mk.half n) cap, .slice (some ⟨b, o + Mk.half n, none⟩) (n - Mk.half n) (cap - Mk.half n)]) ∧ ∃ q, w' = w.drewN q := by
  go_enter Try.func57, Try.ntmps57
  go_wp2
  go_loop [4] (fun k => ∃ k' e : Nat, k = .int .i64 k' ∧ Hid (k' = 2 ^ e) ∧ k' < n ∧ 0 < k') (fun k => n - (intOf k).toNat)
  case atStart => exact ⟨1, 0, rfl, rfl, by omega, by omega⟩
  case round =>
    obtain ⟨k, e, rfl, he, hk, hk0⟩ := hrel
    by_cases hlt : 2 * k < n
    · go_wp2
      refine ⟨⟨2 * k, e + 1, by simp; omega, ?_, hlt, by omega⟩, by simp [intOf]; omega⟩
      show _ = _
      rw [he.out, Nat.pow_succ, Nat.mul_comm]
    · have hh := Mk.half_unique he.out hk (by omega)
      have HH := hid hh
      clear hh
      have k0 : (0 : Int) ≤ (k : Int) := by omega
      have k1 : (k : Int) ≤ (n : Int) := by omega
      have k2 : (k : Int) ≤ (cap : Int) := by omega
      have k3 : (n : Int) ≤ (cap : Int) := by omega
      have k4 : ¬ k = cap := by omega
      have k5 : ¬ cap = k := by omega
      go_wp2
      go_quiet (fail)
      go_wp2
      go_ret2
      exact ⟨by rw [← HH.out]; rfl, _, rfl⟩

set_option maxHeartbeats 400000 in
theorem place_any (n i : Int) (w : World) :
    Calls Try.prog 54 #[.int .i64 n, .int .i64 i] w fun e w' => e = .returned (.int .i64 (Mk.place n i)) ∧ w = w' := by
  by_cases h1 : 4096 < n
  · go_enter Try.func54, Try.ntmps54
    go_wp2
    go_ret
    exact ⟨by rw [show Mk.place n i = 2 from if_pos h1]; rfl, rfl⟩
  · by_cases h2 : i < 0
    · have d2 : decide (i < 0) = true := by simp; omega
      go_enter Try.func54, Try.ntmps54
      go_wp2
      go_ret
      exact ⟨by rw [show Mk.place n i = 1 from by unfold Mk.place; rw [if_neg (by omega), if_pos (.inl h2)]]; rfl, rfl⟩
    · have d2 : decide (i < 0) = false := by simp; omega
      by_cases h3 : n ≤ i
      · have d3 : decide (n ≤ i) = true := by simp; omega
        go_enter Try.func54, Try.ntmps54
        go_wp2
        go_ret
        exact ⟨by rw [show Mk.place n i = 1 from by unfold Mk.place; rw [if_neg (by omega), if_pos (.inr h3)]]; rfl, rfl⟩
      · have d3 : decide (n ≤ i) = false := by simp; omega
        go_enter Try.func54, Try.ntmps54
        go_wp2
        go_ret
        exact ⟨by rw [show Mk.place n i = 0 from by unfold Mk.place; rw [if_neg (by omega), if_neg (by omega)]]; rfl, rfl⟩

theorem drewB (w : World) (q : Nat) : Below w.heap.size w (w.drewN q) := ⟨rfl, rfl, rfl, Nat.le_refl _, fun _ _ => rfl⟩

set_option maxRecDepth 100000 in
set_option maxHeartbeats 400000 in
theorem top_ind (N : Nat) : ∀ (v : Value) (xs : List Int) (w : World), xs.length ≤ N → N ≤ 1099511627776 → Sl .u64 w v xs →
    Calls Try.prog 46 #[v] w fun e w' => e = .returned (.int .u64 (I (Mk.top xs))) ∧ ∃ q, w' = w.drewN q := by
  induction N with
  | zero =>
    intro v xs w hx _ hs
    obtain rfl : xs = [] := List.eq_nil_of_length_eq_zero (by omega)
    obtain ⟨a, cap, rfl, _⟩ := hs
    go_enter Try.func46, Try.ntmps46
    go_wp2_with fail
    go_ret
    exact ⟨rfl, 0, rfl⟩
  | succ N ih =>
    intro v xs w hx hN hs
    by_cases h0 : xs.length = 0
    · exact ih v xs w (by omega) (by omega) hs
    · by_cases h1 : xs.length = 1
      · obtain ⟨x, rfl⟩ : ∃ x, xs = [x] := by
          match xs, h1 with
          | [x], _ => exact ⟨x, rfl⟩
        obtain ⟨a, cap, rfl, hf1, _, _, hf⟩ := hs
        obtain ⟨b, o, rfl, hb, hc⟩ := hf (by simp)
        have hc0 := hc 0 (by simp)
        rw [Nat.add_zero] at hc0
        have HC0 : w.cell? ⟨b, o, none⟩ = some (.int .u64 x) := hc0
        clear hc hf hc0 ih hx hN h0 h1
        go_enter Try.func46, Try.ntmps46
        go_wp2_with (go_at_call 21; refine (join_any _ _ _).mono ?_; rintro e w' ⟨rfl, rfl⟩)
        go_ret
        refine ⟨?_, 0, rfl⟩
        rw [Mk.top_one]
        have hB0 : B 0 = 0#64 := by decide +kernel
        rw [← hB0]; rfl
      · have h2 : 2 ≤ xs.length := by omega
        have hh := Mk.half_lt h2
        have hp := Mk.half_pos xs.length
        have hs' := hs
        obtain ⟨a, cap, rfl, hcap, hmax, _, hf⟩ := hs
        obtain ⟨b, o, rfl, hb, _⟩ := hf (by omega)
        clear hf
        have z0 : ((xs.length : Int) == 0) = false := by rw [beq_eq_false_iff_ne]; omega
        have z1 : ((xs.length : Int) == 1) = false := by rw [beq_eq_false_iff_ne]; omega
        have cH := hid (fun w => halves_any b o xs.length cap w h2 hcap (by omega))
        have HS := hid hs'
        have IH := hid ih
        clear hs' ih hmax h0 h1 hb
        go_enter Try.func46, Try.ntmps46
        go_wp2_with fail
        refine (cH.out _).mono ?_
        rintro e w1 ⟨rfl, q1, rfl⟩
        go_wp2_with fail
        refine (IH.out _ (xs.take (Mk.half xs.length)) _ (by rw [List.length_take]; omega) (by omega) ((HS.out.take _ (by omega)).stays (drewB _ _))).mono ?_
        rintro e w2 ⟨rfl, q2, rfl⟩
        go_wp2_with fail
        refine (IH.out _ (xs.drop (Mk.half xs.length)) _ (by rw [List.length_drop]; omega) (by omega) ((HS.out.drop _ (by omega)).stays (drewB w _))).mono ?_
        rintro e w3 ⟨rfl, q3, rfl⟩
        go_wp2_with fail
        refine (join_any _ _ _).mono ?_
        rintro e w' ⟨rfl, rfl⟩
        go_wp2_with fail
        go_ret
        refine ⟨?_, _, rfl⟩
        rw [Mk.top_many xs h2, B_I, B_I]
        rfl

theorem top_any (v : Value) (xs : List Int) (w : World) (hx : xs.length ≤ 1099511627776) (hs : Sl .u64 w v xs) :
    Calls Try.prog 46 #[v] w fun e w' => e = .returned (.int .u64 (I (Mk.top xs))) ∧ ∃ q, w' = w.drewN q :=
  top_ind xs.length v xs w (Nat.le_refl _) hx hs

set_option maxHeartbeats 400000 in
theorem root_any (v : Value) (xs : List Int) (w : World) (hx : xs.length ≤ 1099511627776) (hs : Sl .u64 w v xs) :
    Calls Try.prog 33 #[v] w fun e w' => e = .returned (.int .u64 (I (Mk.root xs))) ∧ ∃ q, w' = w.drewN q := by
  have HS := hid hs
  obtain ⟨a, cap, rfl, _⟩ := hs
  go_enter Try.func33, Try.ntmps33
  go_wp2_with fail
  refine (top_any _ _ _ hx HS.out).mono ?_
  rintro e w1 ⟨rfl, q1, rfl⟩
  go_wp2_with fail
  refine (join_any _ _ _).mono ?_
  rintro e w' ⟨rfl, rfl⟩
  go_wp2_with fail
  go_ret
  refine ⟨?_, _, rfl⟩
  rw [B_I]; rfl

end Go.Proofs.Ytifpkhgcoopjnaa
