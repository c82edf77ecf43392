/- The law DigestMatchesReference: its call returns true. No conditions. -/
import Derived.Test.YtifpkhgcoopjnaaDigestLaws5
import Derived.Test.YtifpkhgcoopjnaaDigestRef2
namespace Go.Proofs.Ytifpkhgcoopjnaa
open Go.RowKit

set_option maxRecDepth 100000 in
set_option maxHeartbeats 400000 in
theorem digestMatches_true (a0 : Option Addr) (len0 cap0 : Nat) (z0 : List Int) (a1 : Option Addr) (len1 cap1 : Nat) (z1 : List Int) (s : ByteArray) (w : World)
    (h0 : IsRow .i64 w a0 len0 cap0 z0) (h1 : IsRow .u8 w a1 len1 cap1 z1) (hs : s.size ≤ maxLen) :
    Calls Try.prog 9 #[.slice a0 len0 cap0, .slice a1 len1 cap1, .string s] w fun e w' => e = .returned (.bool true) ∧ Below w.heap.size w w' := by
  obtain ⟨xs, rfl, hx, _⟩ := Sl.of_row h0
  obtain ⟨ys, rfl, hy, _⟩ := Sl.of_row h1
  have HS := hid hs
  have HX := hid hx
  have HY := hid hy
  clear h0 h1 hs hx hy
  by_cases hl : xs.length ≤ 60 ∧ ys.length ≤ 200 ∧ s.size ≤ 200
  · obtain ⟨l1, l2, l3⟩ := hl
    have d1 : decide ((60 : Int) < (xs.length : Int)) = false := by simp; omega
    have d2 : decide ((200 : Int) < (ys.length : Int)) = false := by simp; omega
    have d3 : decide ((200 : Int) < (s.size : Int)) = false := by simp; omega
    obtain ⟨x, ex⟩ : ∃ x, Dg.words xs = x := ⟨_, rfl⟩
    obtain ⟨y, ey⟩ : ∃ y, Dg.bytes ys = y := ⟨_, rfl⟩
    have EX := hid ex
    have EY := hid ey
    clear ex ey
    have hBI := B_I
    go_enter Try.func9, Try.ntmps9
    go_wp2_with fail
    refine (examples3_any _).mono ?_
    rintro e w1 ⟨rfl, b1⟩
    have X1 := hid (HX.out.stays b1)
    have Y1 := hid (HY.out.stays b1)
    go_wp2_with fail
    refine (words_at _ _ (I x) _ X1.out (by rw [EX.out])).mono ?_
    rintro e w' ⟨rfl, rfl⟩
    go_wp2_with fail
    refine (bytes_at _ _ (I y) _ Y1.out (by rw [EY.out])).mono ?_
    rintro e w2 ⟨rfl, b2⟩
    have X2 := hid (X1.out.stays b2)
    have Y2 := hid (Y1.out.stays b2)
    go_wp2_with fail
    refine (rwords_any _ _ _ X2.out).mono ?_
    rw [EX.out]
    rintro e w' ⟨rfl, rfl⟩
    go_wp2_with fail
    refine (rbytes_any _ _ _ Y2.out (by omega)).mono ?_
    rw [EY.out]
    rintro e w' ⟨rfl, rfl⟩
    go_wp2_with (first | (go_at_call 21; refine (join_any _ _ _).mono ?_; rintro e w' ⟨rfl, rfl⟩) | (go_at_call 26; refine (rjoin_any _ _ _).mono ?_; rintro e w' ⟨rfl, rfl⟩) | (go_at_call 18; refine (step_any _ _ _).mono ?_; rintro e w' ⟨rfl, rfl⟩) | (go_at_call 27; refine (rstep_any _ _ _).mono ?_; rintro e w' ⟨rfl, rfl⟩) | (go_at_call 17; refine (back_any _ _ _ (U_I _)).mono ?_; rintro e w' ⟨rfl, rfl⟩) | (go_at_call 28; refine (rback_any _ _ _ (U_I _)).mono ?_; rintro e w' ⟨rfl, rfl⟩))
    obtain ⟨T, cT, cR⟩ : ∃ T : ByteArray, (∀ w, Calls Try.prog 19 #[.int .u64 (I x)] w fun e w' => e = .returned (.string T) ∧ Below w.heap.size w w') ∧ (∀ w, Calls Try.prog 29 #[.int .u64 (I x)] w fun e w' => e = .returned (.string T) ∧ w = w') :=
      ⟨⟨(Dg.text x).toArray⟩, fun w => text_at (I x) _ w (U_I _) (by rw [B_I]), fun w => (rtext_any (I x) w (U_I x)).mono fun e w' ⟨h1, h2⟩ => ⟨by rw [h1, B_I], h2⟩⟩
    obtain ⟨pn, pr, cP, cQ⟩ : ∃ pn pr : Int, (∀ w, Calls Try.prog 20 #[.string s] w fun e w' => e = .returned (.agg #[.int .u64 pn, .int .i64 pr]) ∧ Below w.heap.size w w') ∧ (∀ w, Calls Try.prog 30 #[.string s] w fun e w' => e = .returned (.agg #[.int .u64 pn, .int .i64 pr]) ∧ Below w.heap.size w w') :=
      ⟨_, _, fun w => parsed_any s w HS.out, fun w => rparse_any s w HS.out⟩
    have CT := hid cT
    have CR := hid cR
    have CP := hid cP
    have CQ := hid cQ
    clear cT cR cP cQ
    refine (CT.out _).mono ?_
    rintro e w3 ⟨rfl, b3⟩
    go_wp2_with fail
    refine (CR.out _).mono ?_
    rintro e w' ⟨rfl, rfl⟩
    go_wp2_with fail
    refine (CP.out _).mono ?_
    rintro e w4 ⟨rfl, b4⟩
    go_wp2_with fail
    refine (CQ.out _).mono ?_
    rintro e w5 ⟨rfl, b5⟩
    go_wp2_with fail
    go_ret
    exact ⟨rfl, seqB b1 (seqB b2 (seqB b3 (seqB b4 b5)))⟩
  · have hg : (decide ((60 : Int) < (xs.length : Int)) = true) ∨ (decide ((60 : Int) < (xs.length : Int)) = false ∧ decide ((200 : Int) < (ys.length : Int)) = true) ∨ (decide ((60 : Int) < (xs.length : Int)) = false ∧ decide ((200 : Int) < (ys.length : Int)) = false ∧ decide ((200 : Int) < (s.size : Int)) = true) := by
      simp only [decide_eq_true_eq, decide_eq_false_iff_not]; omega
    rcases hg with d1 | ⟨d1, d2⟩ | ⟨d1, d2, d3⟩
    all_goals
      go_enter Try.func9, Try.ntmps9
      go_wp2_with fail
      refine (examples3_any _).mono ?_
      rintro e w1 ⟨rfl, b1⟩
      go_wp2_with fail
      go_ret
      exact ⟨rfl, b1⟩
end Go.Proofs.Ytifpkhgcoopjnaa
