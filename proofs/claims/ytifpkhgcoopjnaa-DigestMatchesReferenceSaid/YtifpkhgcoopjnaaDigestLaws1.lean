/- The laws DigestSteps and DigestJoins: their calls return true. No conditions. -/
import Derived.Test.YtifpkhgcoopjnaaDigestWalk
import Derived.Test.YtifpkhgcoopjnaaOpen
namespace Go.Proofs.Ytifpkhgcoopjnaa
open Go.RowKit

set_option maxHeartbeats 400000 in
theorem digestSteps_true (h v u : Int) (w : World) (hh : (Lit.int .u64 h).wf = true) (hv : (Lit.int .u64 v).wf = true) (hu : (Lit.int .u64 u).wf = true) :
    Calls Try.prog 3 #[.int .u64 h, .int .u64 v, .int .u64 u] w fun e w' => e = .returned (.bool true) ∧ Below w.heap.size w w' := by
  obtain ⟨h, rfl⟩ := U_of_wf hh
  obtain ⟨v, rfl⟩ := U_of_wf hv
  obtain ⟨u, rfl⟩ := U_of_wf hu
  clear hh hv hu
  have e1 : (I (Dg.back h (Dg.step h u)) != I u) = false := by rw [Dg.back_step, I_bne]; simp
  have e2 : (I (Dg.step h (Dg.back h u)) != I u) = false := by rw [Dg.step_back, I_bne]; simp
  have e3 : (I (Dg.step h v) == I (Dg.step h u)) = (I v == I u) := by
    rw [I_beq, I_beq, Bool.eq_iff_iff, beq_iff_eq, beq_iff_eq]; exact ⟨Dg.step_inj, fun h => by rw [h]⟩
  have e4 : (I (Dg.step v h) == I (Dg.step u h)) = (I v == I u) := by
    rw [I_beq, I_beq, Bool.eq_iff_iff, beq_iff_eq, beq_iff_eq]; exact ⟨Dg.step_inj', fun h => by rw [h]⟩
  have hB := B_I
  have e5 : ∀ x : Bool, (x == x) = true := by simp
  go_enter Try.func3, Try.ntmps3
  go_wp2_with fail
  refine (examples3_any _).mono ?_
  rintro e w1 ⟨rfl, b1⟩
  go_wp2_with (first | (go_at_call 18; refine (step_any _ _ _).mono ?_; rintro e w' ⟨rfl, rfl⟩) | (go_at_call 17; refine (back_any _ _ _ (U_I _)).mono ?_; rintro e w' ⟨rfl, rfl⟩))
  go_ret
  exact ⟨rfl, b1⟩

set_option maxHeartbeats 400000 in
theorem digestJoins_true (a b c : Int) (w : World) (ha : (Lit.int .u64 a).wf = true) (hb : (Lit.int .u64 b).wf = true) (hc : (Lit.int .u64 c).wf = true) :
    Calls Try.prog 5 #[.int .u64 a, .int .u64 b, .int .u64 c] w fun e w' => e = .returned (.bool true) ∧ Below w.heap.size w w' := by
  obtain ⟨a, rfl⟩ := U_of_wf ha
  obtain ⟨b, rfl⟩ := U_of_wf hb
  obtain ⟨c, rfl⟩ := U_of_wf hc
  clear ha hb hc
  have e3 : (I (Dg.join a b) == I (Dg.join a c)) = (I b == I c) := by
    rw [I_beq, I_beq, Bool.eq_iff_iff, beq_iff_eq, beq_iff_eq]; exact ⟨Dg.step_inj, fun h => by rw [h]⟩
  have e4 : (I (Dg.join a b) == I (Dg.join c b)) = (I a == I c) := by
    rw [I_beq, I_beq, Bool.eq_iff_iff, beq_iff_eq, beq_iff_eq]; exact ⟨fun h => Dg.step_inj (Dg.step_inj' h), fun h => by rw [h]⟩
  have hB := B_I
  have e5 : ∀ x : Bool, (x == x) = true := by simp
  go_enter Try.func5, Try.ntmps5
  go_wp2_with fail
  refine (examples3_any _).mono ?_
  rintro e w1 ⟨rfl, b1⟩
  go_wp2_with (first | (go_at_call 21; refine (join_any _ _ _).mono ?_; rintro e w' ⟨rfl, rfl⟩))
  go_ret
  exact ⟨rfl, b1⟩

end Go.Proofs.Ytifpkhgcoopjnaa
