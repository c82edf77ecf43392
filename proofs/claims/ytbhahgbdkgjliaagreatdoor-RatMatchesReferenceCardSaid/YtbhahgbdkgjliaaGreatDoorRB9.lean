/- The reference's products, quotients, comparisons and sums of fractions. No conditions. -/
import Derived.Test.YtbhahgbdkgjliaaGreatDoorRB8
import Derived.Test.YtbhahgbdkgjliaaGreatDoorR7
import Derived.Test.YtbhahgbdkgjliaaGreatDoorR9
set_option linter.unusedVariables false
set_option linter.unusedSimpArgs false
namespace Go.Proofs.YtbhahgbdkgjliaaGreatDoor
open Go.Abs Go Go.RowKit
set_option maxRecDepth 100000
open Rb
set_option maxHeartbeats 8000000 in
theorem rmul_fc (a b : Rat) (ha : Rt.Fit a) (hb : Rt.Fit b) : FC Tryz.prog gi 15 [frQ a, frQ b] [] (lawA (Rt.res (a * b))) [] NoP := by
  have an := ha.num
  have ad := ha.den
  have bn := hb.num
  have bd := hb.den
  have ap := a.den_pos
  have bp := b.den_pos
  have c1 := size_fc a.num (by omega)
  have c2 := gcd2_fc a.num.natAbs b.den (by omega) (by omega)
  have c3 := size_fc b.num (by omega)
  have c4 := gcd2_fc b.num.natAbs a.den (by omega) (by omega)
  by_cases hz : a.num = 0
  · have e : a * b = 0 := by rw [Rat.num_eq_zero.1 hz, Rat.zero_mul]
    rw [e, Rt.res_zero]
    refine FC.of_AW tok Tryz.func15 (by kernel_rfl) rfl Tryz.ntmps15 [] rfl rfl rfl ?_; intro w0 X0 Y f0 hI0 hX0
    (repeat (first | refine K1 ?_ | refine K2 ?_ | refine K3 ?_ | refine K4 ?_ | refine K5 ?_ | refine K6 ?_ | refine K7 ?_ | refine L1 ?_ | refine L2 ?_ | refine L3 ?_ | refine RG.d ?_ | refine RG.dd ?_ | refine S1 ?_ | refine S2 ?_ | refine S3 ?_ | refine S4 ?_ | refine S5 ?_ | refine S7 ?_ | refine S8 ?_))
    refine RG.call rfl rfl rfl rfl (c1) [] rfl rfl rfl rfl (.nil _) (.nil _) (fun _ h => False.elim h) rfl (A.ren_free _ _ rfl) rfl ?_
    (repeat (first | refine K1 ?_ | refine K2 ?_ | refine K3 ?_ | refine K4 ?_ | refine K5 ?_ | refine K6 ?_ | refine K7 ?_ | refine L1 ?_ | refine L2 ?_ | refine L3 ?_ | refine RG.d ?_ | refine RG.dd ?_ | refine S1 ?_ | refine S2 ?_ | refine S3 ?_ | refine S4 ?_ | refine S5 ?_ | refine S7 ?_ | refine S8 ?_))
    refine RG.call rfl rfl rfl rfl (c2) [] rfl rfl rfl rfl (.nil _) (.nil _) (fun _ h => False.elim h) rfl (A.ren_free _ _ rfl) rfl ?_
    (repeat (first | refine K1 ?_ | refine K2 ?_ | refine K3 ?_ | refine K4 ?_ | refine K5 ?_ | refine K6 ?_ | refine K7 ?_ | refine L1 ?_ | refine L2 ?_ | refine L3 ?_ | refine RG.d ?_ | refine RG.dd ?_ | refine S1 ?_ | refine S2 ?_ | refine S3 ?_ | refine S4 ?_ | refine S5 ?_ | refine S7 ?_ | refine S8 ?_))
    refine RG.call rfl rfl rfl rfl (c3) [] rfl rfl rfl rfl (.nil _) (.nil _) (fun _ h => False.elim h) rfl (A.ren_free _ _ rfl) rfl ?_
    (repeat (first | refine K1 ?_ | refine K2 ?_ | refine K3 ?_ | refine K4 ?_ | refine K5 ?_ | refine K6 ?_ | refine K7 ?_ | refine L1 ?_ | refine L2 ?_ | refine L3 ?_ | refine RG.d ?_ | refine RG.dd ?_ | refine S1 ?_ | refine S2 ?_ | refine S3 ?_ | refine S4 ?_ | refine S5 ?_ | refine S7 ?_ | refine S8 ?_))
    refine RG.call rfl rfl rfl rfl (c4) [] rfl rfl rfl rfl (.nil _) (.nil _) (fun _ h => False.elim h) rfl (A.ren_free _ _ rfl) rfl ?_
    (repeat (first | refine K1 ?_ | refine K2 ?_ | refine K3 ?_ | refine K4 ?_ | refine K5 ?_ | refine K6 ?_ | refine K7 ?_ | refine L1 ?_ | refine L2 ?_ | refine L3 ?_ | refine RG.d ?_ | refine RG.dd ?_ | refine S1 ?_ | refine S2 ?_ | refine S3 ?_ | refine S4 ?_ | refine S5 ?_ | refine S7 ?_ | refine S8 ?_))
    refine RG.split 22 rfl (fun _ => ?_) (fun h => absurd hz h)
    (repeat (first | refine K1 ?_ | refine K2 ?_ | refine K3 ?_ | refine K4 ?_ | refine K5 ?_ | refine K6 ?_ | refine K7 ?_ | refine L1 ?_ | refine L2 ?_ | refine L3 ?_ | refine RG.d ?_ | refine RG.dd ?_ | refine S1 ?_ | refine S2 ?_ | refine S3 ?_ | refine S4 ?_ | refine S5 ?_ | refine S6 ?_ | refine S7 ?_ | refine S8 ?_))
    exact ⟨⟨_, rfl, rfl⟩, rfl, .nil _⟩
  by_cases hz2 : b.num = 0
  · have e : a * b = 0 := by rw [Rat.num_eq_zero.1 hz2, Rat.mul_zero]
    rw [e, Rt.res_zero]
    refine FC.of_AW tok Tryz.func15 (by kernel_rfl) rfl Tryz.ntmps15 [] rfl rfl rfl ?_; intro w0 X0 Y f0 hI0 hX0
    (repeat (first | refine K1 ?_ | refine K2 ?_ | refine K3 ?_ | refine K4 ?_ | refine K5 ?_ | refine K6 ?_ | refine K7 ?_ | refine L1 ?_ | refine L2 ?_ | refine L3 ?_ | refine RG.d ?_ | refine RG.dd ?_ | refine S1 ?_ | refine S2 ?_ | refine S3 ?_ | refine S4 ?_ | refine S5 ?_ | refine S7 ?_ | refine S8 ?_))
    refine RG.call rfl rfl rfl rfl (c1) [] rfl rfl rfl rfl (.nil _) (.nil _) (fun _ h => False.elim h) rfl (A.ren_free _ _ rfl) rfl ?_
    (repeat (first | refine K1 ?_ | refine K2 ?_ | refine K3 ?_ | refine K4 ?_ | refine K5 ?_ | refine K6 ?_ | refine K7 ?_ | refine L1 ?_ | refine L2 ?_ | refine L3 ?_ | refine RG.d ?_ | refine RG.dd ?_ | refine S1 ?_ | refine S2 ?_ | refine S3 ?_ | refine S4 ?_ | refine S5 ?_ | refine S7 ?_ | refine S8 ?_))
    refine RG.call rfl rfl rfl rfl (c2) [] rfl rfl rfl rfl (.nil _) (.nil _) (fun _ h => False.elim h) rfl (A.ren_free _ _ rfl) rfl ?_
    (repeat (first | refine K1 ?_ | refine K2 ?_ | refine K3 ?_ | refine K4 ?_ | refine K5 ?_ | refine K6 ?_ | refine K7 ?_ | refine L1 ?_ | refine L2 ?_ | refine L3 ?_ | refine RG.d ?_ | refine RG.dd ?_ | refine S1 ?_ | refine S2 ?_ | refine S3 ?_ | refine S4 ?_ | refine S5 ?_ | refine S7 ?_ | refine S8 ?_))
    refine RG.call rfl rfl rfl rfl (c3) [] rfl rfl rfl rfl (.nil _) (.nil _) (fun _ h => False.elim h) rfl (A.ren_free _ _ rfl) rfl ?_
    (repeat (first | refine K1 ?_ | refine K2 ?_ | refine K3 ?_ | refine K4 ?_ | refine K5 ?_ | refine K6 ?_ | refine K7 ?_ | refine L1 ?_ | refine L2 ?_ | refine L3 ?_ | refine RG.d ?_ | refine RG.dd ?_ | refine S1 ?_ | refine S2 ?_ | refine S3 ?_ | refine S4 ?_ | refine S5 ?_ | refine S7 ?_ | refine S8 ?_))
    refine RG.call rfl rfl rfl rfl (c4) [] rfl rfl rfl rfl (.nil _) (.nil _) (fun _ h => False.elim h) rfl (A.ren_free _ _ rfl) rfl ?_
    (repeat (first | refine K1 ?_ | refine K2 ?_ | refine K3 ?_ | refine K4 ?_ | refine K5 ?_ | refine K6 ?_ | refine K7 ?_ | refine L1 ?_ | refine L2 ?_ | refine L3 ?_ | refine RG.d ?_ | refine RG.dd ?_ | refine S1 ?_ | refine S2 ?_ | refine S3 ?_ | refine S4 ?_ | refine S5 ?_ | refine S7 ?_ | refine S8 ?_))
    refine RG.split 22 rfl (fun h => absurd h hz) (fun _ => ?_)
    (repeat (first | refine K1 ?_ | refine K2 ?_ | refine K3 ?_ | refine K4 ?_ | refine K5 ?_ | refine K6 ?_ | refine K7 ?_ | refine L1 ?_ | refine L2 ?_ | refine L3 ?_ | refine RG.d ?_ | refine RG.dd ?_ | refine S1 ?_ | refine S2 ?_ | refine S3 ?_ | refine S4 ?_ | refine S5 ?_ | refine S7 ?_ | refine S8 ?_))
    refine AW.condD rfl (fun _ => ?_) (fun h => absurd hz2 h)
    (repeat (first | refine K1 ?_ | refine K2 ?_ | refine K3 ?_ | refine K4 ?_ | refine K5 ?_ | refine K6 ?_ | refine K7 ?_ | refine L1 ?_ | refine L2 ?_ | refine L3 ?_ | refine RG.d ?_ | refine RG.dd ?_ | refine S1 ?_ | refine S2 ?_ | refine S3 ?_ | refine S4 ?_ | refine S5 ?_ | refine S6 ?_ | refine S7 ?_ | refine S8 ?_))
    exact ⟨⟨_, rfl, rfl⟩, rfl, .nil _⟩
  have mn := Rt.mul_num a b
  have md := Rt.mul_den a b
  have g0 : 0 < Nat.gcd a.num.natAbs b.den := Nat.gcd_pos_of_pos_right _ bp
  have g1 : Nat.gcd a.num.natAbs b.den ≤ b.den := Nat.gcd_le_right _ bp
  have h0 : 0 < Nat.gcd b.num.natAbs a.den := Nat.gcd_pos_of_pos_right _ ap
  have h1 : Nat.gcd b.num.natAbs a.den ≤ a.den := Nat.gcd_le_right _ ap
  obtain ⟨g, hg⟩ : ∃ g, g = Nat.gcd a.num.natAbs b.den := ⟨_, rfl⟩
  obtain ⟨h, hh⟩ : ∃ h, h = Nat.gcd b.num.natAbs a.den := ⟨_, rfl⟩
  rw [← hg] at c2 mn md g0 g1
  rw [← hh] at c4 mn md h0 h1
  obtain ⟨q1, q2, q3⟩ := quoZ a.num g an
  obtain ⟨q4, q5, q6⟩ := quoZ b.num h bn
  have c5 : FC Tryz.prog gi 37 [i64 (IntKind.i64.wrap (a.num.tdiv (g : Int))), i64 (IntKind.i64.wrap (b.num.tdiv (h : Int)))] [] (sgB (sgn (a.num.tdiv g) (b.num.tdiv h)) ((a.num.tdiv g).natAbs * (b.num.tdiv h).natAbs)) [] NoP := by
    rw [q1, q4]; exact product_fc _ _ ⟨q2, q3⟩ ⟨q5, q6⟩
  have b2 := div_bound a.den h ad
  have b3 := div_bound b.den g bd
  have c6 : FC Tryz.prog gi 41 [i64 (IntKind.i64.wrap ((a.den : Int).tdiv (h : Int)))] [] (rdb (bL (a.den / h))) [] NoP := by
    rw [quoI _ _ (by omega)]
    exact bits_fc (a.den / h) (by obtain ⟨k, hk⟩ : ∃ k, k = a.den / h := ⟨_, rfl⟩; rw [← hk] at b2 ⊢; omega)
  have c7 : FC Tryz.prog gi 41 [i64 (IntKind.i64.wrap ((b.den : Int).tdiv (g : Int)))] [] (rdb (bL (b.den / g))) [] NoP := by
    rw [quoI _ _ (by omega)]
    exact bits_fc (b.den / g) (by obtain ⟨k, hk⟩ : ∃ k, k = b.den / g := ⟨_, rfl⟩; rw [← hk] at b3 ⊢; omega)
  have m3 : (a.den / h) * (b.den / g) < 85070591730234615865843651857942052864 := mul_bound b2 b3
  have c8 := btimes_fc (bL (a.den / h)) (bL (b.den / g)) (bL_isB _) (bL_isB _) (by have := bL_127 (m := a.den / h) (by obtain ⟨k, hk⟩ : ∃ k, k = a.den / h := ⟨_, rfl⟩; rw [← hk] at b2 ⊢; omega); omega) (by have := bL_127 (m := b.den / g) (by obtain ⟨k, hk⟩ : ∃ k, k = b.den / g := ⟨_, rfl⟩; rw [← hk] at b3 ⊢; omega); omega)
  rw [nv_bL, nv_bL] at c8
  have m4 : (a.num.tdiv g).natAbs * (b.num.tdiv h).natAbs < 85070591730234615865843651857942052864 := mul_bound (by omega) (by omega)
  have c9 := rmade14_fc (sgn (a.num.tdiv g) (b.num.tdiv h)) ((a.num.tdiv g).natAbs * (b.num.tdiv h).natAbs) ((a.den / h) * (b.den / g)) (by obtain ⟨k, hk⟩ : ∃ k, k = (a.num.tdiv g).natAbs * (b.num.tdiv h).natAbs := ⟨_, rfl⟩; rw [← hk] at m4 ⊢; omega) (by obtain ⟨k, hk⟩ : ∃ k, k = (a.den / h) * (b.den / g) := ⟨_, rfl⟩; rw [← hk] at m3 ⊢; omega)
  rw [Rt.mkR_res (q := a * b) (by rw [mn]; exact (Rt.val_sgn _ _).symm) md] at c9
  unfold sgB at c9 c5
  refine FC.of_AW tok Tryz.func15 (by kernel_rfl) rfl Tryz.ntmps15 [] rfl rfl rfl ?_; intro w0 X0 Y f0 hI0 hX0
  (repeat (first | refine K1 ?_ | refine K2 ?_ | refine K3 ?_ | refine K4 ?_ | refine K5 ?_ | refine K6 ?_ | refine K7 ?_ | refine L1 ?_ | refine L2 ?_ | refine L3 ?_ | refine RG.d ?_ | refine RG.dd ?_ | refine S1 ?_ | refine S2 ?_ | refine S3 ?_ | refine S4 ?_ | refine S5 ?_ | refine S7 ?_ | refine S8 ?_))
  refine RG.call rfl rfl rfl rfl (c1) [] rfl rfl rfl rfl (.nil _) (.nil _) (fun _ h => False.elim h) rfl (A.ren_free _ _ rfl) rfl ?_
  (repeat (first | refine K1 ?_ | refine K2 ?_ | refine K3 ?_ | refine K4 ?_ | refine K5 ?_ | refine K6 ?_ | refine K7 ?_ | refine L1 ?_ | refine L2 ?_ | refine L3 ?_ | refine RG.d ?_ | refine RG.dd ?_ | refine S1 ?_ | refine S2 ?_ | refine S3 ?_ | refine S4 ?_ | refine S5 ?_ | refine S7 ?_ | refine S8 ?_))
  refine RG.call rfl rfl rfl rfl (c2) [] rfl rfl rfl rfl (.nil _) (.nil _) (fun _ h => False.elim h) rfl (A.ren_free _ _ rfl) rfl ?_
  (repeat (first | refine K1 ?_ | refine K2 ?_ | refine K3 ?_ | refine K4 ?_ | refine K5 ?_ | refine K6 ?_ | refine K7 ?_ | refine L1 ?_ | refine L2 ?_ | refine L3 ?_ | refine RG.d ?_ | refine RG.dd ?_ | refine S1 ?_ | refine S2 ?_ | refine S3 ?_ | refine S4 ?_ | refine S5 ?_ | refine S7 ?_ | refine S8 ?_))
  refine RG.call rfl rfl rfl rfl (c3) [] rfl rfl rfl rfl (.nil _) (.nil _) (fun _ h => False.elim h) rfl (A.ren_free _ _ rfl) rfl ?_
  (repeat (first | refine K1 ?_ | refine K2 ?_ | refine K3 ?_ | refine K4 ?_ | refine K5 ?_ | refine K6 ?_ | refine K7 ?_ | refine L1 ?_ | refine L2 ?_ | refine L3 ?_ | refine RG.d ?_ | refine RG.dd ?_ | refine S1 ?_ | refine S2 ?_ | refine S3 ?_ | refine S4 ?_ | refine S5 ?_ | refine S7 ?_ | refine S8 ?_))
  refine RG.call rfl rfl rfl rfl (c4) [] rfl rfl rfl rfl (.nil _) (.nil _) (fun _ h => False.elim h) rfl (A.ren_free _ _ rfl) rfl ?_
  (repeat (first | refine K1 ?_ | refine K2 ?_ | refine K3 ?_ | refine K4 ?_ | refine K5 ?_ | refine K6 ?_ | refine K7 ?_ | refine L1 ?_ | refine L2 ?_ | refine L3 ?_ | refine RG.d ?_ | refine RG.dd ?_ | refine S1 ?_ | refine S2 ?_ | refine S3 ?_ | refine S4 ?_ | refine S5 ?_ | refine S7 ?_ | refine S8 ?_))
  refine RG.split 22 rfl (fun h => absurd h hz) (fun _ => ?_)
  (repeat (first | refine K1 ?_ | refine K2 ?_ | refine K3 ?_ | refine K4 ?_ | refine K5 ?_ | refine K6 ?_ | refine K7 ?_ | refine L1 ?_ | refine L2 ?_ | refine L3 ?_ | refine RG.d ?_ | refine RG.dd ?_ | refine S1 ?_ | refine S2 ?_ | refine S3 ?_ | refine S4 ?_ | refine S5 ?_ | refine S7 ?_ | refine S8 ?_))
  refine AW.condD rfl (fun h => absurd h hz2) (fun _ => ?_)
  (repeat (first | refine K1 ?_ | refine K2 ?_ | refine K3 ?_ | refine K4 ?_ | refine K5 ?_ | refine K6 ?_ | refine K7 ?_ | refine L1 ?_ | refine L2 ?_ | refine L3 ?_ | refine RG.d ?_ | refine RG.dd ?_ | refine S1 ?_ | refine S2 ?_ | refine S3 ?_ | refine S4 ?_ | refine S5 ?_ | refine S7 ?_ | refine S8 ?_))
  refine RG.call rfl rfl rfl rfl (c5) [] rfl rfl rfl rfl (.nil _) (.nil _) (fun _ h => False.elim h) rfl (A.ren_free _ _ rfl) rfl ?_
  (repeat (first | refine K1 ?_ | refine K2 ?_ | refine K3 ?_ | refine K4 ?_ | refine K5 ?_ | refine K6 ?_ | refine K7 ?_ | refine L1 ?_ | refine L2 ?_ | refine L3 ?_ | refine RG.d ?_ | refine RG.dd ?_ | refine S1 ?_ | refine S2 ?_ | refine S3 ?_ | refine S4 ?_ | refine S5 ?_ | refine S7 ?_ | refine S8 ?_))
  refine RG.call rfl rfl rfl rfl (c6) [] rfl rfl rfl rfl (.nil _) (.nil _) (fun _ h => False.elim h) rfl (A.ren_free _ _ rfl) rfl ?_
  (repeat (first | refine K1 ?_ | refine K2 ?_ | refine K3 ?_ | refine K4 ?_ | refine K5 ?_ | refine K6 ?_ | refine K7 ?_ | refine L1 ?_ | refine L2 ?_ | refine L3 ?_ | refine RG.d ?_ | refine RG.dd ?_ | refine S1 ?_ | refine S2 ?_ | refine S3 ?_ | refine S4 ?_ | refine S5 ?_ | refine S7 ?_ | refine S8 ?_))
  refine RG.call rfl rfl rfl rfl (c7) [] rfl rfl rfl rfl (.nil _) (.nil _) (fun _ h => False.elim h) rfl (A.ren_free _ _ rfl) rfl ?_
  (repeat (first | refine K1 ?_ | refine K2 ?_ | refine K3 ?_ | refine K4 ?_ | refine K5 ?_ | refine K6 ?_ | refine K7 ?_ | refine L1 ?_ | refine L2 ?_ | refine L3 ?_ | refine RG.d ?_ | refine RG.dd ?_ | refine S1 ?_ | refine S2 ?_ | refine S3 ?_ | refine S4 ?_ | refine S5 ?_ | refine S7 ?_ | refine S8 ?_))
  refine RG.call rfl rfl rfl rfl (c8) [] rfl rfl rfl rfl (.nil _) (.nil _) (fun _ h => False.elim h) rfl (A.ren_free _ _ rfl) rfl ?_
  (repeat (first | refine K1 ?_ | refine K2 ?_ | refine K3 ?_ | refine K4 ?_ | refine K5 ?_ | refine K6 ?_ | refine K7 ?_ | refine L1 ?_ | refine L2 ?_ | refine L3 ?_ | refine RG.d ?_ | refine RG.dd ?_ | refine S1 ?_ | refine S2 ?_ | refine S3 ?_ | refine S4 ?_ | refine S5 ?_ | refine S7 ?_ | refine S8 ?_))
  refine RG.call rfl rfl rfl rfl (c9) [] rfl rfl rfl rfl (.nil _) (.nil _) (fun _ h => False.elim h) rfl (A.ren_free _ _ rfl) rfl ?_
  (repeat (first | refine K1 ?_ | refine K2 ?_ | refine K3 ?_ | refine K4 ?_ | refine K5 ?_ | refine K6 ?_ | refine K7 ?_ | refine L1 ?_ | refine L2 ?_ | refine L3 ?_ | refine RG.d ?_ | refine RG.dd ?_ | refine S1 ?_ | refine S2 ?_ | refine S3 ?_ | refine S4 ?_ | refine S5 ?_ | refine S6 ?_ | refine S7 ?_ | refine S8 ?_))
  exact ⟨⟨_, rfl, rfl⟩, rfl, .nil _⟩
theorem rdiv_fc (a b : Rat) (ha : Rt.Fit a) (hb : Rt.Fit b) : FC Tryz.prog gi 17 [frQ a, frQ b] [] (lawA (Rt.dv a b)) [] NoP := by
  have bn := hb.num
  have bd := hb.den
  unfold Rt.dv
  by_cases hz : b.num = 0
  · rw [if_pos (Rat.num_eq_zero.1 hz)]
    refine FC.of_AW tok Tryz.func17 (by kernel_rfl) rfl Tryz.ntmps17 [] rfl rfl rfl ?_; intro w0 X0 Y f0 hI0 hX0
    (repeat (first | refine K1 ?_ | refine K2 ?_ | refine K3 ?_ | refine K4 ?_ | refine K5 ?_ | refine K6 ?_ | refine K7 ?_ | refine L1 ?_ | refine L2 ?_ | refine L3 ?_ | refine RG.d ?_ | refine RG.dd ?_ | refine S1 ?_ | refine S2 ?_ | refine S3 ?_ | refine S4 ?_ | refine S5 ?_ | refine S7 ?_ | refine S8 ?_))
    refine AW.condD rfl (fun _ => ?_) (fun h => absurd hz h)
    (repeat (first | refine K1 ?_ | refine K2 ?_ | refine K3 ?_ | refine K4 ?_ | refine K5 ?_ | refine K6 ?_ | refine K7 ?_ | refine L1 ?_ | refine L2 ?_ | refine L3 ?_ | refine RG.d ?_ | refine RG.dd ?_ | refine S1 ?_ | refine S2 ?_ | refine S3 ?_ | refine S4 ?_ | refine S5 ?_ | refine S6 ?_ | refine S7 ?_ | refine S8 ?_))
    exact ⟨⟨_, rfl, rfl⟩, rfl, .nil _⟩
  have hz' : b ≠ 0 := fun e => hz (by rw [e]; rfl)
  rw [if_neg hz', Rat.div_def]
  have c := rmul_fc a b⁻¹ ha (hb.inv hz')
  by_cases hn : b.num < 0
  · obtain ⟨e1, e2⟩ := Rt.inv_neg hn
    have c' : FC Tryz.prog gi 15 [frQ a, frA (0 - (b.den : Int)) (0 - b.num)] [] (lawA (Rt.res (a * b⁻¹))) [] NoP := by
      rw [← e1, ← e2]; exact c
    refine FC.of_AW tok Tryz.func17 (by kernel_rfl) rfl Tryz.ntmps17 [] rfl rfl rfl ?_; intro w0 X0 Y f0 hI0 hX0
    (repeat (first | refine K1 ?_ | refine K2 ?_ | refine K3 ?_ | refine K4 ?_ | refine K5 ?_ | refine K6 ?_ | refine K7 ?_ | refine L1 ?_ | refine L2 ?_ | refine L3 ?_ | refine RG.d ?_ | refine RG.dd ?_ | refine S1 ?_ | refine S2 ?_ | refine S3 ?_ | refine S4 ?_ | refine S5 ?_ | refine S7 ?_ | refine S8 ?_))
    refine AW.condD rfl (fun h => absurd h hz) (fun _ => ?_)
    (repeat (first | refine K1 ?_ | refine K2 ?_ | refine K3 ?_ | refine K4 ?_ | refine K5 ?_ | refine K6 ?_ | refine K7 ?_ | refine L1 ?_ | refine L2 ?_ | refine L3 ?_ | refine RG.d ?_ | refine RG.dd ?_ | refine S1 ?_ | refine S2 ?_ | refine S3 ?_ | refine S4 ?_ | refine S5 ?_ | refine S7 ?_ | refine S8 ?_))
    refine AW.condD rfl (fun _ => ?_) (fun h => absurd hn h)
    (repeat (first | refine K1 ?_ | refine K2 ?_ | refine K3 ?_ | refine K4 ?_ | refine K5 ?_ | refine K6 ?_ | refine K7 ?_ | refine L1 ?_ | refine L2 ?_ | refine L3 ?_ | refine RG.d ?_ | refine RG.dd ?_ | refine S1 ?_ | refine S2 ?_ | refine S3 ?_ | refine S4 ?_ | refine S5 ?_ | refine S7 ?_ | refine S8 ?_))
    refine RG.call rfl rfl rfl rfl (c') [] rfl rfl rfl rfl (.nil _) (.nil _) (fun _ h => False.elim h) rfl (A.ren_free _ _ rfl) rfl ?_
    (repeat (first | refine K1 ?_ | refine K2 ?_ | refine K3 ?_ | refine K4 ?_ | refine K5 ?_ | refine K6 ?_ | refine K7 ?_ | refine L1 ?_ | refine L2 ?_ | refine L3 ?_ | refine RG.d ?_ | refine RG.dd ?_ | refine S1 ?_ | refine S2 ?_ | refine S3 ?_ | refine S4 ?_ | refine S5 ?_ | refine S6 ?_ | refine S7 ?_ | refine S8 ?_))
    exact ⟨⟨_, rfl, rfl⟩, rfl, .nil _⟩
  · obtain ⟨e1, e2⟩ := Rt.inv_pos (q := b) (by omega)
    have c' : FC Tryz.prog gi 15 [frQ a, frA (b.den : Int) b.num] [] (lawA (Rt.res (a * b⁻¹))) [] NoP := by
      have c2 := c
      unfold frQ at c2 ⊢
      rwa [e1, e2] at c2
    refine FC.of_AW tok Tryz.func17 (by kernel_rfl) rfl Tryz.ntmps17 [] rfl rfl rfl ?_; intro w0 X0 Y f0 hI0 hX0
    (repeat (first | refine K1 ?_ | refine K2 ?_ | refine K3 ?_ | refine K4 ?_ | refine K5 ?_ | refine K6 ?_ | refine K7 ?_ | refine L1 ?_ | refine L2 ?_ | refine L3 ?_ | refine RG.d ?_ | refine RG.dd ?_ | refine S1 ?_ | refine S2 ?_ | refine S3 ?_ | refine S4 ?_ | refine S5 ?_ | refine S7 ?_ | refine S8 ?_))
    refine AW.condD rfl (fun h => absurd h hz) (fun _ => ?_)
    (repeat (first | refine K1 ?_ | refine K2 ?_ | refine K3 ?_ | refine K4 ?_ | refine K5 ?_ | refine K6 ?_ | refine K7 ?_ | refine L1 ?_ | refine L2 ?_ | refine L3 ?_ | refine RG.d ?_ | refine RG.dd ?_ | refine S1 ?_ | refine S2 ?_ | refine S3 ?_ | refine S4 ?_ | refine S5 ?_ | refine S7 ?_ | refine S8 ?_))
    refine AW.condD rfl (fun h => absurd h hn) (fun _ => ?_)
    (repeat (first | refine K1 ?_ | refine K2 ?_ | refine K3 ?_ | refine K4 ?_ | refine K5 ?_ | refine K6 ?_ | refine K7 ?_ | refine L1 ?_ | refine L2 ?_ | refine L3 ?_ | refine RG.d ?_ | refine RG.dd ?_ | refine S1 ?_ | refine S2 ?_ | refine S3 ?_ | refine S4 ?_ | refine S5 ?_ | refine S7 ?_ | refine S8 ?_))
    refine RG.call rfl rfl rfl rfl (c') [] rfl rfl rfl rfl (.nil _) (.nil _) (fun _ h => False.elim h) rfl (A.ren_free _ _ rfl) rfl ?_
    (repeat (first | refine K1 ?_ | refine K2 ?_ | refine K3 ?_ | refine K4 ?_ | refine K5 ?_ | refine K6 ?_ | refine K7 ?_ | refine L1 ?_ | refine L2 ?_ | refine L3 ?_ | refine RG.d ?_ | refine RG.dd ?_ | refine S1 ?_ | refine S2 ?_ | refine S3 ?_ | refine S4 ?_ | refine S5 ?_ | refine S6 ?_ | refine S7 ?_ | refine S8 ?_))
    exact ⟨⟨_, rfl, rfl⟩, rfl, .nil _⟩
end Go.Proofs.YtbhahgbdkgjliaaGreatDoor
