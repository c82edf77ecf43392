/- The reference's operations on fractions. No conditions. -/
import Derived.Test.YtbhahgbdkgjliaaGreatDoorRB7
import Derived.Test.YtbhahgbdkgjliaaGreatDoorR6
import Derived.Test.YtbhahgbdkgjliaaGreatDoorRP4
import Derived.Test.YtbhahgbdkgjliaaGreatDoorR7
set_option linter.unusedVariables false
set_option linter.unusedSimpArgs false
namespace Go.Proofs.YtbhahgbdkgjliaaGreatDoor
open Go.Abs Go Go.RowKit
set_option maxRecDepth 100000
open Rb
set_option maxHeartbeats 8000000 in
theorem radd_fc (a b : Rat) (ha : Rt.Fit a) (hb : Rt.Fit b) : FC Tryz.prog gi 11 [frQ a, frQ b] [] (lawA (Rt.res (a + b))) [] NoP := by
  have an := ha.num
  have ad := ha.den
  have bn := hb.num
  have bd := hb.den
  have ap := a.den_pos
  have bp := b.den_pos
  have av := Rt.add_num a b
  have aw := Rt.add_den a b
  have az := Rt.add_zero_iff a b
  have tv : Rt.tt a b = Rt.val (wplus (sgn a.num ((b.den / Nat.gcd a.den b.den : Nat) : Int)) (a.num.natAbs * (b.den / Nat.gcd a.den b.den)) (sgn b.num ((a.den / Nat.gcd a.den b.den : Nat) : Int)) (b.num.natAbs * (a.den / Nat.gcd a.den b.den))) := by
    rw [Rt.val_plus]
    have e1 := Rt.val_sgn a.num ((b.den / Nat.gcd a.den b.den : Nat) : Int)
    have e2 := Rt.val_sgn b.num ((a.den / Nat.gcd a.den b.den : Nat) : Int)
    rw [Int.natAbs_natCast] at e1 e2
    rw [e1, e2]; rfl
  have hhd : Rt.hh a b = (Rt.tt a b).natAbs.gcd (Nat.gcd a.den b.den) := rfl
  have gp : 0 < Nat.gcd a.den b.den := Nat.gcd_pos_of_pos_left _ ap
  have gl : Nat.gcd a.den b.den ≤ a.den := Nat.gcd_le_left _ ap
  have c1 := gcd2_fc a.den b.den (by omega) (by omega)
  obtain ⟨g, hg⟩ : ∃ g, g = Nat.gcd a.den b.den := ⟨_, rfl⟩
  rw [← hg] at tv hhd gp gl c1 aw
  have b1 := div_bound b.den g bd
  have b2 := div_bound a.den g ad
  have c2 : FC Tryz.prog gi 37 [i64 a.num, i64 (IntKind.i64.wrap ((b.den : Int).tdiv (g : Int)))] [] (sgB (sgn a.num ((b.den / g : Nat) : Int)) (a.num.natAbs * (b.den / g))) [] NoP := by
    rw [quoI _ _ (by omega)]
    have := product_fc a.num ((b.den / g : Nat) : Int) (by omega) (by obtain ⟨k, hk⟩ : ∃ k, k = b.den / g := ⟨_, rfl⟩; rw [← hk] at b1 ⊢; omega)
    rwa [Int.natAbs_natCast] at this
  have c3 : FC Tryz.prog gi 37 [i64 b.num, i64 (IntKind.i64.wrap ((a.den : Int).tdiv (g : Int)))] [] (sgB (sgn b.num ((a.den / g : Nat) : Int)) (b.num.natAbs * (a.den / g))) [] NoP := by
    rw [quoI _ _ (by omega)]
    have := product_fc b.num ((a.den / g : Nat) : Int) (by omega) (by obtain ⟨k, hk⟩ : ∃ k, k = a.den / g := ⟨_, rfl⟩; rw [← hk] at b2 ⊢; omega)
    rwa [Int.natAbs_natCast] at this
  have m1 : a.num.natAbs * (b.den / g) < 85070591730234615865843651857942052864 := mul_bound (by omega) b1
  have m2 : b.num.natAbs * (a.den / g) < 85070591730234615865843651857942052864 := mul_bound (by omega) b2
  have c4 := ssum_fc (sgn a.num ((b.den / g : Nat) : Int)) (sgn b.num ((a.den / g : Nat) : Int)) (a.num.natAbs * (b.den / g)) (b.num.natAbs * (a.den / g)) m1 m2
  obtain ⟨p, hp⟩ : ∃ p, p = wplus (sgn a.num ((b.den / g : Nat) : Int)) (a.num.natAbs * (b.den / g)) (sgn b.num ((a.den / g : Nat) : Int)) (b.num.natAbs * (a.den / g)) := ⟨_, rfl⟩
  have hpl : p.2 < 170141183460469231731687303715884105728 := by
    rw [hp]; unfold wplus
    split
    · show _ + _ < _; omega
    · split
      · show _ - _ < _; omega
      · show _ - _ < _; omega
  rw [← hp] at tv c4
  have hva := Rt.val_abs p
  rw [← tv] at hva
  unfold sgP sgB at c4
  by_cases hz : p.2 = 0
  · have e : a + b = 0 := az.1 (by rw [← Int.natAbs_eq_zero, hva, hz])
    rw [hz, bL_zero] at c4
    rw [e, Rt.res_zero]
    refine FC.of_AW tok Tryz.func11 (by kernel_rfl) rfl Tryz.ntmps11 [] rfl rfl rfl ?_; intro w0 X0 Y f0 hI0 hX0
    (repeat (first | refine K1 ?_ | refine K2 ?_ | refine K3 ?_ | refine K4 ?_ | refine K5 ?_ | refine K6 ?_ | refine K7 ?_ | refine L1 ?_ | refine L2 ?_ | refine L3 ?_ | refine RG.d ?_ | refine RG.dd ?_ | refine S1 ?_ | refine S2 ?_ | refine S3 ?_ | refine S4 ?_ | refine S5 ?_ | refine S7 ?_ | refine S8 ?_))
    refine RG.call rfl rfl rfl rfl (c1) [] rfl rfl rfl rfl (.nil _) (.nil _) (fun _ h => False.elim h) rfl (A.ren_free _ _ rfl) rfl ?_
    (repeat (first | refine K1 ?_ | refine K2 ?_ | refine K3 ?_ | refine K4 ?_ | refine K5 ?_ | refine K6 ?_ | refine K7 ?_ | refine L1 ?_ | refine L2 ?_ | refine L3 ?_ | refine RG.d ?_ | refine RG.dd ?_ | refine S1 ?_ | refine S2 ?_ | refine S3 ?_ | refine S4 ?_ | refine S5 ?_ | refine S7 ?_ | refine S8 ?_))
    refine RG.call rfl rfl rfl rfl (c2) [] rfl rfl rfl rfl (.nil _) (.nil _) (fun _ h => False.elim h) rfl (A.ren_free _ _ rfl) rfl ?_
    (repeat (first | refine K1 ?_ | refine K2 ?_ | refine K3 ?_ | refine K4 ?_ | refine K5 ?_ | refine K6 ?_ | refine K7 ?_ | refine L1 ?_ | refine L2 ?_ | refine L3 ?_ | refine RG.d ?_ | refine RG.dd ?_ | refine S1 ?_ | refine S2 ?_ | refine S3 ?_ | refine S4 ?_ | refine S5 ?_ | refine S7 ?_ | refine S8 ?_))
    refine RG.call rfl rfl rfl rfl (c3) [] rfl rfl rfl rfl (.nil _) (.nil _) (fun _ h => False.elim h) rfl (A.ren_free _ _ rfl) rfl ?_
    (repeat (first | refine K1 ?_ | refine K2 ?_ | refine K3 ?_ | refine K4 ?_ | refine K5 ?_ | refine K6 ?_ | refine K7 ?_ | refine L1 ?_ | refine L2 ?_ | refine L3 ?_ | refine RG.d ?_ | refine RG.dd ?_ | refine S1 ?_ | refine S2 ?_ | refine S3 ?_ | refine S4 ?_ | refine S5 ?_ | refine S7 ?_ | refine S8 ?_))
    refine RG.call rfl rfl rfl rfl (c4) [] rfl rfl rfl rfl (.nil _) (.nil _) (fun _ h => False.elim h) rfl (A.ren_free _ _ rfl) rfl ?_
    (repeat (first | refine K1 ?_ | refine K2 ?_ | refine K3 ?_ | refine K4 ?_ | refine K5 ?_ | refine K6 ?_ | refine K7 ?_ | refine L1 ?_ | refine L2 ?_ | refine L3 ?_ | refine RG.d ?_ | refine RG.dd ?_ | refine S1 ?_ | refine S2 ?_ | refine S3 ?_ | refine S4 ?_ | refine S5 ?_ | refine S6 ?_ | refine S7 ?_ | refine S8 ?_))
    exact ⟨⟨_, rfl, rfl⟩, rfl, .nil _⟩
  · have hp2 : bL p.2 ≠ [] := fun h => hz (bL_nil.1 (by rw [h]; rfl))
    have hl0 : ¬ ((bL p.2).length : Int) = 0 := fun h => hz (bL_nil.1 (by omega))
    have l127 := bL_127 hpl
    have c7 := bdivide_fc (bL p.2) g (bL_isB _) (by omega) ⟨gp, by omega⟩
    rw [nv_bL] at c7
    have ml := Nat.mod_lt p.2 gp
    have c8 := gcd2_fc (p.2 % g) g (by omega) (by omega)
    rw [Rt.gcd_mod, ← hva, ← hhd, hva] at c8
    have hp0 : 0 < Rt.hh a b := by rw [hhd]; exact Nat.gcd_pos_of_pos_right _ gp
    have hlg : Rt.hh a b ≤ g := by rw [hhd]; exact Nat.gcd_le_right _ gp
    obtain ⟨h, hh⟩ : ∃ h, h = Rt.hh a b := ⟨_, rfl⟩
    rw [← hh] at c8 hp0 hlg av aw
    have c9 := bdivide_fc (bL p.2) h (bL_isB _) (by omega) ⟨hp0, by omega⟩
    rw [nv_bL] at c9
    have b3 := div_bound b.den h bd
    have c10 : FC Tryz.prog gi 41 [i64 (IntKind.i64.wrap ((a.den : Int).tdiv (g : Int)))] [] (rdb (bL (a.den / g))) [] NoP := by
      rw [quoI _ _ (by omega)]
      exact bits_fc (a.den / g) (by obtain ⟨k, hk⟩ : ∃ k, k = a.den / g := ⟨_, rfl⟩; rw [← hk] at b2 ⊢; omega)
    have c11 : FC Tryz.prog gi 41 [i64 (IntKind.i64.wrap ((b.den : Int).tdiv (h : Int)))] [] (rdb (bL (b.den / h))) [] NoP := by
      rw [quoI _ _ (by omega)]
      exact bits_fc (b.den / h) (by obtain ⟨k, hk⟩ : ∃ k, k = b.den / h := ⟨_, rfl⟩; rw [← hk] at b3 ⊢; omega)
    have m3 : (a.den / g) * (b.den / h) < 85070591730234615865843651857942052864 := mul_bound b2 b3
    have c12 := btimes_fc (bL (a.den / g)) (bL (b.den / h)) (bL_isB _) (bL_isB _) (by have := bL_127 (m := a.den / g) (by obtain ⟨k, hk⟩ : ∃ k, k = a.den / g := ⟨_, rfl⟩; rw [← hk] at b2 ⊢; omega); omega) (by have := bL_127 (m := b.den / h) (by obtain ⟨k, hk⟩ : ∃ k, k = b.den / h := ⟨_, rfl⟩; rw [← hk] at b3 ⊢; omega); omega)
    rw [nv_bL, nv_bL] at c12
    have hpd : p.2 / h ≤ p.2 := Nat.div_le_self _ _
    have c13 := rmade14_fc p.1 (p.2 / h) ((a.den / g) * (b.den / h)) (Nat.lt_of_le_of_lt hpd hpl) (by obtain ⟨k, hk⟩ : ∃ k, k = (a.den / g) * (b.den / h) := ⟨_, rfl⟩; rw [← hk] at m3 ⊢; omega)
    rw [Rt.mkR_res (q := a + b) (by rw [av, tv]; exact Rt.tdiv_val p h) aw] at c13
    unfold sgB at c13
    obtain ⟨P, hP⟩ : ∃ P, P = bL p.2 := ⟨_, rfl⟩
    rw [← hP] at c4 c7 c9 hl0
    refine FC.of_AW tok Tryz.func11 (by kernel_rfl) rfl Tryz.ntmps11 [] rfl rfl rfl ?_; intro w0 X0 Y f0 hI0 hX0
    (repeat (first | refine K1 ?_ | refine K2 ?_ | refine K3 ?_ | refine K4 ?_ | refine K5 ?_ | refine K6 ?_ | refine K7 ?_ | refine L1 ?_ | refine L2 ?_ | refine L3 ?_ | refine RG.d ?_ | refine RG.dd ?_ | refine S1 ?_ | refine S2 ?_ | refine S3 ?_ | refine S4 ?_ | refine S5 ?_ | refine S7 ?_ | refine S8 ?_))
    refine RG.call rfl rfl rfl rfl (c1) [] rfl rfl rfl rfl (.nil _) (.nil _) (fun _ h => False.elim h) rfl (A.ren_free _ _ rfl) rfl ?_
    (repeat (first | refine K1 ?_ | refine K2 ?_ | refine K3 ?_ | refine K4 ?_ | refine K5 ?_ | refine K6 ?_ | refine K7 ?_ | refine L1 ?_ | refine L2 ?_ | refine L3 ?_ | refine RG.d ?_ | refine RG.dd ?_ | refine S1 ?_ | refine S2 ?_ | refine S3 ?_ | refine S4 ?_ | refine S5 ?_ | refine S7 ?_ | refine S8 ?_))
    refine RG.call rfl rfl rfl rfl (c2) [] rfl rfl rfl rfl (.nil _) (.nil _) (fun _ h => False.elim h) rfl (A.ren_free _ _ rfl) rfl ?_
    (repeat (first | refine K1 ?_ | refine K2 ?_ | refine K3 ?_ | refine K4 ?_ | refine K5 ?_ | refine K6 ?_ | refine K7 ?_ | refine L1 ?_ | refine L2 ?_ | refine L3 ?_ | refine RG.d ?_ | refine RG.dd ?_ | refine S1 ?_ | refine S2 ?_ | refine S3 ?_ | refine S4 ?_ | refine S5 ?_ | refine S7 ?_ | refine S8 ?_))
    refine RG.call rfl rfl rfl rfl (c3) [] rfl rfl rfl rfl (.nil _) (.nil _) (fun _ h => False.elim h) rfl (A.ren_free _ _ rfl) rfl ?_
    (repeat (first | refine K1 ?_ | refine K2 ?_ | refine K3 ?_ | refine K4 ?_ | refine K5 ?_ | refine K6 ?_ | refine K7 ?_ | refine L1 ?_ | refine L2 ?_ | refine L3 ?_ | refine RG.d ?_ | refine RG.dd ?_ | refine S1 ?_ | refine S2 ?_ | refine S3 ?_ | refine S4 ?_ | refine S5 ?_ | refine S7 ?_ | refine S8 ?_))
    refine RG.call rfl rfl rfl rfl (c4) [] rfl rfl rfl rfl (.nil _) (.nil _) (fun _ h => False.elim h) rfl (A.ren_free _ _ rfl) rfl ?_
    (repeat (first | refine K1 ?_ | refine K2 ?_ | refine K3 ?_ | refine K4 ?_ | refine K5 ?_ | refine K6 ?_ | refine K7 ?_ | refine L1 ?_ | refine L2 ?_ | refine L3 ?_ | refine RG.d ?_ | refine RG.dd ?_ | refine S1 ?_ | refine S2 ?_ | refine S3 ?_ | refine S4 ?_ | refine S5 ?_ | refine S7 ?_ | refine S8 ?_))
    refine AW.condD rfl (fun k => absurd k hl0) (fun _ => ?_)
    (repeat (first | refine K1 ?_ | refine K2 ?_ | refine K3 ?_ | refine K4 ?_ | refine K5 ?_ | refine K6 ?_ | refine K7 ?_ | refine L1 ?_ | refine L2 ?_ | refine L3 ?_ | refine RG.d ?_ | refine RG.dd ?_ | refine S1 ?_ | refine S2 ?_ | refine S3 ?_ | refine S4 ?_ | refine S5 ?_ | refine S7 ?_ | refine S8 ?_))
    refine RG.call rfl rfl rfl rfl (c7) [] rfl rfl rfl rfl (.nil _) (.nil _) (fun _ h => False.elim h) rfl (A.ren_free _ _ rfl) rfl ?_
    (repeat (first | refine K1 ?_ | refine K2 ?_ | refine K3 ?_ | refine K4 ?_ | refine K5 ?_ | refine K6 ?_ | refine K7 ?_ | refine L1 ?_ | refine L2 ?_ | refine L3 ?_ | refine RG.d ?_ | refine RG.dd ?_ | refine S1 ?_ | refine S2 ?_ | refine S3 ?_ | refine S4 ?_ | refine S5 ?_ | refine S7 ?_ | refine S8 ?_))
    refine RG.call rfl rfl rfl rfl (c8) [] rfl rfl rfl rfl (.nil _) (.nil _) (fun _ h => False.elim h) rfl (A.ren_free _ _ rfl) rfl ?_
    (repeat (first | refine K1 ?_ | refine K2 ?_ | refine K3 ?_ | refine K4 ?_ | refine K5 ?_ | refine K6 ?_ | refine K7 ?_ | refine L1 ?_ | refine L2 ?_ | refine L3 ?_ | refine RG.d ?_ | refine RG.dd ?_ | refine S1 ?_ | refine S2 ?_ | refine S3 ?_ | refine S4 ?_ | refine S5 ?_ | refine S7 ?_ | refine S8 ?_))
    refine RG.call rfl rfl rfl rfl (c9) [] rfl rfl rfl rfl (.nil _) (.nil _) (fun _ h => False.elim h) rfl (A.ren_free _ _ rfl) rfl ?_
    (repeat (first | refine K1 ?_ | refine K2 ?_ | refine K3 ?_ | refine K4 ?_ | refine K5 ?_ | refine K6 ?_ | refine K7 ?_ | refine L1 ?_ | refine L2 ?_ | refine L3 ?_ | refine RG.d ?_ | refine RG.dd ?_ | refine S1 ?_ | refine S2 ?_ | refine S3 ?_ | refine S4 ?_ | refine S5 ?_ | refine S7 ?_ | refine S8 ?_))
    refine RG.call rfl rfl rfl rfl (c10) [] rfl rfl rfl rfl (.nil _) (.nil _) (fun _ h => False.elim h) rfl (A.ren_free _ _ rfl) rfl ?_
    (repeat (first | refine K1 ?_ | refine K2 ?_ | refine K3 ?_ | refine K4 ?_ | refine K5 ?_ | refine K6 ?_ | refine K7 ?_ | refine L1 ?_ | refine L2 ?_ | refine L3 ?_ | refine RG.d ?_ | refine RG.dd ?_ | refine S1 ?_ | refine S2 ?_ | refine S3 ?_ | refine S4 ?_ | refine S5 ?_ | refine S7 ?_ | refine S8 ?_))
    refine RG.call rfl rfl rfl rfl (c11) [] rfl rfl rfl rfl (.nil _) (.nil _) (fun _ h => False.elim h) rfl (A.ren_free _ _ rfl) rfl ?_
    (repeat (first | refine K1 ?_ | refine K2 ?_ | refine K3 ?_ | refine K4 ?_ | refine K5 ?_ | refine K6 ?_ | refine K7 ?_ | refine L1 ?_ | refine L2 ?_ | refine L3 ?_ | refine RG.d ?_ | refine RG.dd ?_ | refine S1 ?_ | refine S2 ?_ | refine S3 ?_ | refine S4 ?_ | refine S5 ?_ | refine S7 ?_ | refine S8 ?_))
    refine RG.call rfl rfl rfl rfl (c12) [] rfl rfl rfl rfl (.nil _) (.nil _) (fun _ h => False.elim h) rfl (A.ren_free _ _ rfl) rfl ?_
    (repeat (first | refine K1 ?_ | refine K2 ?_ | refine K3 ?_ | refine K4 ?_ | refine K5 ?_ | refine K6 ?_ | refine K7 ?_ | refine L1 ?_ | refine L2 ?_ | refine L3 ?_ | refine RG.d ?_ | refine RG.dd ?_ | refine S1 ?_ | refine S2 ?_ | refine S3 ?_ | refine S4 ?_ | refine S5 ?_ | refine S7 ?_ | refine S8 ?_))
    refine RG.call rfl rfl rfl rfl (c13) [] rfl rfl rfl rfl (.nil _) (.nil _) (fun _ h => False.elim h) rfl (A.ren_free _ _ rfl) rfl ?_
    (repeat (first | refine K1 ?_ | refine K2 ?_ | refine K3 ?_ | refine K4 ?_ | refine K5 ?_ | refine K6 ?_ | refine K7 ?_ | refine L1 ?_ | refine L2 ?_ | refine L3 ?_ | refine RG.d ?_ | refine RG.dd ?_ | refine S1 ?_ | refine S2 ?_ | refine S3 ?_ | refine S4 ?_ | refine S5 ?_ | refine S6 ?_ | refine S7 ?_ | refine S8 ?_))
    exact ⟨⟨_, rfl, rfl⟩, rfl, .nil _⟩
theorem rsub_fc (a b : Rat) (ha : Rt.Fit a) (hb : Rt.Fit b) : FC Tryz.prog gi 13 [frQ a, frQ b] [] (lawA (Rt.res (a - b))) [] NoP := by
  have bn := hb.num
  have c : FC Tryz.prog gi 11 [frQ a, frA (0 - b.num) (b.den : Int)] [] (lawA (Rt.res (a - b))) [] NoP := by
    rw [show (0 - b.num) = -b.num by omega, Rat.sub_eq_add_neg]
    exact radd_fc a (-b) ha hb.neg
  refine FC.of_AW tok Tryz.func13 (by kernel_rfl) rfl Tryz.ntmps13 [] rfl rfl rfl ?_; intro w0 X0 Y f0 hI0 hX0
  (repeat (first | refine K1 ?_ | refine K2 ?_ | refine K3 ?_ | refine K4 ?_ | refine K5 ?_ | refine K6 ?_ | refine K7 ?_ | refine L1 ?_ | refine L2 ?_ | refine L3 ?_ | refine RG.d ?_ | refine RG.dd ?_ | refine S1 ?_ | refine S2 ?_ | refine S3 ?_ | refine S4 ?_ | refine S5 ?_ | refine S7 ?_ | refine S8 ?_))
  refine RG.call rfl rfl rfl rfl (c) [] rfl rfl rfl rfl (.nil _) (.nil _) (fun _ h => False.elim h) rfl (A.ren_free _ _ rfl) rfl ?_
  (repeat (first | refine K1 ?_ | refine K2 ?_ | refine K3 ?_ | refine K4 ?_ | refine K5 ?_ | refine K6 ?_ | refine K7 ?_ | refine L1 ?_ | refine L2 ?_ | refine L3 ?_ | refine RG.d ?_ | refine RG.dd ?_ | refine S1 ?_ | refine S2 ?_ | refine S3 ?_ | refine S4 ?_ | refine S5 ?_ | refine S6 ?_ | refine S7 ?_ | refine S8 ?_))
  exact ⟨⟨_, rfl, rfl⟩, rfl, .nil _⟩
end Go.Proofs.YtbhahgbdkgjliaaGreatDoor
