/- Fractions: the operations compute what rational numbers do. No conditions. -/
import Derived.Test.YtbhahgbdkgjliaaGreatDoorR4
import Derived.Test.YtbhahgbdkgjliaaGreatDoorRP3
set_option linter.unusedVariables false
set_option linter.unusedSimpArgs false
namespace Go.Proofs.YtbhahgbdkgjliaaGreatDoor
open Go.Abs Go Go.RowKit
def frA (n d : Int) : A := .agg [i64 n, i64 d]
def frQ (q : Rat) : A := frA q.num (q.den : Int)
theorem quoI (x y : Nat) (h : x < 9223372036854775808) : IntKind.i64.wrap ((x : Int).tdiv (y : Int)) = ((x / y : Nat) : Int) := by
  have hk : x / y ≤ x := Nat.div_le_self _ _
  rw [show ((x : Int).tdiv (y : Int)) = ((x / y : Nat) : Int) from rfl]
  obtain ⟨k, hk'⟩ : ∃ k, k = x / y := ⟨_, rfl⟩
  rw [← hk'] at hk ⊢
  rw [wrap_i64 (by omega)]
theorem div_bound (x y : Nat) {m : Nat} (h : x ≤ m) : x / y ≤ m := Nat.le_trans (Nat.div_le_self _ _) h
theorem mul_bound {x y : Nat} (hx : x ≤ 4611686018427387904) (hy : y ≤ 4611686018427387904) : x * y < 85070591730234615865843651857942052864 := Nat.lt_of_le_of_lt (Nat.mul_le_mul hx hy) (by decide)
set_option maxRecDepth 100000 in
set_option maxHeartbeats 8000000 in
theorem add_fc (a b : Rat) (ha : Rt.Fit a) (hb : Rt.Fit b) : FC Tryz.prog gi 35 [frQ a, frQ b] [] (rtA (Rt.res (a + b))) [] NoP := by
  have an := ha.num
  have ad := ha.den
  have bn := hb.num
  have bd := hb.den
  have ap := a.den_pos
  have bp := b.den_pos
  have av := Rt.add_num a b
  have aw := Rt.add_den a b
  have az := Rt.add_zero_iff a b
  have tv : Rt.tt a b = Rt.val (wplus (sgn a.num ((b.den / Nat.gcd a.den b.den : Nat) : Int)) (a.num.natAbs * (b.den / Nat.gcd a.den b.den)) (sgn b.num ((a.den / Nat.gcd a.den b.den : Nat) : Int)) (b.num.natAbs * (a.den / Nat.gcd a.den b.den))) := by
    rw [Rt.val_plus]
    have e1 := Rt.val_sgn a.num ((b.den / Nat.gcd a.den b.den : Nat) : Int)
    have e2 := Rt.val_sgn b.num ((a.den / Nat.gcd a.den b.den : Nat) : Int)
    rw [Int.natAbs_natCast] at e1 e2
    rw [e1, e2]; rfl
  have hhd : Rt.hh a b = (Rt.tt a b).natAbs.gcd (Nat.gcd a.den b.den) := rfl
  have gp : 0 < Nat.gcd a.den b.den := Nat.gcd_pos_of_pos_left _ ap
  have gl : Nat.gcd a.den b.den ≤ a.den := Nat.gcd_le_left _ ap
  have c1 := gcd_fc a.den b.den (by omega) (by omega)
  obtain ⟨g, hg⟩ : ∃ g, g = Nat.gcd a.den b.den := ⟨_, rfl⟩
  rw [← hg] at tv hhd gp gl c1 aw
  have b1 := div_bound b.den g bd
  have b2 := div_bound a.den g ad
  have c2 : FC Tryz.prog gi 45 [i64 a.num, i64 (IntKind.i64.wrap ((b.den : Int).tdiv (g : Int)))] [] (wdA (sgn a.num ((b.den / g : Nat) : Int)) (a.num.natAbs * (b.den / g))) [] NoP := by
    rw [quoI _ _ (by omega)]
    have := times_fc a.num ((b.den / g : Nat) : Int) (by omega) (by obtain ⟨k, hk⟩ : ∃ k, k = b.den / g := ⟨_, rfl⟩; rw [← hk] at b1 ⊢; omega)
    rwa [Int.natAbs_natCast] at this
  have c3 : FC Tryz.prog gi 45 [i64 b.num, i64 (IntKind.i64.wrap ((a.den : Int).tdiv (g : Int)))] [] (wdA (sgn b.num ((a.den / g : Nat) : Int)) (b.num.natAbs * (a.den / g))) [] NoP := by
    rw [quoI _ _ (by omega)]
    have := times_fc b.num ((a.den / g : Nat) : Int) (by omega) (by obtain ⟨k, hk⟩ : ∃ k, k = a.den / g := ⟨_, rfl⟩; rw [← hk] at b2 ⊢; omega)
    rwa [Int.natAbs_natCast] at this
  have m1 : a.num.natAbs * (b.den / g) < 85070591730234615865843651857942052864 := mul_bound (by omega) b1
  have m2 : b.num.natAbs * (a.den / g) < 85070591730234615865843651857942052864 := mul_bound (by omega) b2
  have c4 := plus_fc (sgn a.num ((b.den / g : Nat) : Int)) (sgn b.num ((a.den / g : Nat) : Int)) (a.num.natAbs * (b.den / g)) (b.num.natAbs * (a.den / g)) m1 m2
  obtain ⟨p, hp⟩ : ∃ p, p = wplus (sgn a.num ((b.den / g : Nat) : Int)) (a.num.natAbs * (b.den / g)) (sgn b.num ((a.den / g : Nat) : Int)) (b.num.natAbs * (a.den / g)) := ⟨_, rfl⟩
  have hpl : p.2 < 340282366920938463463374607431768211456 := by
    rw [hp]; unfold wplus
    split
    · show _ + _ < _; omega
    · split
      · show _ - _ < _; omega
      · show _ - _ < _; omega
  rw [← hp] at tv c4
  have hva := Rt.val_abs p
  rw [← tv] at hva
  have c5 := wzero_fc p.1 p.2
  by_cases hz : p.2 = 0
  · have e : a + b = 0 := az.1 (by rw [← Int.natAbs_eq_zero, hva, hz])
    rw [decide_eq_true hz] at c5
    rw [e, Rt.res_zero]
    refine FC.of_AW tok Tryz.func35 (by kernel_rfl) rfl Tryz.ntmps35 [] rfl rfl rfl ?_; intro w0 X0 Y f0 hI0 hX0
    (repeat (first | refine RG.skip rfl rfl rfl ?_ | refine RG.val tok rfl rfl rfl trivial rfl (iv_i64 (by omega)) ?_ | refine RG.val tok rfl rfl rfl trivial rfl (iv_u64 (by omega)) ?_ | refine RG.val tok rfl rfl rfl trivial rfl rfl ?_ | refine RG.val tok rfl rfl rfl (by omega) rfl rfl ?_ | refine RG.idx tok rfl rfl rfl rfl rfl rfl (Go.Abs.ints_at (by omega)) ⟨by omega, by omega⟩ rfl ?_ | refine RG.idx tok rfl rfl rfl rfl rfl rfl (Go.Abs.rows_at (by omega)) ⟨by omega, by omega⟩ rfl ?_ | refine RG.eqS eok rfl rfl rfl rfl rfl rfl rfl rfl rfl rfl rfl ?_ | refine RG.eqA eok rfl rfl rfl rfl rfl rfl rfl rfl rfl rfl rfl rfl ?_ | refine RG.load tok rfl rfl rfl rfl rfl rfl ?_ | refine RG.new tok rfl rfl rfl trivial rfl rfl ?_ | refine RG.store tok rfl rfl rfl rfl rfl rfl rfl rfl ?_ | refine RG.done rfl ?_ | refine RG.doneD (by kernel_rfl) rfl (by kernel_rfl) ?_ | refine AW.seq ?_ | refine AW.region ?_ | refine AW.skip ?_ | refine AW.block ?_ | refine AW.exit ?_ | refine AW.condT rfl ?_ | refine AW.condF rfl ?_))
    refine RG.callB rfl rfl rfl rfl (c1) [] [3] rfl rfl (.cons (View.sl (p := []) rfl (by decide) (by decide) rfl rfl) (.nil)) rfl rfl rfl (fun _ _ _ _ h => by simp at h) (.nil _) (.nil _) (fun _ h => False.elim h) rfl rfl rfl ?_
    (repeat (first | refine RG.call rfl rfl rfl rfl (c2) [] rfl rfl rfl rfl (.nil _) (.nil _) (fun _ h => False.elim h) rfl (A.ren_free _ _ rfl) rfl ?_ | refine RG.call rfl rfl rfl rfl (c3) [] rfl rfl rfl rfl (.nil _) (.nil _) (fun _ h => False.elim h) rfl (A.ren_free _ _ rfl) rfl ?_ | refine RG.call rfl rfl rfl rfl (c4) [] rfl rfl rfl rfl (.nil _) (.nil _) (fun _ h => False.elim h) rfl (A.ren_free _ _ rfl) rfl ?_ | refine RG.call rfl rfl rfl rfl (c5) [] rfl rfl rfl rfl (.nil _) (.nil _) (fun _ h => False.elim h) rfl (A.ren_free _ _ rfl) rfl ?_ | refine RG.call rfl rfl rfl rfl (zero_fc) [] rfl rfl rfl rfl (.nil _) (.nil _) (fun _ h => False.elim h) rfl (A.ren_free _ _ rfl) rfl ?_ | refine RG.skip rfl rfl rfl ?_ | refine RG.val tok rfl rfl rfl trivial rfl (iv_i64 (by omega)) ?_ | refine RG.val tok rfl rfl rfl trivial rfl (iv_u64 (by omega)) ?_ | refine RG.val tok rfl rfl rfl trivial rfl rfl ?_ | refine RG.val tok rfl rfl rfl (by omega) rfl rfl ?_ | refine RG.idx tok rfl rfl rfl rfl rfl rfl (Go.Abs.ints_at (by omega)) ⟨by omega, by omega⟩ rfl ?_ | refine RG.idx tok rfl rfl rfl rfl rfl rfl (Go.Abs.rows_at (by omega)) ⟨by omega, by omega⟩ rfl ?_ | refine RG.eqS eok rfl rfl rfl rfl rfl rfl rfl rfl rfl rfl rfl ?_ | refine RG.eqA eok rfl rfl rfl rfl rfl rfl rfl rfl rfl rfl rfl rfl ?_ | refine RG.load tok rfl rfl rfl rfl rfl rfl ?_ | refine RG.new tok rfl rfl rfl trivial rfl rfl ?_ | refine RG.store tok rfl rfl rfl rfl rfl rfl rfl rfl ?_ | refine RG.done rfl ?_ | refine RG.doneD (by kernel_rfl) rfl (by kernel_rfl) ?_ | refine AW.seq ?_ | refine AW.region ?_ | refine AW.skip ?_ | refine AW.block ?_ | refine AW.exit ?_ | refine AW.condT rfl ?_ | refine AW.condF rfl ?_))
    (repeat (first | refine RG.skip rfl rfl rfl ?_ | refine RG.val tok rfl rfl rfl trivial rfl (iv_i64 (by omega)) ?_ | refine RG.val tok rfl rfl rfl trivial rfl (iv_u64 (by omega)) ?_ | refine RG.val tok rfl rfl rfl trivial rfl rfl ?_ | refine RG.val tok rfl rfl rfl (by omega) rfl rfl ?_ | refine RG.idx tok rfl rfl rfl rfl rfl rfl (Go.Abs.ints_at (by omega)) ⟨by omega, by omega⟩ rfl ?_ | refine RG.idx tok rfl rfl rfl rfl rfl rfl (Go.Abs.rows_at (by omega)) ⟨by omega, by omega⟩ rfl ?_ | refine RG.eqS eok rfl rfl rfl rfl rfl rfl rfl rfl rfl rfl rfl ?_ | refine RG.eqA eok rfl rfl rfl rfl rfl rfl rfl rfl rfl rfl rfl rfl ?_ | refine RG.load tok rfl rfl rfl rfl rfl rfl ?_ | refine RG.new tok rfl rfl rfl trivial rfl rfl ?_ | refine RG.store tok rfl rfl rfl rfl rfl rfl rfl rfl ?_ | refine RG.done rfl ?_ | refine RG.doneD (by kernel_rfl) rfl (by kernel_rfl) ?_ | refine AW.seq ?_ | refine AW.region ?_ | refine AW.skip ?_ | refine AW.block ?_ | refine AW.exit ?_ | refine AW.ret ?_ | refine AW.condT rfl ?_ | refine AW.condF rfl ?_))
    exact ⟨⟨_, rfl, rfl⟩, rfl, .nil _⟩
  · rw [decide_eq_false hz] at c5
    have c7 := rem64_fc (p.2 / 18446744073709551616) (p.2 % 18446744073709551616) g (by omega) gp (by omega) (Nat.mod_lt _ (by decide))
    rw [show p.2 / 18446744073709551616 * 18446744073709551616 + p.2 % 18446744073709551616 = p.2 by omega] at c7
    have ml := Nat.mod_lt p.2 gp
    have c8 := gcd_fc (p.2 % g) g (by omega) (by omega)
    rw [Rt.gcd_mod, ← hva, ← hhd, hva] at c8
    have hp0 : 0 < Rt.hh a b := by rw [hhd]; exact Nat.gcd_pos_of_pos_right _ gp
    have hlg : Rt.hh a b ≤ g := by rw [hhd]; exact Nat.gcd_le_right _ gp
    obtain ⟨h, hh⟩ : ∃ h, h = Rt.hh a b := ⟨_, rfl⟩
    rw [← hh] at c8 hp0 hlg av aw
    have c9 := over_fc p.1 p.2 h hpl (by omega) hp0
    have b3 := div_bound b.den h bd
    have c10 : FC Tryz.prog gi 45 [i64 (IntKind.i64.wrap ((a.den : Int).tdiv (g : Int))), i64 (IntKind.i64.wrap ((b.den : Int).tdiv (h : Int)))] [] (wdA false ((a.den / g) * (b.den / h))) [] NoP := by
      rw [quoI _ _ (by omega), quoI _ _ (by omega)]
      have := times_fc ((a.den / g : Nat) : Int) ((b.den / h : Nat) : Int) (by obtain ⟨k, hk⟩ : ∃ k, k = a.den / g := ⟨_, rfl⟩; rw [← hk] at b2 ⊢; omega) (by obtain ⟨k, hk⟩ : ∃ k, k = b.den / h := ⟨_, rfl⟩; rw [← hk] at b3 ⊢; omega)
      rwa [Int.natAbs_natCast, Int.natAbs_natCast, Rt.sgn_nn (Int.natCast_nonneg _) (Int.natCast_nonneg _)] at this
    have c11 := made_fc p.1 (p.2 / h) ((a.den / g) * (b.den / h))
    rw [Rt.mkR_res (q := a + b) (by rw [av, tv]; exact Rt.tdiv_val p h) aw] at c11
    refine FC.of_AW tok Tryz.func35 (by kernel_rfl) rfl Tryz.ntmps35 [] rfl rfl rfl ?_; intro w0 X0 Y f0 hI0 hX0
    (repeat (first | refine RG.skip rfl rfl rfl ?_ | refine RG.val tok rfl rfl rfl trivial rfl (iv_i64 (by omega)) ?_ | refine RG.val tok rfl rfl rfl trivial rfl (iv_u64 (by omega)) ?_ | refine RG.val tok rfl rfl rfl trivial rfl rfl ?_ | refine RG.val tok rfl rfl rfl (by omega) rfl rfl ?_ | refine RG.idx tok rfl rfl rfl rfl rfl rfl (Go.Abs.ints_at (by omega)) ⟨by omega, by omega⟩ rfl ?_ | refine RG.idx tok rfl rfl rfl rfl rfl rfl (Go.Abs.rows_at (by omega)) ⟨by omega, by omega⟩ rfl ?_ | refine RG.eqS eok rfl rfl rfl rfl rfl rfl rfl rfl rfl rfl rfl ?_ | refine RG.eqA eok rfl rfl rfl rfl rfl rfl rfl rfl rfl rfl rfl rfl ?_ | refine RG.load tok rfl rfl rfl rfl rfl rfl ?_ | refine RG.new tok rfl rfl rfl trivial rfl rfl ?_ | refine RG.store tok rfl rfl rfl rfl rfl rfl rfl rfl ?_ | refine RG.done rfl ?_ | refine RG.doneD (by kernel_rfl) rfl (by kernel_rfl) ?_ | refine AW.seq ?_ | refine AW.region ?_ | refine AW.skip ?_ | refine AW.block ?_ | refine AW.exit ?_ | refine AW.condT rfl ?_ | refine AW.condF rfl ?_))
    refine RG.callB rfl rfl rfl rfl (c1) [] [3] rfl rfl (.cons (View.sl (p := []) rfl (by decide) (by decide) rfl rfl) (.nil)) rfl rfl rfl (fun _ _ _ _ h => by simp at h) (.nil _) (.nil _) (fun _ h => False.elim h) rfl rfl rfl ?_
    (repeat (first | refine RG.call rfl rfl rfl rfl (c2) [] rfl rfl rfl rfl (.nil _) (.nil _) (fun _ h => False.elim h) rfl (A.ren_free _ _ rfl) rfl ?_ | refine RG.call rfl rfl rfl rfl (c3) [] rfl rfl rfl rfl (.nil _) (.nil _) (fun _ h => False.elim h) rfl (A.ren_free _ _ rfl) rfl ?_ | refine RG.call rfl rfl rfl rfl (c4) [] rfl rfl rfl rfl (.nil _) (.nil _) (fun _ h => False.elim h) rfl (A.ren_free _ _ rfl) rfl ?_ | refine RG.call rfl rfl rfl rfl (c5) [] rfl rfl rfl rfl (.nil _) (.nil _) (fun _ h => False.elim h) rfl (A.ren_free _ _ rfl) rfl ?_ | refine RG.call rfl rfl rfl rfl (c7) [] rfl rfl rfl rfl (.nil _) (.nil _) (fun _ h => False.elim h) rfl (A.ren_free _ _ rfl) rfl ?_ | refine RG.skip rfl rfl rfl ?_ | refine RG.val tok rfl rfl rfl trivial rfl (iv_i64 (by omega)) ?_ | refine RG.val tok rfl rfl rfl trivial rfl (iv_u64 (by omega)) ?_ | refine RG.val tok rfl rfl rfl trivial rfl rfl ?_ | refine RG.val tok rfl rfl rfl (by omega) rfl rfl ?_ | refine RG.idx tok rfl rfl rfl rfl rfl rfl (Go.Abs.ints_at (by omega)) ⟨by omega, by omega⟩ rfl ?_ | refine RG.idx tok rfl rfl rfl rfl rfl rfl (Go.Abs.rows_at (by omega)) ⟨by omega, by omega⟩ rfl ?_ | refine RG.eqS eok rfl rfl rfl rfl rfl rfl rfl rfl rfl rfl rfl ?_ | refine RG.eqA eok rfl rfl rfl rfl rfl rfl rfl rfl rfl rfl rfl rfl ?_ | refine RG.load tok rfl rfl rfl rfl rfl rfl ?_ | refine RG.new tok rfl rfl rfl trivial rfl rfl ?_ | refine RG.store tok rfl rfl rfl rfl rfl rfl rfl rfl ?_ | refine RG.done rfl ?_ | refine RG.doneD (by kernel_rfl) rfl (by kernel_rfl) ?_ | refine AW.seq ?_ | refine AW.region ?_ | refine AW.skip ?_ | refine AW.block ?_ | refine AW.exit ?_ | refine AW.condT rfl ?_ | refine AW.condF rfl ?_))
    refine RG.callB rfl rfl rfl rfl (c8) [] [5] rfl rfl (.cons (View.sl (p := []) rfl (by decide) (by decide) rfl rfl) (.nil)) rfl rfl rfl (fun _ _ _ _ h => by simp at h) (.nil _) (.nil _) (fun _ h => False.elim h) rfl rfl rfl ?_
    (repeat (first | refine RG.call rfl rfl rfl rfl (c9) [] rfl rfl rfl rfl (.nil _) (.nil _) (fun _ h => False.elim h) rfl (A.ren_free _ _ rfl) rfl ?_ | refine RG.call rfl rfl rfl rfl (c10) [] rfl rfl rfl rfl (.nil _) (.nil _) (fun _ h => False.elim h) rfl (A.ren_free _ _ rfl) rfl ?_ | refine RG.call rfl rfl rfl rfl (c11) [] rfl rfl rfl rfl (.nil _) (.nil _) (fun _ h => False.elim h) rfl (A.ren_free _ _ rfl) rfl ?_ | refine RG.skip rfl rfl rfl ?_ | refine RG.val tok rfl rfl rfl trivial rfl (iv_i64 (by omega)) ?_ | refine RG.val tok rfl rfl rfl trivial rfl (iv_u64 (by omega)) ?_ | refine RG.val tok rfl rfl rfl trivial rfl rfl ?_ | refine RG.val tok rfl rfl rfl (by omega) rfl rfl ?_ | refine RG.idx tok rfl rfl rfl rfl rfl rfl (Go.Abs.ints_at (by omega)) ⟨by omega, by omega⟩ rfl ?_ | refine RG.idx tok rfl rfl rfl rfl rfl rfl (Go.Abs.rows_at (by omega)) ⟨by omega, by omega⟩ rfl ?_ | refine RG.eqS eok rfl rfl rfl rfl rfl rfl rfl rfl rfl rfl rfl ?_ | refine RG.eqA eok rfl rfl rfl rfl rfl rfl rfl rfl rfl rfl rfl rfl ?_ | refine RG.load tok rfl rfl rfl rfl rfl rfl ?_ | refine RG.new tok rfl rfl rfl trivial rfl rfl ?_ | refine RG.store tok rfl rfl rfl rfl rfl rfl rfl rfl ?_ | refine RG.done rfl ?_ | refine RG.doneD (by kernel_rfl) rfl (by kernel_rfl) ?_ | refine AW.seq ?_ | refine AW.region ?_ | refine AW.skip ?_ | refine AW.block ?_ | refine AW.exit ?_ | refine AW.condT rfl ?_ | refine AW.condF rfl ?_))
    (repeat (first | refine RG.skip rfl rfl rfl ?_ | refine RG.val tok rfl rfl rfl trivial rfl (iv_i64 (by omega)) ?_ | refine RG.val tok rfl rfl rfl trivial rfl (iv_u64 (by omega)) ?_ | refine RG.val tok rfl rfl rfl trivial rfl rfl ?_ | refine RG.val tok rfl rfl rfl (by omega) rfl rfl ?_ | refine RG.idx tok rfl rfl rfl rfl rfl rfl (Go.Abs.ints_at (by omega)) ⟨by omega, by omega⟩ rfl ?_ | refine RG.idx tok rfl rfl rfl rfl rfl rfl (Go.Abs.rows_at (by omega)) ⟨by omega, by omega⟩ rfl ?_ | refine RG.eqS eok rfl rfl rfl rfl rfl rfl rfl rfl rfl rfl rfl ?_ | refine RG.eqA eok rfl rfl rfl rfl rfl rfl rfl rfl rfl rfl rfl rfl ?_ | refine RG.load tok rfl rfl rfl rfl rfl rfl ?_ | refine RG.new tok rfl rfl rfl trivial rfl rfl ?_ | refine RG.store tok rfl rfl rfl rfl rfl rfl rfl rfl ?_ | refine RG.done rfl ?_ | refine RG.doneD (by kernel_rfl) rfl (by kernel_rfl) ?_ | refine AW.seq ?_ | refine AW.region ?_ | refine AW.skip ?_ | refine AW.block ?_ | refine AW.exit ?_ | refine AW.ret ?_ | refine AW.condT rfl ?_ | refine AW.condF rfl ?_))
    exact ⟨⟨_, rfl, rfl⟩, rfl, .nil _⟩
end Go.Proofs.YtbhahgbdkgjliaaGreatDoor
