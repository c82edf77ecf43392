/- Fractions: comparisons, least and greatest, validity. No conditions. -/
import Derived.Test.YtbhahgbdkgjliaaGreatDoorR6
import Derived.Test.YtbhahgbdkgjliaaGreatDoorR7a
set_option linter.unusedVariables false
set_option linter.unusedSimpArgs false
namespace Go.Proofs.YtbhahgbdkgjliaaGreatDoor
open Go.Abs Go Go.RowKit
theorem veq2 {k k' : IntKind} {a b c d : Int} : veqL [.int k a, .int k' b] [.int k c, .int k' d] = true ↔ a = c ∧ b = d := by simp [veqL, veq]
theorem veq2Q {a b : Rat} : veqL [.int .i64 a.num, .int .i64 (a.den : Int)] [.int .i64 b.num, .int .i64 (b.den : Int)] = true ↔ a = b := by
  rw [veq2]
  constructor
  · rintro ⟨h1, h2⟩; exact Rat.ext h1 (by omega)
  · rintro rfl; exact ⟨rfl, rfl⟩
set_option maxRecDepth 100000 in
set_option maxHeartbeats 8000000 in
theorem cmp_fc (a b : Rat) (ha : Rt.Fit a) (hb : Rt.Fit b) : FC Tryz.prog gi 18 [frQ a, frQ b] [] (i64 (Rt.cmp a b)) [] NoP := by
  have an := ha.num
  have ad := ha.den
  have bn := hb.num
  have bd := hb.den
  by_cases he : a = b
  · rw [show Rt.cmp a b = 0 by rw [he]; exact Rt.cmp_self b]
    refine FC.of_AW tok Tryz.func18 (by kernel_rfl) rfl Tryz.ntmps18 [] rfl rfl rfl ?_; intro w0 X0 Y f0 hI0 hX0
    (repeat (first | refine RG.skip rfl rfl rfl ?_ | refine RG.val tok rfl rfl rfl trivial rfl (iv_i64 (by omega)) ?_ | refine RG.val tok rfl rfl rfl trivial rfl (iv_u64 (by omega)) ?_ | refine RG.val tok rfl rfl rfl trivial rfl rfl ?_ | refine RG.val tok rfl rfl rfl (by omega) rfl rfl ?_ | refine RG.idx tok rfl rfl rfl rfl rfl rfl (Go.Abs.ints_at (by omega)) ⟨by omega, by omega⟩ rfl ?_ | refine RG.idx tok rfl rfl rfl rfl rfl rfl (Go.Abs.rows_at (by omega)) ⟨by omega, by omega⟩ rfl ?_ | refine RG.eqS eok rfl rfl rfl rfl rfl rfl rfl rfl rfl rfl rfl ?_ | refine RG.eqA eok rfl rfl rfl rfl rfl rfl rfl rfl rfl rfl rfl rfl ?_ | refine RG.load tok rfl rfl rfl rfl rfl rfl ?_ | refine RG.new tok rfl rfl rfl trivial rfl rfl ?_ | refine RG.store tok rfl rfl rfl rfl rfl rfl rfl rfl ?_ | refine RG.done rfl ?_ | refine RG.doneD (by kernel_rfl) rfl (by kernel_rfl) ?_ | refine AW.seq ?_ | refine AW.region ?_ | refine AW.skip ?_ | refine AW.block ?_ | refine AW.exit ?_ | refine AW.condT rfl ?_ | refine AW.condF rfl ?_))
    refine AW.cond rfl (fun _ => ?_) (fun h => absurd (veq2Q.2 he) (by rw [show veqL _ _ = false from h]; decide))
    (repeat (first | refine RG.skip rfl rfl rfl ?_ | refine RG.val tok rfl rfl rfl trivial rfl (iv_i64 (by omega)) ?_ | refine RG.val tok rfl rfl rfl trivial rfl (iv_u64 (by omega)) ?_ | refine RG.val tok rfl rfl rfl trivial rfl rfl ?_ | refine RG.val tok rfl rfl rfl (by omega) rfl rfl ?_ | refine RG.idx tok rfl rfl rfl rfl rfl rfl (Go.Abs.ints_at (by omega)) ⟨by omega, by omega⟩ rfl ?_ | refine RG.idx tok rfl rfl rfl rfl rfl rfl (Go.Abs.rows_at (by omega)) ⟨by omega, by omega⟩ rfl ?_ | refine RG.eqS eok rfl rfl rfl rfl rfl rfl rfl rfl rfl rfl rfl ?_ | refine RG.eqA eok rfl rfl rfl rfl rfl rfl rfl rfl rfl rfl rfl rfl ?_ | refine RG.load tok rfl rfl rfl rfl rfl rfl ?_ | refine RG.new tok rfl rfl rfl trivial rfl rfl ?_ | refine RG.store tok rfl rfl rfl rfl rfl rfl rfl rfl ?_ | refine RG.done rfl ?_ | refine RG.doneD (by kernel_rfl) rfl (by kernel_rfl) ?_ | refine AW.seq ?_ | refine AW.region ?_ | refine AW.skip ?_ | refine AW.block ?_ | refine AW.exit ?_ | refine AW.ret ?_ | refine AW.condT rfl ?_ | refine AW.condF rfl ?_))
    exact ⟨⟨_, rfl, rfl⟩, rfl, .nil _⟩
  have c1 := times_fc b.num (a.den : Int) (by omega) (by omega)
  have c2 := times_fc a.num (b.den : Int) (by omega) (by omega)
  rw [Int.natAbs_natCast] at c1 c2
  have e1 := Rt.val_sgn b.num (a.den : Int)
  have e2 := Rt.val_sgn a.num (b.den : Int)
  rw [Int.natAbs_natCast] at e1 e2
  have m1 : b.num.natAbs * a.den < 85070591730234615865843651857942052864 := mul_bound (by omega) (by omega)
  have m2 : a.num.natAbs * b.den < 85070591730234615865843651857942052864 := mul_bound (by omega) (by omega)
  obtain ⟨s1, hs1⟩ : ∃ s, s = sgn b.num (a.den : Int) := ⟨_, rfl⟩
  obtain ⟨s2, hs2⟩ : ∃ s, s = sgn a.num (b.den : Int) := ⟨_, rfl⟩
  obtain ⟨k1, hk1⟩ : ∃ k, k = b.num.natAbs * a.den := ⟨_, rfl⟩
  obtain ⟨k2, hk2⟩ : ∃ k, k = a.num.natAbs * b.den := ⟨_, rfl⟩
  rw [← hs1, ← hk1] at c1 e1
  rw [← hs2, ← hk2] at c2 e2
  rw [← hk1] at m1
  rw [← hk2] at m2
  have c3 := plus_fc s2 (!s1) k2 k1 m2 m1
  have e3 := Rt.val_plus s2 (!s1) k2 k1
  have e4 : Rt.val (!s1, k1) = -Rt.val (s1, k1) := by unfold Rt.val; cases s1 <;> simp
  rw [e4, e2, e1] at e3
  obtain ⟨p, hp⟩ : ∃ p, p = wplus s2 k2 (!s1) k1 := ⟨_, rfl⟩
  rw [← hp] at c3 e3
  have hne : a.num * (b.den : Int) ≠ b.num * (a.den : Int) := fun h => he (Rat.eq_iff_mul_eq_mul.2 h)
  have hlt : a < b ↔ p.1 = true := by
    rw [Rat.lt_iff]
    have hv : Rt.val p = a.num * (b.den : Int) + -(b.num * (a.den : Int)) := e3
    unfold Rt.val at hv
    obtain ⟨q1, q2⟩ := p
    dsimp only at hv ⊢
    cases q1
    · rw [if_neg (by decide)] at hv
      constructor
      · intro h; omega
      · intro h; cases h
    · rw [if_pos rfl] at hv
      constructor
      · intro _; rfl
      · intro _; omega
  have hcmp : Rt.cmp a b = if p.1 = true then -1 else 1 := by
    unfold Rt.cmp
    rw [if_neg he]
    by_cases h : a < b
    · rw [if_pos h, if_pos (hlt.1 h)]
    · rw [if_neg h, if_neg (fun h2 => h (hlt.2 h2))]
  rw [hcmp]
  refine FC.of_AW tok Tryz.func18 (by kernel_rfl) rfl Tryz.ntmps18 [] rfl rfl rfl ?_; intro w0 X0 Y f0 hI0 hX0
  (repeat (first | refine RG.skip rfl rfl rfl ?_ | refine RG.val tok rfl rfl rfl trivial rfl (iv_i64 (by omega)) ?_ | refine RG.val tok rfl rfl rfl trivial rfl (iv_u64 (by omega)) ?_ | refine RG.val tok rfl rfl rfl trivial rfl rfl ?_ | refine RG.val tok rfl rfl rfl (by omega) rfl rfl ?_ | refine RG.idx tok rfl rfl rfl rfl rfl rfl (Go.Abs.ints_at (by omega)) ⟨by omega, by omega⟩ rfl ?_ | refine RG.idx tok rfl rfl rfl rfl rfl rfl (Go.Abs.rows_at (by omega)) ⟨by omega, by omega⟩ rfl ?_ | refine RG.eqS eok rfl rfl rfl rfl rfl rfl rfl rfl rfl rfl rfl ?_ | refine RG.eqA eok rfl rfl rfl rfl rfl rfl rfl rfl rfl rfl rfl rfl ?_ | refine RG.load tok rfl rfl rfl rfl rfl rfl ?_ | refine RG.new tok rfl rfl rfl trivial rfl rfl ?_ | refine RG.store tok rfl rfl rfl rfl rfl rfl rfl rfl ?_ | refine RG.done rfl ?_ | refine RG.doneD (by kernel_rfl) rfl (by kernel_rfl) ?_ | refine AW.seq ?_ | refine AW.region ?_ | refine AW.skip ?_ | refine AW.block ?_ | refine AW.exit ?_ | refine AW.condT rfl ?_ | refine AW.condF rfl ?_))
  refine AW.cond rfl (fun h => absurd (veq2Q.1 h) he) (fun _ => ?_)
  (repeat (first | refine RG.call rfl rfl rfl rfl (c1) [] rfl rfl rfl rfl (.nil _) (.nil _) (fun _ h => False.elim h) rfl (A.ren_free _ _ rfl) rfl ?_ | refine RG.call rfl rfl rfl rfl (c2) [] rfl rfl rfl rfl (.nil _) (.nil _) (fun _ h => False.elim h) rfl (A.ren_free _ _ rfl) rfl ?_ | refine RG.call rfl rfl rfl rfl (c3) [] rfl rfl rfl rfl (.nil _) (.nil _) (fun _ h => False.elim h) rfl (A.ren_free _ _ rfl) rfl ?_ | refine RG.skip rfl rfl rfl ?_ | refine RG.val tok rfl rfl rfl trivial rfl (iv_i64 (by omega)) ?_ | refine RG.val tok rfl rfl rfl trivial rfl (iv_u64 (by omega)) ?_ | refine RG.val tok rfl rfl rfl trivial rfl rfl ?_ | refine RG.val tok rfl rfl rfl (by omega) rfl rfl ?_ | refine RG.idx tok rfl rfl rfl rfl rfl rfl (Go.Abs.ints_at (by omega)) ⟨by omega, by omega⟩ rfl ?_ | refine RG.idx tok rfl rfl rfl rfl rfl rfl (Go.Abs.rows_at (by omega)) ⟨by omega, by omega⟩ rfl ?_ | refine RG.eqS eok rfl rfl rfl rfl rfl rfl rfl rfl rfl rfl rfl ?_ | refine RG.eqA eok rfl rfl rfl rfl rfl rfl rfl rfl rfl rfl rfl rfl ?_ | refine RG.load tok rfl rfl rfl rfl rfl rfl ?_ | refine RG.new tok rfl rfl rfl trivial rfl rfl ?_ | refine RG.store tok rfl rfl rfl rfl rfl rfl rfl rfl ?_ | refine RG.done rfl ?_ | refine RG.doneD (by kernel_rfl) rfl (by kernel_rfl) ?_ | refine AW.seq ?_ | refine AW.region ?_ | refine AW.skip ?_ | refine AW.block ?_ | refine AW.exit ?_ | refine AW.condT rfl ?_ | refine AW.condF rfl ?_))
  refine AW.cond rfl (fun h => ?_) (fun h => ?_)
  · rw [if_pos h]
    (repeat (first | refine RG.skip rfl rfl rfl ?_ | refine RG.val tok rfl rfl rfl trivial rfl (iv_i64 (by omega)) ?_ | refine RG.val tok rfl rfl rfl trivial rfl (iv_u64 (by omega)) ?_ | refine RG.val tok rfl rfl rfl trivial rfl rfl ?_ | refine RG.val tok rfl rfl rfl (by omega) rfl rfl ?_ | refine RG.idx tok rfl rfl rfl rfl rfl rfl (Go.Abs.ints_at (by omega)) ⟨by omega, by omega⟩ rfl ?_ | refine RG.idx tok rfl rfl rfl rfl rfl rfl (Go.Abs.rows_at (by omega)) ⟨by omega, by omega⟩ rfl ?_ | refine RG.eqS eok rfl rfl rfl rfl rfl rfl rfl rfl rfl rfl rfl ?_ | refine RG.eqA eok rfl rfl rfl rfl rfl rfl rfl rfl rfl rfl rfl rfl ?_ | refine RG.load tok rfl rfl rfl rfl rfl rfl ?_ | refine RG.new tok rfl rfl rfl trivial rfl rfl ?_ | refine RG.store tok rfl rfl rfl rfl rfl rfl rfl rfl ?_ | refine RG.done rfl ?_ | refine RG.doneD (by kernel_rfl) rfl (by kernel_rfl) ?_ | refine AW.seq ?_ | refine AW.region ?_ | refine AW.skip ?_ | refine AW.block ?_ | refine AW.exit ?_ | refine AW.ret ?_ | refine AW.condT rfl ?_ | refine AW.condF rfl ?_))
    exact ⟨⟨_, rfl, rfl⟩, rfl, .nil _⟩
  · rw [if_neg (by rw [h]; decide)]
    (repeat (first | refine RG.skip rfl rfl rfl ?_ | refine RG.val tok rfl rfl rfl trivial rfl (iv_i64 (by omega)) ?_ | refine RG.val tok rfl rfl rfl trivial rfl (iv_u64 (by omega)) ?_ | refine RG.val tok rfl rfl rfl trivial rfl rfl ?_ | refine RG.val tok rfl rfl rfl (by omega) rfl rfl ?_ | refine RG.idx tok rfl rfl rfl rfl rfl rfl (Go.Abs.ints_at (by omega)) ⟨by omega, by omega⟩ rfl ?_ | refine RG.idx tok rfl rfl rfl rfl rfl rfl (Go.Abs.rows_at (by omega)) ⟨by omega, by omega⟩ rfl ?_ | refine RG.eqS eok rfl rfl rfl rfl rfl rfl rfl rfl rfl rfl rfl ?_ | refine RG.eqA eok rfl rfl rfl rfl rfl rfl rfl rfl rfl rfl rfl rfl ?_ | refine RG.load tok rfl rfl rfl rfl rfl rfl ?_ | refine RG.new tok rfl rfl rfl trivial rfl rfl ?_ | refine RG.store tok rfl rfl rfl rfl rfl rfl rfl rfl ?_ | refine RG.done rfl ?_ | refine RG.doneD (by kernel_rfl) rfl (by kernel_rfl) ?_ | refine AW.seq ?_ | refine AW.region ?_ | refine AW.skip ?_ | refine AW.block ?_ | refine AW.exit ?_ | refine AW.ret ?_ | refine AW.condT rfl ?_ | refine AW.condF rfl ?_))
    exact ⟨⟨_, rfl, rfl⟩, rfl, .nil _⟩
theorem min_fc (a b : Rat) (ha : Rt.Fit a) (hb : Rt.Fit b) : FC Tryz.prog gi 22 [frQ a, frQ b] [] (frQ (Rt.mn a b)) [] NoP := by
  have c := cmp_fc b a hb ha
  unfold Rt.mn
  by_cases h : b < a
  · rw [if_pos h]
    rw [Rt.cmp_lt h] at c
    refine FC.of_AW tok Tryz.func22 (by kernel_rfl) rfl Tryz.ntmps22 [] rfl rfl rfl ?_; intro w0 X0 Y f0 hI0 hX0
    (repeat (first | refine RG.call rfl rfl rfl rfl (c) [] rfl rfl rfl rfl (.nil _) (.nil _) (fun _ h => False.elim h) rfl (A.ren_free _ _ rfl) rfl ?_ | refine RG.skip rfl rfl rfl ?_ | refine RG.val tok rfl rfl rfl trivial rfl (iv_i64 (by omega)) ?_ | refine RG.val tok rfl rfl rfl trivial rfl (iv_u64 (by omega)) ?_ | refine RG.val tok rfl rfl rfl trivial rfl rfl ?_ | refine RG.val tok rfl rfl rfl (by omega) rfl rfl ?_ | refine RG.idx tok rfl rfl rfl rfl rfl rfl (Go.Abs.ints_at (by omega)) ⟨by omega, by omega⟩ rfl ?_ | refine RG.idx tok rfl rfl rfl rfl rfl rfl (Go.Abs.rows_at (by omega)) ⟨by omega, by omega⟩ rfl ?_ | refine RG.eqS eok rfl rfl rfl rfl rfl rfl rfl rfl rfl rfl rfl ?_ | refine RG.eqA eok rfl rfl rfl rfl rfl rfl rfl rfl rfl rfl rfl rfl ?_ | refine RG.load tok rfl rfl rfl rfl rfl rfl ?_ | refine RG.new tok rfl rfl rfl trivial rfl rfl ?_ | refine RG.store tok rfl rfl rfl rfl rfl rfl rfl rfl ?_ | refine RG.done rfl ?_ | refine RG.doneD (by kernel_rfl) rfl (by kernel_rfl) ?_ | refine AW.seq ?_ | refine AW.region ?_ | refine AW.skip ?_ | refine AW.block ?_ | refine AW.exit ?_ | refine AW.condT rfl ?_ | refine AW.condF rfl ?_))
    (repeat (first | refine RG.skip rfl rfl rfl ?_ | refine RG.val tok rfl rfl rfl trivial rfl (iv_i64 (by omega)) ?_ | refine RG.val tok rfl rfl rfl trivial rfl (iv_u64 (by omega)) ?_ | refine RG.val tok rfl rfl rfl trivial rfl rfl ?_ | refine RG.val tok rfl rfl rfl (by omega) rfl rfl ?_ | refine RG.idx tok rfl rfl rfl rfl rfl rfl (Go.Abs.ints_at (by omega)) ⟨by omega, by omega⟩ rfl ?_ | refine RG.idx tok rfl rfl rfl rfl rfl rfl (Go.Abs.rows_at (by omega)) ⟨by omega, by omega⟩ rfl ?_ | refine RG.eqS eok rfl rfl rfl rfl rfl rfl rfl rfl rfl rfl rfl ?_ | refine RG.eqA eok rfl rfl rfl rfl rfl rfl rfl rfl rfl rfl rfl rfl ?_ | refine RG.load tok rfl rfl rfl rfl rfl rfl ?_ | refine RG.new tok rfl rfl rfl trivial rfl rfl ?_ | refine RG.store tok rfl rfl rfl rfl rfl rfl rfl rfl ?_ | refine RG.done rfl ?_ | refine RG.doneD (by kernel_rfl) rfl (by kernel_rfl) ?_ | refine AW.seq ?_ | refine AW.region ?_ | refine AW.skip ?_ | refine AW.block ?_ | refine AW.exit ?_ | refine AW.ret ?_ | refine AW.condT rfl ?_ | refine AW.condF rfl ?_))
    exact ⟨⟨_, rfl, rfl⟩, rfl, .nil _⟩
  · rw [if_neg h]
    have h2 : ¬ Rt.cmp b a < 0 := by unfold Rt.cmp; split <;> (try rw [if_neg h]) <;> decide
    refine FC.of_AW tok Tryz.func22 (by kernel_rfl) rfl Tryz.ntmps22 [] rfl rfl rfl ?_; intro w0 X0 Y f0 hI0 hX0
    (repeat (first | refine RG.call rfl rfl rfl rfl (c) [] rfl rfl rfl rfl (.nil _) (.nil _) (fun _ h => False.elim h) rfl (A.ren_free _ _ rfl) rfl ?_ | refine RG.skip rfl rfl rfl ?_ | refine RG.val tok rfl rfl rfl trivial rfl (iv_i64 (by omega)) ?_ | refine RG.val tok rfl rfl rfl trivial rfl (iv_u64 (by omega)) ?_ | refine RG.val tok rfl rfl rfl trivial rfl rfl ?_ | refine RG.val tok rfl rfl rfl (by omega) rfl rfl ?_ | refine RG.idx tok rfl rfl rfl rfl rfl rfl (Go.Abs.ints_at (by omega)) ⟨by omega, by omega⟩ rfl ?_ | refine RG.idx tok rfl rfl rfl rfl rfl rfl (Go.Abs.rows_at (by omega)) ⟨by omega, by omega⟩ rfl ?_ | refine RG.eqS eok rfl rfl rfl rfl rfl rfl rfl rfl rfl rfl rfl ?_ | refine RG.eqA eok rfl rfl rfl rfl rfl rfl rfl rfl rfl rfl rfl rfl ?_ | refine RG.load tok rfl rfl rfl rfl rfl rfl ?_ | refine RG.new tok rfl rfl rfl trivial rfl rfl ?_ | refine RG.store tok rfl rfl rfl rfl rfl rfl rfl rfl ?_ | refine RG.done rfl ?_ | refine RG.doneD (by kernel_rfl) rfl (by kernel_rfl) ?_ | refine AW.seq ?_ | refine AW.region ?_ | refine AW.skip ?_ | refine AW.block ?_ | refine AW.exit ?_ | refine AW.condT rfl ?_ | refine AW.condF rfl ?_))
    refine AW.condD rfl (fun k => absurd k h2) (fun _ => ?_)
    (repeat (first | refine RG.skip rfl rfl rfl ?_ | refine RG.val tok rfl rfl rfl trivial rfl (iv_i64 (by omega)) ?_ | refine RG.val tok rfl rfl rfl trivial rfl (iv_u64 (by omega)) ?_ | refine RG.val tok rfl rfl rfl trivial rfl rfl ?_ | refine RG.val tok rfl rfl rfl (by omega) rfl rfl ?_ | refine RG.idx tok rfl rfl rfl rfl rfl rfl (Go.Abs.ints_at (by omega)) ⟨by omega, by omega⟩ rfl ?_ | refine RG.idx tok rfl rfl rfl rfl rfl rfl (Go.Abs.rows_at (by omega)) ⟨by omega, by omega⟩ rfl ?_ | refine RG.eqS eok rfl rfl rfl rfl rfl rfl rfl rfl rfl rfl rfl ?_ | refine RG.eqA eok rfl rfl rfl rfl rfl rfl rfl rfl rfl rfl rfl rfl ?_ | refine RG.load tok rfl rfl rfl rfl rfl rfl ?_ | refine RG.new tok rfl rfl rfl trivial rfl rfl ?_ | refine RG.store tok rfl rfl rfl rfl rfl rfl rfl rfl ?_ | refine RG.done rfl ?_ | refine RG.doneD (by kernel_rfl) rfl (by kernel_rfl) ?_ | refine AW.seq ?_ | refine AW.region ?_ | refine AW.skip ?_ | refine AW.block ?_ | refine AW.exit ?_ | refine AW.ret ?_ | refine AW.condT rfl ?_ | refine AW.condF rfl ?_))
    exact ⟨⟨_, rfl, rfl⟩, rfl, .nil _⟩
theorem max_fc (a b : Rat) (ha : Rt.Fit a) (hb : Rt.Fit b) : FC Tryz.prog gi 23 [frQ a, frQ b] [] (frQ (Rt.mx a b)) [] NoP := by
  have c := cmp_fc b a hb ha
  unfold Rt.mx
  by_cases h : a < b
  · rw [if_pos h]
    rw [Rt.cmp_gt h] at c
    refine FC.of_AW tok Tryz.func23 (by kernel_rfl) rfl Tryz.ntmps23 [] rfl rfl rfl ?_; intro w0 X0 Y f0 hI0 hX0
    (repeat (first | refine RG.call rfl rfl rfl rfl (c) [] rfl rfl rfl rfl (.nil _) (.nil _) (fun _ h => False.elim h) rfl (A.ren_free _ _ rfl) rfl ?_ | refine RG.skip rfl rfl rfl ?_ | refine RG.val tok rfl rfl rfl trivial rfl (iv_i64 (by omega)) ?_ | refine RG.val tok rfl rfl rfl trivial rfl (iv_u64 (by omega)) ?_ | refine RG.val tok rfl rfl rfl trivial rfl rfl ?_ | refine RG.val tok rfl rfl rfl (by omega) rfl rfl ?_ | refine RG.idx tok rfl rfl rfl rfl rfl rfl (Go.Abs.ints_at (by omega)) ⟨by omega, by omega⟩ rfl ?_ | refine RG.idx tok rfl rfl rfl rfl rfl rfl (Go.Abs.rows_at (by omega)) ⟨by omega, by omega⟩ rfl ?_ | refine RG.eqS eok rfl rfl rfl rfl rfl rfl rfl rfl rfl rfl rfl ?_ | refine RG.eqA eok rfl rfl rfl rfl rfl rfl rfl rfl rfl rfl rfl rfl ?_ | refine RG.load tok rfl rfl rfl rfl rfl rfl ?_ | refine RG.new tok rfl rfl rfl trivial rfl rfl ?_ | refine RG.store tok rfl rfl rfl rfl rfl rfl rfl rfl ?_ | refine RG.done rfl ?_ | refine RG.doneD (by kernel_rfl) rfl (by kernel_rfl) ?_ | refine AW.seq ?_ | refine AW.region ?_ | refine AW.skip ?_ | refine AW.block ?_ | refine AW.exit ?_ | refine AW.condT rfl ?_ | refine AW.condF rfl ?_))
    (repeat (first | refine RG.skip rfl rfl rfl ?_ | refine RG.val tok rfl rfl rfl trivial rfl (iv_i64 (by omega)) ?_ | refine RG.val tok rfl rfl rfl trivial rfl (iv_u64 (by omega)) ?_ | refine RG.val tok rfl rfl rfl trivial rfl rfl ?_ | refine RG.val tok rfl rfl rfl (by omega) rfl rfl ?_ | refine RG.idx tok rfl rfl rfl rfl rfl rfl (Go.Abs.ints_at (by omega)) ⟨by omega, by omega⟩ rfl ?_ | refine RG.idx tok rfl rfl rfl rfl rfl rfl (Go.Abs.rows_at (by omega)) ⟨by omega, by omega⟩ rfl ?_ | refine RG.eqS eok rfl rfl rfl rfl rfl rfl rfl rfl rfl rfl rfl ?_ | refine RG.eqA eok rfl rfl rfl rfl rfl rfl rfl rfl rfl rfl rfl rfl ?_ | refine RG.load tok rfl rfl rfl rfl rfl rfl ?_ | refine RG.new tok rfl rfl rfl trivial rfl rfl ?_ | refine RG.store tok rfl rfl rfl rfl rfl rfl rfl rfl ?_ | refine RG.done rfl ?_ | refine RG.doneD (by kernel_rfl) rfl (by kernel_rfl) ?_ | refine AW.seq ?_ | refine AW.region ?_ | refine AW.skip ?_ | refine AW.block ?_ | refine AW.exit ?_ | refine AW.ret ?_ | refine AW.condT rfl ?_ | refine AW.condF rfl ?_))
    exact ⟨⟨_, rfl, rfl⟩, rfl, .nil _⟩
  · rw [if_neg h]
    have h2 : ¬ 0 < Rt.cmp b a := by
      rcases Rt.tri a b with h3 | h3 | h3
      · exact absurd h3 h
      · rw [h3, Rt.cmp_self]; decide
      · rw [Rt.cmp_lt h3]; decide
    refine FC.of_AW tok Tryz.func23 (by kernel_rfl) rfl Tryz.ntmps23 [] rfl rfl rfl ?_; intro w0 X0 Y f0 hI0 hX0
    (repeat (first | refine RG.call rfl rfl rfl rfl (c) [] rfl rfl rfl rfl (.nil _) (.nil _) (fun _ h => False.elim h) rfl (A.ren_free _ _ rfl) rfl ?_ | refine RG.skip rfl rfl rfl ?_ | refine RG.val tok rfl rfl rfl trivial rfl (iv_i64 (by omega)) ?_ | refine RG.val tok rfl rfl rfl trivial rfl (iv_u64 (by omega)) ?_ | refine RG.val tok rfl rfl rfl trivial rfl rfl ?_ | refine RG.val tok rfl rfl rfl (by omega) rfl rfl ?_ | refine RG.idx tok rfl rfl rfl rfl rfl rfl (Go.Abs.ints_at (by omega)) ⟨by omega, by omega⟩ rfl ?_ | refine RG.idx tok rfl rfl rfl rfl rfl rfl (Go.Abs.rows_at (by omega)) ⟨by omega, by omega⟩ rfl ?_ | refine RG.eqS eok rfl rfl rfl rfl rfl rfl rfl rfl rfl rfl rfl ?_ | refine RG.eqA eok rfl rfl rfl rfl rfl rfl rfl rfl rfl rfl rfl rfl ?_ | refine RG.load tok rfl rfl rfl rfl rfl rfl ?_ | refine RG.new tok rfl rfl rfl trivial rfl rfl ?_ | refine RG.store tok rfl rfl rfl rfl rfl rfl rfl rfl ?_ | refine RG.done rfl ?_ | refine RG.doneD (by kernel_rfl) rfl (by kernel_rfl) ?_ | refine AW.seq ?_ | refine AW.region ?_ | refine AW.skip ?_ | refine AW.block ?_ | refine AW.exit ?_ | refine AW.condT rfl ?_ | refine AW.condF rfl ?_))
    refine AW.condD rfl (fun k => absurd k h2) (fun _ => ?_)
    (repeat (first | refine RG.skip rfl rfl rfl ?_ | refine RG.val tok rfl rfl rfl trivial rfl (iv_i64 (by omega)) ?_ | refine RG.val tok rfl rfl rfl trivial rfl (iv_u64 (by omega)) ?_ | refine RG.val tok rfl rfl rfl trivial rfl rfl ?_ | refine RG.val tok rfl rfl rfl (by omega) rfl rfl ?_ | refine RG.idx tok rfl rfl rfl rfl rfl rfl (Go.Abs.ints_at (by omega)) ⟨by omega, by omega⟩ rfl ?_ | refine RG.idx tok rfl rfl rfl rfl rfl rfl (Go.Abs.rows_at (by omega)) ⟨by omega, by omega⟩ rfl ?_ | refine RG.eqS eok rfl rfl rfl rfl rfl rfl rfl rfl rfl rfl rfl ?_ | refine RG.eqA eok rfl rfl rfl rfl rfl rfl rfl rfl rfl rfl rfl rfl ?_ | refine RG.load tok rfl rfl rfl rfl rfl rfl ?_ | refine RG.new tok rfl rfl rfl trivial rfl rfl ?_ | refine RG.store tok rfl rfl rfl rfl rfl rfl rfl rfl ?_ | refine RG.done rfl ?_ | refine RG.doneD (by kernel_rfl) rfl (by kernel_rfl) ?_ | refine AW.seq ?_ | refine AW.region ?_ | refine AW.skip ?_ | refine AW.block ?_ | refine AW.exit ?_ | refine AW.ret ?_ | refine AW.condT rfl ?_ | refine AW.condF rfl ?_))
    exact ⟨⟨_, rfl, rfl⟩, rfl, .nil _⟩
end Go.Proofs.YtbhahgbdkgjliaaGreatDoor
