/- The order of pairs, heads of definitions. No conditions. -/
import Derived.Test.YtifeioddiddnoaaDoorScB
import Derived.Laws.StructEq
set_option linter.unusedVariables false
set_option linter.unusedSimpArgs false
namespace Go.Proofs.YtifeioddiddnoaaDoor
open Go.Abs Go Go.RowKit
set_option maxRecDepth 20000
def headF (l : List Hd) (id : Int) : Option Hd := l.find? (fun h => decide (h.id = id))
abbrev zHdA : List A := [i64 0, i64 0, i64 0, nilA, nilA]
def headA (l : List Hd) (id : Int) : A := match headF l id with
  | some h => .tup [.agg h.cl, .val (.bool true)]
  | none => .tup [.agg zHdA, .val (.bool false)]
end Go.Proofs.YtifeioddiddnoaaDoor
namespace Go.Proofs.YtifeioddiddnoaaDoor
open Go.Abs Go Go.RowKit
set_option maxRecDepth 20000
def withinB (a : Ab) (v : Int) : Bool := (decide (a.lo ≤ v) && decide (v ≤ a.hi)) && decide (Int.tmod (v - a.lo) a.m = 0)
theorem swithin_fc (a : Ab) (v : Int) (h1 : -2147483648 ≤ a.lo ∧ a.hi ≤ 2147483647) (hm : 1 ≤ a.m) : FC Tryd.prog ge 33 [.agg a.cl, i64 v] [] (.val (.bool (withinB a v))) [] NoP := by
  obtain ⟨lo, hi, m, r, k⟩ := a
  dsimp only at h1 hm
  simp only [withinB, Ab.cl]
  by_cases ha : lo ≤ v
  · rw [decide_eq_true ha, Bool.true_and]
    by_cases hb : v ≤ hi
    · rw [decide_eq_true hb, Bool.true_and]
      refine FC.of_AW tok Tryd.func33 (by kernel_rfl) rfl Tryd.ntmps33 [] rfl rfl rfl ?_; intro w0 X0 Y f0 hI0 hX0
      refine S1 ?_; (repeat (first | refine K1 ?_ | refine K2 ?_ | refine K3 ?_ | refine K4 ?_ | refine K5 ?_ | refine K6 ?_ | refine K7 ?_ | refine L1 ?_ | refine L2 ?_ | refine L3 ?_ | refine RG.d ?_ | refine RG.dd ?_ | refine S2 ?_ | refine S3 ?_ | refine S4 ?_ | refine S5 ?_ | refine S7 ?_ | refine S8 ?_))
      repeat refine S1 ?_
      refine S2 ?_
      iterate 4 ((first | refine K1 ?_ | refine K2 ?_ | refine K3 ?_ | refine K4 ?_ | refine K5 ?_ | refine K6 ?_ | refine K7 ?_ | refine L1 ?_ | refine L2 ?_ | refine L3 ?_))
      refine RG.put 8 rfl (v' := .val (.bool true)) (by rw [decide_eq_true ha]) ?_
      iterate 5 ((first | refine K1 ?_ | refine K2 ?_ | refine K3 ?_ | refine K4 ?_ | refine K5 ?_ | refine K6 ?_ | refine K7 ?_ | refine L1 ?_ | refine L2 ?_ | refine L3 ?_))
      refine RG.put 13 rfl (v' := .val (.bool true)) (by rw [decide_eq_true hb]) ?_
      (repeat (first | refine K1 ?_ | refine K2 ?_ | refine K3 ?_ | refine K4 ?_ | refine K5 ?_ | refine K6 ?_ | refine K7 ?_ | refine L1 ?_ | refine L2 ?_ | refine L3 ?_ | refine RG.d ?_ | refine RG.dd ?_ | refine S1 ?_ | refine S2 ?_ | refine S3 ?_ | refine S4 ?_ | refine S5 ?_ | refine S6 ?_ | refine S7 ?_ | refine S8 ?_))
      exact ⟨⟨_, rfl, rfl⟩, rfl, .nil _⟩
    · rw [decide_eq_false hb, Bool.false_and]
      refine FC.of_AW tok Tryd.func33 (by kernel_rfl) rfl Tryd.ntmps33 [] rfl rfl rfl ?_; intro w0 X0 Y f0 hI0 hX0
      refine S1 ?_; (repeat (first | refine K1 ?_ | refine K2 ?_ | refine K3 ?_ | refine K4 ?_ | refine K5 ?_ | refine K6 ?_ | refine K7 ?_ | refine L1 ?_ | refine L2 ?_ | refine L3 ?_ | refine RG.d ?_ | refine RG.dd ?_ | refine S2 ?_ | refine S3 ?_ | refine S4 ?_ | refine S5 ?_ | refine S7 ?_ | refine S8 ?_))
      repeat refine S1 ?_
      refine S2 ?_
      iterate 4 ((first | refine K1 ?_ | refine K2 ?_ | refine K3 ?_ | refine K4 ?_ | refine K5 ?_ | refine K6 ?_ | refine K7 ?_ | refine L1 ?_ | refine L2 ?_ | refine L3 ?_))
      refine RG.put 8 rfl (v' := .val (.bool true)) (by rw [decide_eq_true ha]) ?_
      iterate 5 ((first | refine K1 ?_ | refine K2 ?_ | refine K3 ?_ | refine K4 ?_ | refine K5 ?_ | refine K6 ?_ | refine K7 ?_ | refine L1 ?_ | refine L2 ?_ | refine L3 ?_))
      refine RG.put 13 rfl (v' := .val (.bool false)) (by rw [decide_eq_false hb]) ?_
      (repeat (first | refine K1 ?_ | refine K2 ?_ | refine K3 ?_ | refine K4 ?_ | refine K5 ?_ | refine K6 ?_ | refine K7 ?_ | refine L1 ?_ | refine L2 ?_ | refine L3 ?_ | refine RG.d ?_ | refine RG.dd ?_ | refine S1 ?_ | refine S2 ?_ | refine S3 ?_ | refine S4 ?_ | refine S5 ?_ | refine S6 ?_ | refine S7 ?_ | refine S8 ?_))
      exact ⟨⟨_, rfl, rfl⟩, rfl, .nil _⟩
  · rw [decide_eq_false ha, Bool.false_and, Bool.false_and]
    refine FC.of_AW tok Tryd.func33 (by kernel_rfl) rfl Tryd.ntmps33 [] rfl rfl rfl ?_; intro w0 X0 Y f0 hI0 hX0
    refine S1 ?_; (repeat (first | refine K1 ?_ | refine K2 ?_ | refine K3 ?_ | refine K4 ?_ | refine K5 ?_ | refine K6 ?_ | refine K7 ?_ | refine L1 ?_ | refine L2 ?_ | refine L3 ?_ | refine RG.d ?_ | refine RG.dd ?_ | refine S2 ?_ | refine S3 ?_ | refine S4 ?_ | refine S5 ?_ | refine S7 ?_ | refine S8 ?_))
    repeat refine S1 ?_
    refine S2 ?_
    iterate 4 ((first | refine K1 ?_ | refine K2 ?_ | refine K3 ?_ | refine K4 ?_ | refine K5 ?_ | refine K6 ?_ | refine K7 ?_ | refine L1 ?_ | refine L2 ?_ | refine L3 ?_))
    refine RG.put 8 rfl (v' := .val (.bool false)) (by rw [decide_eq_false ha]) ?_
    (repeat (first | refine K1 ?_ | refine K2 ?_ | refine K3 ?_ | refine K4 ?_ | refine K5 ?_ | refine K6 ?_ | refine K7 ?_ | refine L1 ?_ | refine L2 ?_ | refine L3 ?_ | refine RG.d ?_ | refine RG.dd ?_ | refine S1 ?_ | refine S2 ?_ | refine S3 ?_ | refine S4 ?_ | refine S5 ?_ | refine S6 ?_ | refine S7 ?_ | refine S8 ?_))
    exact ⟨⟨_, rfl, rfl⟩, rfl, .nil _⟩
/-- No bit of a number is outside a mask. -/
def inM (x m : Int) : Bool := decide (IntKind.i64.wrap ((BitVec.ofInt 64 x &&& ~~~BitVec.ofInt 64 m).toNat : Nat) = 0)
def hasB (a : Ab) (v k : Int) : Bool := withinB a v && inM k a.mask
theorem shas_fc (a : Ab) (v w : Int) (h1 : -2147483648 ≤ a.lo ∧ a.hi ≤ 2147483647) (hm : 1 ≤ a.m) : FC Tryd.prog ge 21 [.agg a.cl, .agg [i64 v, i64 w]] [] (.val (.bool (hasB a v w))) [] NoP := by
  have c := swithin_fc a v h1 hm
  unfold hasB
  obtain ⟨t, ht⟩ : ∃ t, t = withinB a v := ⟨_, rfl⟩
  rw [← ht] at c ⊢
  obtain ⟨lo, hi, m, r, k⟩ := a
  simp only [Ab.cl] at c ⊢
  cases t
  · rw [Bool.false_and]
    refine FC.of_AW tok Tryd.func21 (by kernel_rfl) rfl Tryd.ntmps21 [] rfl rfl rfl ?_; intro w0 X0 Y f0 hI0 hX0
    (repeat (first | refine RG.call rfl rfl rfl rfl (c) [] rfl rfl rfl rfl (.nil _) (.nil _) (fun _ h => False.elim h) rfl (A.ren_free _ _ rfl) rfl ?_ | refine K1 ?_ | refine K2 ?_ | refine K3 ?_ | refine K4 ?_ | refine K5 ?_ | refine K6 ?_ | refine K7 ?_ | refine L1 ?_ | refine L2 ?_ | refine L3 ?_ | refine RG.d ?_ | refine RG.dd ?_ | refine S1 ?_ | refine S2 ?_ | refine S3 ?_ | refine S4 ?_ | refine S5 ?_ | refine S7 ?_ | refine S8 ?_))
    (repeat (first | refine K1 ?_ | refine K2 ?_ | refine K3 ?_ | refine K4 ?_ | refine K5 ?_ | refine K6 ?_ | refine K7 ?_ | refine L1 ?_ | refine L2 ?_ | refine L3 ?_ | refine RG.d ?_ | refine RG.dd ?_ | refine S1 ?_ | refine S2 ?_ | refine S3 ?_ | refine S4 ?_ | refine S5 ?_ | refine S6 ?_ | refine S7 ?_ | refine S8 ?_))
    exact ⟨⟨_, rfl, rfl⟩, rfl, .nil _⟩
  · rw [Bool.true_and]
    unfold inM
    refine FC.of_AW tok Tryd.func21 (by kernel_rfl) rfl Tryd.ntmps21 [] rfl rfl rfl ?_; intro w0 X0 Y f0 hI0 hX0
    (repeat (first | refine RG.call rfl rfl rfl rfl (c) [] rfl rfl rfl rfl (.nil _) (.nil _) (fun _ h => False.elim h) rfl (A.ren_free _ _ rfl) rfl ?_ | refine K1 ?_ | refine K2 ?_ | refine K3 ?_ | refine K4 ?_ | refine K5 ?_ | refine K6 ?_ | refine K7 ?_ | refine L1 ?_ | refine L2 ?_ | refine L3 ?_ | refine RG.d ?_ | refine RG.dd ?_ | refine S1 ?_ | refine S2 ?_ | refine S3 ?_ | refine S4 ?_ | refine S5 ?_ | refine S7 ?_ | refine S8 ?_))
    (repeat (first | refine K1 ?_ | refine K2 ?_ | refine K3 ?_ | refine K4 ?_ | refine K5 ?_ | refine K6 ?_ | refine K7 ?_ | refine L1 ?_ | refine L2 ?_ | refine L3 ?_ | refine RG.d ?_ | refine RG.dd ?_ | refine S1 ?_ | refine S2 ?_ | refine S3 ?_ | refine S4 ?_ | refine S5 ?_ | refine S6 ?_ | refine S7 ?_ | refine S8 ?_))
    exact ⟨⟨_, rfl, rfl⟩, rfl, .nil _⟩
/-- A summary allows an answer: a value, or an exception. -/
def thrB (T n : Int) : Bool := (decide (1 ≤ n) && decide (n ≤ 31)) && decide (IntKind.i64.wrap ((BitVec.ofInt 64 (T.fdiv (2 ^ n.toNat)) &&& BitVec.ofInt 64 1).toNat : Nat) = 1)
def allowsB (s : Sy) (v k t : Int) : Bool := if t = 0 then hasB s.res v k else thrB s.throws t
theorem allows_fc (s : Sy) (v w t : Int) (h1 : -2147483648 ≤ s.res.lo ∧ s.res.hi ≤ 2147483647) (hm : 1 ≤ s.res.m) : FC Tryd.prog ge 10 [.agg s.cl, .agg [i64 v, i64 w, i64 t]] [] (.val (.bool (allowsB s v w t))) [] NoP := by
  have c := shas_fc s.res v w h1 hm
  unfold allowsB
  obtain ⟨b, hb⟩ : ∃ b, b = hasB s.res v w := ⟨_, rfl⟩
  rw [← hb] at c ⊢
  clear hb
  obtain ⟨x1, ⟨x2, x3, x4, x5, x6⟩, x7, x8, x9, x10, x11⟩ := s
  simp only [Sy.cl, Ab.cl] at c ⊢
  by_cases ht : t = 0
  · rw [if_pos ht]
    subst ht
    refine FC.of_AW tok Tryd.func10 (by kernel_rfl) rfl Tryd.ntmps10 [] rfl rfl rfl ?_; intro w0 X0 Y f0 hI0 hX0
    (repeat (first | refine RG.call rfl rfl rfl rfl (c) [] rfl rfl rfl rfl (.nil _) (.nil _) (fun _ h => False.elim h) rfl (A.ren_free _ _ rfl) rfl ?_ | refine K1 ?_ | refine K2 ?_ | refine K3 ?_ | refine K4 ?_ | refine K5 ?_ | refine K6 ?_ | refine K7 ?_ | refine L1 ?_ | refine L2 ?_ | refine L3 ?_ | refine RG.d ?_ | refine RG.dd ?_ | refine S1 ?_ | refine S2 ?_ | refine S3 ?_ | refine S4 ?_ | refine S5 ?_ | refine S7 ?_ | refine S8 ?_))
    (repeat (first | refine K1 ?_ | refine K2 ?_ | refine K3 ?_ | refine K4 ?_ | refine K5 ?_ | refine K6 ?_ | refine K7 ?_ | refine L1 ?_ | refine L2 ?_ | refine L3 ?_ | refine RG.d ?_ | refine RG.dd ?_ | refine S1 ?_ | refine S2 ?_ | refine S3 ?_ | refine S4 ?_ | refine S5 ?_ | refine S6 ?_ | refine S7 ?_ | refine S8 ?_))
    exact ⟨⟨_, rfl, rfl⟩, rfl, .nil _⟩
  rw [if_neg ht]
  unfold thrB
  by_cases h3 : 1 ≤ t
  · rw [decide_eq_true h3, Bool.true_and]
    by_cases h4 : t ≤ 31
    · rw [decide_eq_true h4, Bool.true_and]
      refine FC.of_AW tok Tryd.func10 (by kernel_rfl) rfl Tryd.ntmps10 [] rfl rfl rfl ?_; intro w0 X0 Y f0 hI0 hX0
      (repeat (first | refine K1 ?_ | refine K2 ?_ | refine K3 ?_ | refine K4 ?_ | refine K5 ?_ | refine K6 ?_ | refine K7 ?_ | refine L1 ?_ | refine L2 ?_ | refine L3 ?_ | refine RG.d ?_ | refine RG.dd ?_ | refine S1 ?_ | refine S2 ?_ | refine S3 ?_ | refine S4 ?_ | refine S5 ?_ | refine S7 ?_ | refine S8 ?_))
      refine AW.condD rfl (fun k => absurd (show t = 0 from k) ht) (fun _ => ?_)
      refine S3 ?_
      refine S1 ?_
      refine S2 ?_
      iterate 3 ((first | refine K1 ?_ | refine K2 ?_ | refine K3 ?_ | refine K4 ?_ | refine K5 ?_ | refine K6 ?_ | refine K7 ?_ | refine L1 ?_ | refine L2 ?_ | refine L3 ?_))
      refine RG.put 15 rfl (v' := .val (.bool true)) (by rw [decide_eq_true h3]) ?_
      iterate 4 ((first | refine K1 ?_ | refine K2 ?_ | refine K3 ?_ | refine K4 ?_ | refine K5 ?_ | refine K6 ?_ | refine K7 ?_ | refine L1 ?_ | refine L2 ?_ | refine L3 ?_))
      refine RG.put 19 rfl (v' := .val (.bool true)) (by rw [decide_eq_true h4]) ?_
      iterate 9 ((first | refine K1 ?_ | refine K2 ?_ | refine K3 ?_ | refine K4 ?_ | refine K5 ?_ | refine K6 ?_ | refine K7 ?_ | refine L1 ?_ | refine L2 ?_ | refine L3 ?_))
      refine RG.put 28 rfl (v' := .val (.bool (decide (IntKind.i64.wrap ((BitVec.ofInt 64 (x7.fdiv (2 ^ t.toNat)) &&& BitVec.ofInt 64 1).toNat : Nat) = 1)))) (by rw [show min t.toNat IntKind.i64.bits = t.toNat from Nat.min_eq_left (show t.toNat ≤ 64 by omega)]; rfl) ?_
      (repeat (first | refine K1 ?_ | refine K2 ?_ | refine K3 ?_ | refine K4 ?_ | refine K5 ?_ | refine K6 ?_ | refine K7 ?_ | refine L1 ?_ | refine L2 ?_ | refine L3 ?_ | refine RG.d ?_ | refine RG.dd ?_ | refine S1 ?_ | refine S2 ?_ | refine S3 ?_ | refine S4 ?_ | refine S5 ?_ | refine S6 ?_ | refine S7 ?_ | refine S8 ?_))
      exact ⟨⟨_, rfl, rfl⟩, rfl, .nil _⟩
    · rw [decide_eq_false h4, Bool.false_and]
      refine FC.of_AW tok Tryd.func10 (by kernel_rfl) rfl Tryd.ntmps10 [] rfl rfl rfl ?_; intro w0 X0 Y f0 hI0 hX0
      (repeat (first | refine K1 ?_ | refine K2 ?_ | refine K3 ?_ | refine K4 ?_ | refine K5 ?_ | refine K6 ?_ | refine K7 ?_ | refine L1 ?_ | refine L2 ?_ | refine L3 ?_ | refine RG.d ?_ | refine RG.dd ?_ | refine S1 ?_ | refine S2 ?_ | refine S3 ?_ | refine S4 ?_ | refine S5 ?_ | refine S7 ?_ | refine S8 ?_))
      refine AW.condD rfl (fun k => absurd (show t = 0 from k) ht) (fun _ => ?_)
      refine S3 ?_
      refine S1 ?_
      refine S2 ?_
      iterate 3 ((first | refine K1 ?_ | refine K2 ?_ | refine K3 ?_ | refine K4 ?_ | refine K5 ?_ | refine K6 ?_ | refine K7 ?_ | refine L1 ?_ | refine L2 ?_ | refine L3 ?_))
      refine RG.put 15 rfl (v' := .val (.bool true)) (by rw [decide_eq_true h3]) ?_
      iterate 4 ((first | refine K1 ?_ | refine K2 ?_ | refine K3 ?_ | refine K4 ?_ | refine K5 ?_ | refine K6 ?_ | refine K7 ?_ | refine L1 ?_ | refine L2 ?_ | refine L3 ?_))
      refine RG.put 19 rfl (v' := .val (.bool false)) (by rw [decide_eq_false h4]) ?_
      (repeat (first | refine K1 ?_ | refine K2 ?_ | refine K3 ?_ | refine K4 ?_ | refine K5 ?_ | refine K6 ?_ | refine K7 ?_ | refine L1 ?_ | refine L2 ?_ | refine L3 ?_ | refine RG.d ?_ | refine RG.dd ?_ | refine S1 ?_ | refine S2 ?_ | refine S3 ?_ | refine S4 ?_ | refine S5 ?_ | refine S6 ?_ | refine S7 ?_ | refine S8 ?_))
      exact ⟨⟨_, rfl, rfl⟩, rfl, .nil _⟩
  · rw [decide_eq_false h3, Bool.false_and, Bool.false_and]
    refine FC.of_AW tok Tryd.func10 (by kernel_rfl) rfl Tryd.ntmps10 [] rfl rfl rfl ?_; intro w0 X0 Y f0 hI0 hX0
    (repeat (first | refine K1 ?_ | refine K2 ?_ | refine K3 ?_ | refine K4 ?_ | refine K5 ?_ | refine K6 ?_ | refine K7 ?_ | refine L1 ?_ | refine L2 ?_ | refine L3 ?_ | refine RG.d ?_ | refine RG.dd ?_ | refine S1 ?_ | refine S2 ?_ | refine S3 ?_ | refine S4 ?_ | refine S5 ?_ | refine S7 ?_ | refine S8 ?_))
    refine AW.condD rfl (fun k => absurd (show t = 0 from k) ht) (fun _ => ?_)
    refine S3 ?_
    refine S1 ?_
    refine S2 ?_
    iterate 3 ((first | refine K1 ?_ | refine K2 ?_ | refine K3 ?_ | refine K4 ?_ | refine K5 ?_ | refine K6 ?_ | refine K7 ?_ | refine L1 ?_ | refine L2 ?_ | refine L3 ?_))
    refine RG.put 15 rfl (v' := .val (.bool false)) (by rw [decide_eq_false h3]) ?_
    (repeat (first | refine K1 ?_ | refine K2 ?_ | refine K3 ?_ | refine K4 ?_ | refine K5 ?_ | refine K6 ?_ | refine K7 ?_ | refine L1 ?_ | refine L2 ?_ | refine L3 ?_ | refine RG.d ?_ | refine RG.dd ?_ | refine S1 ?_ | refine S2 ?_ | refine S3 ?_ | refine S4 ?_ | refine S5 ?_ | refine S6 ?_ | refine S7 ?_ | refine S8 ?_))
    exact ⟨⟨_, rfl, rfl⟩, rfl, .nil _⟩
end Go.Proofs.YtifeioddiddnoaaDoor
namespace Go.Proofs.YtifeioddiddnoaaDoor
open Go.Abs Go Go.RowKit
set_option maxRecDepth 20000
theorem eq40 : EqOk Tryd.prog 40 [.int .i64, .int .i64, .int .i64, .int .i64, .int .i64] := by
  refine ⟨by kernel_rfl, fun xs ys w hx hy => ?_⟩
  obtain ⟨v0, l, rfl, f0, hx⟩ := fit_cons hx
  obtain ⟨v1, l, rfl, f1, hx⟩ := fit_cons hx
  obtain ⟨v2, l, rfl, f2, hx⟩ := fit_cons hx
  obtain ⟨v3, l, rfl, f3, hx⟩ := fit_cons hx
  obtain ⟨v4, l, rfl, f4, hx⟩ := fit_cons hx
  obtain rfl := fit_nil hx
  obtain ⟨u0, l, rfl, g0, hy⟩ := fit_cons hy
  obtain ⟨u1, l, rfl, g1, hy⟩ := fit_cons hy
  obtain ⟨u2, l, rfl, g2, hy⟩ := fit_cons hy
  obtain ⟨u3, l, rfl, g3, hy⟩ := fit_cons hy
  obtain ⟨u4, l, rfl, g4, hy⟩ := fit_cons hy
  obtain rfl := fit_nil hy
  obtain ⟨p0, rfl⟩ := fit_int f0
  obtain ⟨p1, rfl⟩ := fit_int f1
  obtain ⟨p2, rfl⟩ := fit_int f2
  obtain ⟨p3, rfl⟩ := fit_int f3
  obtain ⟨p4, rfl⟩ := fit_int f4
  obtain ⟨q0, rfl⟩ := fit_int g0
  obtain ⟨q1, rfl⟩ := fit_int g1
  obtain ⟨q2, rfl⟩ := fit_int g2
  obtain ⟨q3, rfl⟩ := fit_int g3
  obtain ⟨q4, rfl⟩ := fit_int g4
  have u3 := Tryd.underlying3
  have k3 := Tryd.isAgg3
  have z3 := Tryd.sizeOf3
  rw [show (10000 : Nat) = 9999 + 1 from rfl, Op.equalIn]
  simp only [Sem.run_bind, run_underlying Tryd.underlying40, Result.andThen_ok]
  go_simp
  by_cases h0 : p0 = q0 <;> by_cases h1 : p1 = q1 <;> by_cases h2 : p2 = q2 <;> by_cases h3 : p3 = q3 <;> by_cases h4 : p4 = q4 <;> simp [h0, h1, h2, h3, h4, veqL, veq]
theorem eok : EOk Tryd.prog [(40, [.int .i64, .int .i64, .int .i64, .int .i64, .int .i64])] := EOk.cons eq40 (EOk.nil _)
end Go.Proofs.YtifeioddiddnoaaDoor
namespace Go.Proofs.YtifeioddiddnoaaDoor
open Go.Abs Go Go.RowKit
set_option maxRecDepth 20000
def leqB (s t : Tr) : Bool := decide (nf (s.join t) = nf t)
end Go.Proofs.YtifeioddiddnoaaDoor
namespace Go.Proofs.YtifeioddiddnoaaDoor
open Go.Abs Go Go.RowKit
set_option maxRecDepth 20000
def bitsB (x m : Int) : Bool := decide (0 ≤ x) && inM x m
def lockB (x n : Int) : Bool := decide (0 ≤ x) && decide (x < n)
/-- The cells of a program that was made. -/
abbrev pgC (p : Pg) : List A := [gA1, gA2, gA3, gA4, i64 3, i64 3, i64 2, .ro p.heads.length (flC Hd.cl p.heads), .ro p.defs.length (flC Df.cl p.defs), .ro p.threads.length (ints .i64 p.threads)]
theorem pgC_cl {p : Pg} (h : p.dc = dcM) : p.cl = pgC p := by simp only [Pg.cl, h, dcM_cl, List.cons_append, List.nil_append]
end Go.Proofs.YtifeioddiddnoaaDoor
namespace Go.Proofs.YtifeioddiddnoaaDoor
open Go.Abs Go Go.RowKit
set_option maxRecDepth 20000
def badB (lo hi m k : Int) : Bool := ((((decide (lo < -2147483648) || decide (lo > hi)) || decide (hi > 2147483647)) || decide (k < 0)) || decide (k > 255)) || decide (m < 1)
def validB (a : Ab) : Bool := if badB a.lo a.hi a.m a.mask then false else if a.lo = a.hi then decide (a.m = 1) && decide (a.r = 0) else decide (a.m ≤ a.hi - a.lo) && decide (a = abBy a.lo a.hi a.m a.mask)
end Go.Proofs.YtifeioddiddnoaaDoor
