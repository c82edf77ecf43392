/- The order of pairs, heads of definitions. No conditions. -/
import Derived.Test.YtifeioddiddnoaaGreatDoorScB
import Derived.Laws.StructEq
set_option linter.unusedVariables false
set_option linter.unusedSimpArgs false
namespace Go.Proofs.YtifeioddiddnoaaGreatDoor
open Go.Abs Go Go.RowKit
set_option maxRecDepth 20000
theorem order_fc (x y : Pr) (hx : -4611686018427387904 ≤ x.a ∧ x.a ≤ 4611686018427387903 ∧ -4611686018427387904 ≤ x.b ∧ x.b ≤ 4611686018427387903)
    (hy : -4611686018427387904 ≤ y.a ∧ y.a ≤ 4611686018427387903 ∧ -4611686018427387904 ≤ y.b ∧ y.b ≤ 4611686018427387903) :
    FC Tryz.prog ge 38 [.agg x.cl, .agg y.cl] [] (i64 (pcmp x y)) [] NoP := by
  obtain ⟨a, b, s⟩ := x
  obtain ⟨c, d, t⟩ := y
  dsimp only at hx hy
  simp only [Pr.cl, pcmp]
  by_cases h : a = c
  · rw [if_pos h]
    refine FC.of_AW tok Tryz.func38 (by kernel_rfl) rfl Tryz.ntmps38 [] rfl rfl rfl ?_; intro w0 X0 Y f0 hI0 hX0
    (repeat (first | refine K4 ?_ | refine L1 ?_ | refine L2 ?_ | refine RG.d ?_ | refine S1 ?_ | refine S2 ?_))
    refine AW.condD rfl (fun k => absurd h (show a ≠ c from k)) (fun _ => ?_)
    (repeat (first | refine K2 ?_ | refine K4 ?_ | refine L1 ?_ | refine RG.d ?_ | refine S1 ?_ | refine S2 ?_ | refine S3 ?_ | refine S6 ?_))
    exact ⟨⟨_, rfl, rfl⟩, rfl, .nil _⟩
  · rw [if_neg h]
    refine FC.of_AW tok Tryz.func38 (by kernel_rfl) rfl Tryz.ntmps38 [] rfl rfl rfl ?_; intro w0 X0 Y f0 hI0 hX0
    (repeat (first | refine K4 ?_ | refine L1 ?_ | refine L2 ?_ | refine RG.d ?_ | refine S1 ?_ | refine S2 ?_))
    refine AW.condD rfl (fun _ => ?_) (fun k => absurd h (show ¬ ¬ a = c from k))
    (repeat (first | refine K2 ?_ | refine K4 ?_ | refine L1 ?_ | refine RG.d ?_ | refine S1 ?_ | refine S2 ?_ | refine S6 ?_))
    exact ⟨⟨_, rfl, rfl⟩, rfl, .nil _⟩
def headF (l : List Hd) (id : Int) : Option Hd := l.find? (fun h => decide (h.id = id))
abbrev zHdA : List A := [i64 0, i64 0, i64 0, nilA, nilA]
def headA (l : List Hd) (id : Int) : A := match headF l id with
  | some h => .tup [.agg h.cl, .val (.bool true)]
  | none => .tup [.agg zHdA, .val (.bool false)]
set_option maxHeartbeats 4000000 in
theorem headOf_fc (p : Pg) (id : Int) (hn : p.heads.length ≤ 1000) : FC Tryz.prog ge 34 [.agg p.cl, i64 id] [] (headA p.heads id) [] NoP := by
  obtain ⟨⟨globals, classes, queues, sinks, locks, parts, firms⟩, l, defs, threads⟩ := p
  dsimp only at hn
  simp only [Pg.cl, Dc.cl, List.cons_append, List.nil_append]
  obtain ⟨R, hR⟩ : ∃ R, R = headA l id := ⟨_, rfl⟩
  rw [← hR]
  refine FC.of_AW tok Tryz.func34 (by kernel_rfl) rfl Tryz.ntmps34 [] rfl rfl rfl ?_; intro w0 X0 Y f0 hI0 hX0
  (repeat (first | refine K4 ?_ | refine L1 ?_ | refine L2 ?_ | refine RG.d ?_ | refine S1 ?_ | refine S2 ?_ | refine S4 ?_))
  refine AW.loopS (fun i : Nat => ⟨put 1 (some (i64 id)) (put 4 (some (.ptr 1 [] 0)) (put 5 (some (.val (.bool false))) (put 9 (some (.ro l.length (flC Hd.cl l))) (put 10 (some (i64 (l.length : Int))) (put 11 (some (i64 (i : Int))) noE))))), hput 1 (.one (zHdA)) noH, 2⟩) (fun i => i ≤ l.length ∧ R = headA (l.drop i) id) (fun i => l.length - i) 0 ⟨Nat.zero_le _, hR⟩ (Sub.of (by repeat (first | exact SubE.no _ | refine SubE.put rfl ?_)) (by repeat (first | exact SubH.no _ | refine SubH.put rfl ?_)) rfl) ?_
  rintro i ⟨hi, h1⟩
  (repeat (first | refine K4 ?_ | refine RG.d ?_ | refine S1 ?_ | refine S2 ?_))
  refine AW.condD rfl (fun k => ?_) (fun k => ?_)
  rotate_left
  · have k : ¬ (i : Int) < (l.length : Int) := k
    rw [List.drop_eq_nil_of_le (by omega)] at h1
    subst h1
    (repeat (first | refine K4 ?_ | refine L3 ?_ | refine RG.d ?_ | refine S1 ?_ | refine S2 ?_ | refine S5 ?_ | refine S6 ?_))
    exact ⟨⟨_, rfl, rfl⟩, rfl, .nil _⟩
  have k : (i : Int) < (l.length : Int) := k
  obtain ⟨y, hy⟩ : ∃ y, l[i]? = some y := ⟨_, List.getElem?_eq_getElem (by omega)⟩
  have hat := flC_at Hd.cl_len l i y hy
  rw [drop_cons hy] at h1
  obtain ⟨y1, y2, y3, y4, y5⟩ := y
  simp only [Hd.cl, List.cons_append, List.nil_append] at hat
  (repeat (first | refine S1 ?_ | refine S2 ?_ | refine S3 ?_ | refine S4 ?_))
  refine RG.idx tok rfl rfl rfl rfl rfl rfl hat ⟨by omega, by omega⟩ rfl ?_
  (repeat (first | refine K4 ?_ | refine L1 ?_ | refine L2 ?_ | refine L3 ?_ | refine RG.d ?_ | refine S1 ?_ | refine S2 ?_))
  refine AW.condD rfl (fun k2 => ?_) (fun k2 => ?_)
  · have k2 : y1 = id := k2
    have h1 : R = .tup [.agg [i64 y1, i64 y2, i64 y3, .ro y4.length (flC Rg.cl y4), .ro y5.length (flC Rg.cl y5)], .val (.bool true)] := by
      rw [h1]; unfold headA headF; rw [List.find?_cons_of_pos (by simpa using k2)]; rfl
    subst h1
    (repeat (first | refine K4 ?_ | refine L1 ?_ | refine L3 ?_ | refine RG.d ?_ | refine S1 ?_ | refine S2 ?_ | refine S6 ?_))
    exact ⟨⟨_, rfl, rfl⟩, rfl, .nil _⟩
  · have k2 : ¬ y1 = id := k2
    have h1 : R = headA (l.drop (i + 1)) id := by
      rw [h1]; unfold headA headF; rw [List.find?_cons_of_neg (by simpa using k2)]
    (repeat (first | refine K2 ?_ | refine K4 ?_ | refine RG.d ?_ | refine S2 ?_ | refine S3 ?_))
    exact ⟨i + 1, ⟨by omega, h1⟩, by omega, Sub.down (by repeat (first | exact SubE.no _ | refine SubE.put rfl ?_)) (by repeat (first | exact SubH.no _ | refine SubH.put rfl ?_)) (by repeat (first | exact LtE.no _ | refine LtE.put rfl ?_)) (by repeat (first | exact LtH.no _ | refine LtH.put rfl rfl ?_)) rfl⟩
end Go.Proofs.YtifeioddiddnoaaGreatDoor
namespace Go.Proofs.YtifeioddiddnoaaGreatDoor
open Go.Abs Go Go.RowKit
set_option maxRecDepth 20000
def withinB (a : Ab) (v : Int) : Bool := (decide (a.lo ≤ v) && decide (v ≤ a.hi)) && decide (Int.tmod (v - a.lo) a.m = 0)
theorem swithin_fc (a : Ab) (v : Int) (h1 : -2147483648 ≤ a.lo ∧ a.hi ≤ 2147483647) (hm : 1 ≤ a.m) : FC Tryz.prog ge 43 [.agg a.cl, i64 v] [] (.val (.bool (withinB a v))) [] NoP := by
  obtain ⟨lo, hi, m, r, k⟩ := a
  dsimp only at h1 hm
  simp only [withinB, Ab.cl]
  by_cases ha : lo ≤ v
  · rw [decide_eq_true ha, Bool.true_and]
    by_cases hb : v ≤ hi
    · rw [decide_eq_true hb, Bool.true_and]
      refine FC.of_AW tok Tryz.func43 (by kernel_rfl) rfl Tryz.ntmps43 [] rfl rfl rfl ?_; intro w0 X0 Y f0 hI0 hX0
      refine S1 ?_; (repeat (first | refine K4 ?_ | refine L2 ?_ | refine RG.d ?_ | refine S2 ?_))
      repeat refine S1 ?_
      refine S2 ?_
      iterate 4 ((first | refine K4 ?_ | refine L1 ?_))
      refine RG.put 8 rfl (v' := .val (.bool true)) (by rw [decide_eq_true ha]) ?_
      iterate 5 ((first | refine K4 ?_ | refine L1 ?_))
      refine RG.put 13 rfl (v' := .val (.bool true)) (by rw [decide_eq_true hb]) ?_
      (repeat (first | refine K2 ?_ | refine K4 ?_ | refine K5 ?_ | refine L1 ?_ | refine RG.d ?_ | refine S6 ?_))
      exact ⟨⟨_, rfl, rfl⟩, rfl, .nil _⟩
    · rw [decide_eq_false hb, Bool.false_and]
      refine FC.of_AW tok Tryz.func43 (by kernel_rfl) rfl Tryz.ntmps43 [] rfl rfl rfl ?_; intro w0 X0 Y f0 hI0 hX0
      refine S1 ?_; (repeat (first | refine K4 ?_ | refine L2 ?_ | refine RG.d ?_ | refine S2 ?_))
      repeat refine S1 ?_
      refine S2 ?_
      iterate 4 ((first | refine K4 ?_ | refine L1 ?_))
      refine RG.put 8 rfl (v' := .val (.bool true)) (by rw [decide_eq_true ha]) ?_
      iterate 5 ((first | refine K4 ?_ | refine L1 ?_))
      refine RG.put 13 rfl (v' := .val (.bool false)) (by rw [decide_eq_false hb]) ?_
      (repeat (first | refine K1 ?_ | refine K4 ?_ | refine RG.d ?_ | refine S6 ?_))
      exact ⟨⟨_, rfl, rfl⟩, rfl, .nil _⟩
  · rw [decide_eq_false ha, Bool.false_and, Bool.false_and]
    refine FC.of_AW tok Tryz.func43 (by kernel_rfl) rfl Tryz.ntmps43 [] rfl rfl rfl ?_; intro w0 X0 Y f0 hI0 hX0
    refine S1 ?_; (repeat (first | refine K4 ?_ | refine L2 ?_ | refine RG.d ?_ | refine S2 ?_))
    repeat refine S1 ?_
    refine S2 ?_
    iterate 4 ((first | refine K4 ?_ | refine L1 ?_))
    refine RG.put 8 rfl (v' := .val (.bool false)) (by rw [decide_eq_false ha]) ?_
    (repeat (first | refine K1 ?_ | refine K4 ?_ | refine RG.d ?_ | refine S6 ?_))
    exact ⟨⟨_, rfl, rfl⟩, rfl, .nil _⟩
/-- No bit of a number is outside a mask. -/
def inM (x m : Int) : Bool := decide (IntKind.i64.wrap ((BitVec.ofInt 64 x &&& ~~~BitVec.ofInt 64 m).toNat : Nat) = 0)
def hasB (a : Ab) (v k : Int) : Bool := withinB a v && inM k a.mask
theorem shas_fc (a : Ab) (v w : Int) (h1 : -2147483648 ≤ a.lo ∧ a.hi ≤ 2147483647) (hm : 1 ≤ a.m) : FC Tryz.prog ge 15 [.agg a.cl, .agg [i64 v, i64 w]] [] (.val (.bool (hasB a v w))) [] NoP := by
  have c := swithin_fc a v h1 hm
  unfold hasB
  obtain ⟨t, ht⟩ : ∃ t, t = withinB a v := ⟨_, rfl⟩
  rw [← ht] at c ⊢
  obtain ⟨lo, hi, m, r, k⟩ := a
  simp only [Ab.cl] at c ⊢
  cases t
  · rw [Bool.false_and]
    refine FC.of_AW tok Tryz.func15 (by kernel_rfl) rfl Tryz.ntmps15 [] rfl rfl rfl ?_; intro w0 X0 Y f0 hI0 hX0
    (repeat (first | refine RG.call rfl rfl rfl rfl (c) [] rfl rfl rfl rfl (.nil _) (.nil _) (fun _ h => False.elim h) rfl (A.ren_free _ _ rfl) rfl ?_ | refine K1 ?_ | refine K4 ?_ | refine L1 ?_ | refine L2 ?_ | refine RG.d ?_ | refine S1 ?_ | refine S2 ?_))
    (repeat (first | refine S6 ?_))
    exact ⟨⟨_, rfl, rfl⟩, rfl, .nil _⟩
  · rw [Bool.true_and]
    unfold inM
    refine FC.of_AW tok Tryz.func15 (by kernel_rfl) rfl Tryz.ntmps15 [] rfl rfl rfl ?_; intro w0 X0 Y f0 hI0 hX0
    (repeat (first | refine RG.call rfl rfl rfl rfl (c) [] rfl rfl rfl rfl (.nil _) (.nil _) (fun _ h => False.elim h) rfl (A.ren_free _ _ rfl) rfl ?_ | refine K4 ?_ | refine L1 ?_ | refine L2 ?_ | refine RG.d ?_ | refine S1 ?_ | refine S2 ?_))
    (repeat (first | refine S6 ?_))
    exact ⟨⟨_, rfl, rfl⟩, rfl, .nil _⟩
/-- A summary allows an answer: a value, or an exception. -/
def thrB (T n : Int) : Bool := (decide (1 ≤ n) && decide (n ≤ 31)) && decide (IntKind.i64.wrap ((BitVec.ofInt 64 (T.fdiv (2 ^ n.toNat)) &&& BitVec.ofInt 64 1).toNat : Nat) = 1)
def allowsB (s : Sy) (v k t : Int) : Bool := if t = 0 then hasB s.res v k else thrB s.throws t
theorem allows_fc (s : Sy) (v w t : Int) (h1 : -2147483648 ≤ s.res.lo ∧ s.res.hi ≤ 2147483647) (hm : 1 ≤ s.res.m) : FC Tryz.prog ge 13 [.agg s.cl, .agg [i64 v, i64 w, i64 t]] [] (.val (.bool (allowsB s v w t))) [] NoP := by
  have c := shas_fc s.res v w h1 hm
  unfold allowsB
  obtain ⟨b, hb⟩ : ∃ b, b = hasB s.res v w := ⟨_, rfl⟩
  rw [← hb] at c ⊢
  clear hb
  obtain ⟨x1, ⟨x2, x3, x4, x5, x6⟩, x7, x8, x9, x10, x11⟩ := s
  simp only [Sy.cl, Ab.cl] at c ⊢
  by_cases ht : t = 0
  · rw [if_pos ht]
    subst ht
    refine FC.of_AW tok Tryz.func13 (by kernel_rfl) rfl Tryz.ntmps13 [] rfl rfl rfl ?_; intro w0 X0 Y f0 hI0 hX0
    (repeat (first | refine RG.call rfl rfl rfl rfl (c) [] rfl rfl rfl rfl (.nil _) (.nil _) (fun _ h => False.elim h) rfl (A.ren_free _ _ rfl) rfl ?_ | refine K4 ?_ | refine L1 ?_ | refine L2 ?_ | refine RG.d ?_ | refine S1 ?_ | refine S2 ?_ | refine S7 ?_))
    (repeat (first | refine S6 ?_))
    exact ⟨⟨_, rfl, rfl⟩, rfl, .nil _⟩
  rw [if_neg ht]
  unfold thrB
  by_cases h3 : 1 ≤ t
  · rw [decide_eq_true h3, Bool.true_and]
    by_cases h4 : t ≤ 31
    · rw [decide_eq_true h4, Bool.true_and]
      refine FC.of_AW tok Tryz.func13 (by kernel_rfl) rfl Tryz.ntmps13 [] rfl rfl rfl ?_; intro w0 X0 Y f0 hI0 hX0
      (repeat (first | refine K4 ?_ | refine L1 ?_ | refine L2 ?_ | refine RG.d ?_ | refine S1 ?_ | refine S2 ?_))
      refine AW.condD rfl (fun k => absurd (show t = 0 from k) ht) (fun _ => ?_)
      refine S3 ?_
      refine S1 ?_
      refine S2 ?_
      iterate 3 ((first | refine K4 ?_ | refine L1 ?_))
      refine RG.put 15 rfl (v' := .val (.bool true)) (by rw [decide_eq_true h3]) ?_
      iterate 4 ((first | refine K4 ?_ | refine L1 ?_))
      refine RG.put 19 rfl (v' := .val (.bool true)) (by rw [decide_eq_true h4]) ?_
      iterate 9 ((first | refine K4 ?_ | refine K5 ?_ | refine L1 ?_))
      refine RG.put 28 rfl (v' := .val (.bool (decide (IntKind.i64.wrap ((BitVec.ofInt 64 (x7.fdiv (2 ^ t.toNat)) &&& BitVec.ofInt 64 1).toNat : Nat) = 1)))) (by rw [show min t.toNat IntKind.i64.bits = t.toNat from Nat.min_eq_left (show t.toNat ≤ 64 by omega)]; rfl) ?_
      (repeat (first | refine K4 ?_ | refine RG.d ?_ | refine S6 ?_))
      exact ⟨⟨_, rfl, rfl⟩, rfl, .nil _⟩
    · rw [decide_eq_false h4, Bool.false_and]
      refine FC.of_AW tok Tryz.func13 (by kernel_rfl) rfl Tryz.ntmps13 [] rfl rfl rfl ?_; intro w0 X0 Y f0 hI0 hX0
      (repeat (first | refine K4 ?_ | refine L1 ?_ | refine L2 ?_ | refine RG.d ?_ | refine S1 ?_ | refine S2 ?_))
      refine AW.condD rfl (fun k => absurd (show t = 0 from k) ht) (fun _ => ?_)
      refine S3 ?_
      refine S1 ?_
      refine S2 ?_
      iterate 3 ((first | refine K4 ?_ | refine L1 ?_))
      refine RG.put 15 rfl (v' := .val (.bool true)) (by rw [decide_eq_true h3]) ?_
      iterate 4 ((first | refine K4 ?_ | refine L1 ?_))
      refine RG.put 19 rfl (v' := .val (.bool false)) (by rw [decide_eq_false h4]) ?_
      (repeat (first | refine K1 ?_ | refine K4 ?_ | refine RG.d ?_ | refine S6 ?_))
      exact ⟨⟨_, rfl, rfl⟩, rfl, .nil _⟩
  · rw [decide_eq_false h3, Bool.false_and, Bool.false_and]
    refine FC.of_AW tok Tryz.func13 (by kernel_rfl) rfl Tryz.ntmps13 [] rfl rfl rfl ?_; intro w0 X0 Y f0 hI0 hX0
    (repeat (first | refine K4 ?_ | refine L1 ?_ | refine L2 ?_ | refine RG.d ?_ | refine S1 ?_ | refine S2 ?_))
    refine AW.condD rfl (fun k => absurd (show t = 0 from k) ht) (fun _ => ?_)
    refine S3 ?_
    refine S1 ?_
    refine S2 ?_
    iterate 3 ((first | refine K4 ?_ | refine L1 ?_))
    refine RG.put 15 rfl (v' := .val (.bool false)) (by rw [decide_eq_false h3]) ?_
    (repeat (first | refine K1 ?_ | refine K4 ?_ | refine RG.d ?_ | refine S6 ?_))
    exact ⟨⟨_, rfl, rfl⟩, rfl, .nil _⟩
end Go.Proofs.YtifeioddiddnoaaGreatDoor
namespace Go.Proofs.YtifeioddiddnoaaGreatDoor
open Go.Abs Go Go.RowKit
set_option maxRecDepth 20000
theorem eq40 : EqOk Tryz.prog 40 [.int .i64, .int .i64, .int .i64, .int .i64, .int .i64] := by
  refine ⟨by kernel_rfl, fun xs ys w hx hy => ?_⟩
  obtain ⟨v0, l, rfl, f0, hx⟩ := fit_cons hx
  obtain ⟨v1, l, rfl, f1, hx⟩ := fit_cons hx
  obtain ⟨v2, l, rfl, f2, hx⟩ := fit_cons hx
  obtain ⟨v3, l, rfl, f3, hx⟩ := fit_cons hx
  obtain ⟨v4, l, rfl, f4, hx⟩ := fit_cons hx
  obtain rfl := fit_nil hx
  obtain ⟨u0, l, rfl, g0, hy⟩ := fit_cons hy
  obtain ⟨u1, l, rfl, g1, hy⟩ := fit_cons hy
  obtain ⟨u2, l, rfl, g2, hy⟩ := fit_cons hy
  obtain ⟨u3, l, rfl, g3, hy⟩ := fit_cons hy
  obtain ⟨u4, l, rfl, g4, hy⟩ := fit_cons hy
  obtain rfl := fit_nil hy
  obtain ⟨p0, rfl⟩ := fit_int f0
  obtain ⟨p1, rfl⟩ := fit_int f1
  obtain ⟨p2, rfl⟩ := fit_int f2
  obtain ⟨p3, rfl⟩ := fit_int f3
  obtain ⟨p4, rfl⟩ := fit_int f4
  obtain ⟨q0, rfl⟩ := fit_int g0
  obtain ⟨q1, rfl⟩ := fit_int g1
  obtain ⟨q2, rfl⟩ := fit_int g2
  obtain ⟨q3, rfl⟩ := fit_int g3
  obtain ⟨q4, rfl⟩ := fit_int g4
  have u3 := Tryz.underlying3
  have k3 := Tryz.isAgg3
  have z3 := Tryz.sizeOf3
  rw [show (10000 : Nat) = 9999 + 1 from rfl, Op.equalIn]
  simp only [Sem.run_bind, run_underlying Tryz.underlying40, Result.andThen_ok]
  go_simp
  by_cases h0 : p0 = q0 <;> by_cases h1 : p1 = q1 <;> by_cases h2 : p2 = q2 <;> by_cases h3 : p3 = q3 <;> by_cases h4 : p4 = q4 <;> simp [h0, h1, h2, h3, h4, veqL, veq]
theorem eok : EOk Tryz.prog [(40, [.int .i64, .int .i64, .int .i64, .int .i64, .int .i64])] := EOk.cons eq40 (EOk.nil _)
end Go.Proofs.YtifeioddiddnoaaGreatDoor
namespace Go.Proofs.YtifeioddiddnoaaGreatDoor
open Go.Abs Go Go.RowKit
set_option maxRecDepth 20000
def leqB (s t : Tr) : Bool := decide (nf (s.join t) = nf t)
set_option maxHeartbeats 4000000 in
theorem sleq_fc (s t : Tr) (hs : s.bd) (ht : t.bd) : FC Tryz.prog ge 19 [.agg (nf s).cl, .agg (nf t).cl] [] (.val (.bool (leqB s t))) [] NoP := by
  have c := sjoin_fc s t hs ht
  unfold leqB
  obtain ⟨⟨a1, a2, a3, a4, a5⟩, ha⟩ : ∃ a, a = nf (s.join t) := ⟨_, rfl⟩
  rw [← ha] at c ⊢
  obtain ⟨⟨b1, b2, b3, b4, b5⟩, hb⟩ : ∃ a, a = nf t := ⟨_, rfl⟩
  rw [← hb] at c ⊢
  obtain ⟨⟨d1, d2, d3, d4, d5⟩, hd⟩ : ∃ a, a = nf s := ⟨_, rfl⟩
  rw [← hd] at c ⊢
  clear ha hb hd
  have hq : decide ((⟨a1, a2, a3, a4, a5⟩ : Ab) = ⟨b1, b2, b3, b4, b5⟩) = (decide (a1 = b1) && (decide (a2 = b2) && (decide (a3 = b3) && (decide (a4 = b4) && decide (a5 = b5))))) := by simp
  rw [hq]
  simp only [Ab.cl] at c ⊢
  refine FC.of_AW tok Tryz.func19 (by kernel_rfl) rfl Tryz.ntmps19 [] rfl rfl rfl ?_; intro w0 X0 Y f0 hI0 hX0
  (repeat (first | refine RG.call rfl rfl rfl rfl (c) [] rfl rfl rfl rfl (.nil _) (.nil _) (fun _ h => False.elim h) rfl (A.ren_free _ _ rfl) rfl ?_ | refine K4 ?_ | refine L1 ?_ | refine L2 ?_ | refine RG.d ?_ | refine S1 ?_ | refine S2 ?_))
  refine RG.eqA eok rfl rfl rfl rfl rfl rfl rfl rfl rfl rfl rfl (r' := .val (.bool (decide (a1 = b1) && (decide (a2 = b2) && (decide (a3 = b3) && (decide (a4 = b4) && decide (a5 = b5))))))) (by simp [veqL, veq]) ?_
  (repeat (first | refine K4 ?_ | refine RG.dd ?_ | refine S6 ?_))
  exact ⟨⟨_, rfl, rfl⟩, rfl, .nil _⟩
end Go.Proofs.YtifeioddiddnoaaGreatDoor
namespace Go.Proofs.YtifeioddiddnoaaGreatDoor
open Go.Abs Go Go.RowKit
set_option maxRecDepth 20000
def bitsB (x m : Int) : Bool := decide (0 ≤ x) && inM x m
theorem within1_fc (x m : Int) : FC Tryz.prog ge 35 [i64 x, i64 m] [] (.val (.bool (bitsB x m))) [] NoP := by
  unfold bitsB inM
  by_cases h : 0 ≤ x
  · rw [decide_eq_true h, Bool.true_and]
    refine FC.of_AW tok Tryz.func35 (by kernel_rfl) rfl Tryz.ntmps35 [] rfl rfl rfl ?_; intro w0 X0 Y f0 hI0 hX0
    refine S1 ?_; (repeat (first | refine K4 ?_ | refine RG.d ?_ | refine S2 ?_))
    repeat refine S1 ?_
    refine S2 ?_
    iterate 2 ((first | refine K4 ?_))
    refine RG.put 6 rfl (v' := .val (.bool true)) (by rw [decide_eq_true h]) ?_
    (repeat (first | refine K4 ?_ | refine RG.d ?_ | refine S6 ?_))
    exact ⟨⟨_, rfl, rfl⟩, rfl, .nil _⟩
  · rw [decide_eq_false h, Bool.false_and]
    refine FC.of_AW tok Tryz.func35 (by kernel_rfl) rfl Tryz.ntmps35 [] rfl rfl rfl ?_; intro w0 X0 Y f0 hI0 hX0
    refine S1 ?_; (repeat (first | refine K4 ?_ | refine RG.d ?_ | refine S2 ?_))
    repeat refine S1 ?_
    refine S2 ?_
    iterate 2 ((first | refine K4 ?_))
    refine RG.put 6 rfl (v' := .val (.bool false)) (by rw [decide_eq_false h]) ?_
    (repeat (first | refine K1 ?_ | refine K4 ?_ | refine RG.d ?_ | refine S6 ?_))
    exact ⟨⟨_, rfl, rfl⟩, rfl, .nil _⟩
def lockB (x n : Int) : Bool := decide (0 ≤ x) && decide (x < n)
/-- The cells of a program that was made. -/
abbrev pgC (p : Pg) : List A := [gA1, gA2, gA3, gA4, i64 3, i64 3, i64 2, .ro p.heads.length (flC Hd.cl p.heads), .ro p.defs.length (flC Df.cl p.defs), .ro p.threads.length (ints .i64 p.threads)]
theorem pgC_cl {p : Pg} (h : p.dc = dcM) : p.cl = pgC p := by simp only [Pg.cl, h, dcM_cl, List.cons_append, List.nil_append]
theorem lock1_fc (p : Pg) (x : Int) : FC Tryz.prog ge 36 [i64 x, .ptr 0 [] 0] [.one (pgC p)] (.val (.bool (lockB x 3))) [.one (pgC p)] NoP := by
  unfold lockB
  by_cases h : 0 ≤ x
  · rw [decide_eq_true h, Bool.true_and]
    refine FC.of_AW tok Tryz.func36 (by kernel_rfl) rfl Tryz.ntmps36 [] rfl rfl rfl ?_; intro w0 X0 Y f0 hI0 hX0
    refine S1 ?_; (repeat (first | refine K4 ?_ | refine RG.d ?_ | refine S2 ?_))
    repeat refine S1 ?_
    refine S2 ?_
    iterate 2 ((first | refine K4 ?_))
    refine RG.put 5 rfl (v' := .val (.bool true)) (by rw [decide_eq_true h]) ?_
    (repeat (first | refine K4 ?_ | refine L1 ?_ | refine RG.d ?_ | refine S6 ?_))
    exact ⟨⟨_, rfl, rfl⟩, rfl, .cons rfl (.one rfl) (Reg.lt_one rfl) ⟨[], _, rfl⟩ (.nil _)⟩
  · rw [decide_eq_false h, Bool.false_and]
    refine FC.of_AW tok Tryz.func36 (by kernel_rfl) rfl Tryz.ntmps36 [] rfl rfl rfl ?_; intro w0 X0 Y f0 hI0 hX0
    refine S1 ?_; (repeat (first | refine K4 ?_ | refine RG.d ?_ | refine S2 ?_))
    repeat refine S1 ?_
    refine S2 ?_
    iterate 2 ((first | refine K4 ?_))
    refine RG.put 5 rfl (v' := .val (.bool false)) (by rw [decide_eq_false h]) ?_
    (repeat (first | refine K1 ?_ | refine K4 ?_ | refine RG.d ?_ | refine S6 ?_))
    exact ⟨⟨_, rfl, rfl⟩, rfl, .cons rfl (.one rfl) (Reg.lt_one rfl) ⟨[], _, rfl⟩ (.nil _)⟩
end Go.Proofs.YtifeioddiddnoaaGreatDoor
namespace Go.Proofs.YtifeioddiddnoaaGreatDoor
open Go.Abs Go Go.RowKit
set_option maxRecDepth 20000
def badB (lo hi m k : Int) : Bool := ((((decide (lo < -2147483648) || decide (lo > hi)) || decide (hi > 2147483647)) || decide (k < 0)) || decide (k > 255)) || decide (m < 1)
def validB (a : Ab) : Bool := if badB a.lo a.hi a.m a.mask then false else if a.lo = a.hi then decide (a.m = 1) && decide (a.r = 0) else decide (a.m ≤ a.hi - a.lo) && decide (a = abBy a.lo a.hi a.m a.mask)
set_option maxHeartbeats 8000000 in
theorem svalid_fc (a : Ab) : FC Tryz.prog ge 37 [.agg a.cl] [] (.val (.bool (validB a))) [] NoP := by
  obtain ⟨lo, hi, m, r, k⟩ := a
  simp only [validB, Ab.cl]
  by_cases h0 : lo < -2147483648
  · rw [if_pos (show badB lo hi m k = true by unfold badB; rw [decide_eq_true h0]; simp)]
    refine FC.of_AW tok Tryz.func37 (by kernel_rfl) rfl Tryz.ntmps37 [] rfl rfl rfl ?_; intro w0 X0 Y f0 hI0 hX0
    refine S1 ?_; (repeat (first | refine K4 ?_ | refine L2 ?_ | refine RG.d ?_ | refine S2 ?_))
    repeat refine S1 ?_
    refine S2 ?_
    iterate 3 ((first | refine K4 ?_ | refine L1 ?_))
    refine RG.put 5 rfl (v' := .val (.bool true)) (by rw [decide_eq_true h0]) ?_
    (repeat (first | refine K1 ?_ | refine K4 ?_ | refine RG.d ?_ | refine S1 ?_ | refine S2 ?_ | refine S6 ?_ | refine S7 ?_))
    exact ⟨⟨_, rfl, rfl⟩, rfl, .nil _⟩
  by_cases h1 : lo > hi
  · rw [if_pos (show badB lo hi m k = true by unfold badB; rw [decide_eq_true h1]; simp)]
    refine FC.of_AW tok Tryz.func37 (by kernel_rfl) rfl Tryz.ntmps37 [] rfl rfl rfl ?_; intro w0 X0 Y f0 hI0 hX0
    refine S1 ?_; (repeat (first | refine K4 ?_ | refine L2 ?_ | refine RG.d ?_ | refine S2 ?_))
    repeat refine S1 ?_
    refine S2 ?_
    iterate 3 ((first | refine K4 ?_ | refine L1 ?_))
    refine RG.put 5 rfl (v' := .val (.bool false)) (by rw [decide_eq_false h0]) ?_
    iterate 6 ((first | refine K4 ?_ | refine L1 ?_))
    refine RG.put 11 rfl (v' := .val (.bool true)) (by rw [decide_eq_true h1]) ?_
    (repeat (first | refine K1 ?_ | refine K4 ?_ | refine RG.d ?_ | refine S1 ?_ | refine S2 ?_ | refine S6 ?_ | refine S7 ?_))
    exact ⟨⟨_, rfl, rfl⟩, rfl, .nil _⟩
  by_cases h2 : hi > 2147483647
  · rw [if_pos (show badB lo hi m k = true by unfold badB; rw [decide_eq_true h2]; simp)]
    refine FC.of_AW tok Tryz.func37 (by kernel_rfl) rfl Tryz.ntmps37 [] rfl rfl rfl ?_; intro w0 X0 Y f0 hI0 hX0
    refine S1 ?_; (repeat (first | refine K4 ?_ | refine L2 ?_ | refine RG.d ?_ | refine S2 ?_))
    repeat refine S1 ?_
    refine S2 ?_
    iterate 3 ((first | refine K4 ?_ | refine L1 ?_))
    refine RG.put 5 rfl (v' := .val (.bool false)) (by rw [decide_eq_false h0]) ?_
    iterate 6 ((first | refine K4 ?_ | refine L1 ?_))
    refine RG.put 11 rfl (v' := .val (.bool false)) (by rw [decide_eq_false h1]) ?_
    iterate 5 ((first | refine K4 ?_ | refine L1 ?_))
    refine RG.put 16 rfl (v' := .val (.bool true)) (by rw [decide_eq_true h2]) ?_
    (repeat (first | refine K1 ?_ | refine K4 ?_ | refine RG.d ?_ | refine S1 ?_ | refine S2 ?_ | refine S6 ?_ | refine S7 ?_))
    exact ⟨⟨_, rfl, rfl⟩, rfl, .nil _⟩
  by_cases h3 : k < 0
  · rw [if_pos (show badB lo hi m k = true by unfold badB; rw [decide_eq_true h3]; simp)]
    refine FC.of_AW tok Tryz.func37 (by kernel_rfl) rfl Tryz.ntmps37 [] rfl rfl rfl ?_; intro w0 X0 Y f0 hI0 hX0
    refine S1 ?_; (repeat (first | refine K4 ?_ | refine L2 ?_ | refine RG.d ?_ | refine S2 ?_))
    repeat refine S1 ?_
    refine S2 ?_
    iterate 3 ((first | refine K4 ?_ | refine L1 ?_))
    refine RG.put 5 rfl (v' := .val (.bool false)) (by rw [decide_eq_false h0]) ?_
    iterate 6 ((first | refine K4 ?_ | refine L1 ?_))
    refine RG.put 11 rfl (v' := .val (.bool false)) (by rw [decide_eq_false h1]) ?_
    iterate 5 ((first | refine K4 ?_ | refine L1 ?_))
    refine RG.put 16 rfl (v' := .val (.bool false)) (by rw [decide_eq_false h2]) ?_
    iterate 5 ((first | refine K4 ?_ | refine L1 ?_))
    refine RG.put 21 rfl (v' := .val (.bool true)) (by rw [decide_eq_true h3]) ?_
    (repeat (first | refine K1 ?_ | refine K4 ?_ | refine RG.d ?_ | refine S1 ?_ | refine S2 ?_ | refine S6 ?_ | refine S7 ?_))
    exact ⟨⟨_, rfl, rfl⟩, rfl, .nil _⟩
  by_cases h4 : k > 255
  · rw [if_pos (show badB lo hi m k = true by unfold badB; rw [decide_eq_true h4]; simp)]
    refine FC.of_AW tok Tryz.func37 (by kernel_rfl) rfl Tryz.ntmps37 [] rfl rfl rfl ?_; intro w0 X0 Y f0 hI0 hX0
    refine S1 ?_; (repeat (first | refine K4 ?_ | refine L2 ?_ | refine RG.d ?_ | refine S2 ?_))
    repeat refine S1 ?_
    refine S2 ?_
    iterate 3 ((first | refine K4 ?_ | refine L1 ?_))
    refine RG.put 5 rfl (v' := .val (.bool false)) (by rw [decide_eq_false h0]) ?_
    iterate 6 ((first | refine K4 ?_ | refine L1 ?_))
    refine RG.put 11 rfl (v' := .val (.bool false)) (by rw [decide_eq_false h1]) ?_
    iterate 5 ((first | refine K4 ?_ | refine L1 ?_))
    refine RG.put 16 rfl (v' := .val (.bool false)) (by rw [decide_eq_false h2]) ?_
    iterate 5 ((first | refine K4 ?_ | refine L1 ?_))
    refine RG.put 21 rfl (v' := .val (.bool false)) (by rw [decide_eq_false h3]) ?_
    iterate 5 ((first | refine K4 ?_ | refine L1 ?_))
    refine RG.put 26 rfl (v' := .val (.bool true)) (by rw [decide_eq_true h4]) ?_
    (repeat (first | refine K1 ?_ | refine K4 ?_ | refine RG.d ?_ | refine S1 ?_ | refine S2 ?_ | refine S6 ?_ | refine S7 ?_))
    exact ⟨⟨_, rfl, rfl⟩, rfl, .nil _⟩
  by_cases h5 : m < 1
  · rw [if_pos (show badB lo hi m k = true by unfold badB; rw [decide_eq_true h5]; simp)]
    refine FC.of_AW tok Tryz.func37 (by kernel_rfl) rfl Tryz.ntmps37 [] rfl rfl rfl ?_; intro w0 X0 Y f0 hI0 hX0
    refine S1 ?_; (repeat (first | refine K4 ?_ | refine L2 ?_ | refine RG.d ?_ | refine S2 ?_))
    repeat refine S1 ?_
    refine S2 ?_
    iterate 3 ((first | refine K4 ?_ | refine L1 ?_))
    refine RG.put 5 rfl (v' := .val (.bool false)) (by rw [decide_eq_false h0]) ?_
    iterate 6 ((first | refine K4 ?_ | refine L1 ?_))
    refine RG.put 11 rfl (v' := .val (.bool false)) (by rw [decide_eq_false h1]) ?_
    iterate 5 ((first | refine K4 ?_ | refine L1 ?_))
    refine RG.put 16 rfl (v' := .val (.bool false)) (by rw [decide_eq_false h2]) ?_
    iterate 5 ((first | refine K4 ?_ | refine L1 ?_))
    refine RG.put 21 rfl (v' := .val (.bool false)) (by rw [decide_eq_false h3]) ?_
    iterate 5 ((first | refine K4 ?_ | refine L1 ?_))
    refine RG.put 26 rfl (v' := .val (.bool false)) (by rw [decide_eq_false h4]) ?_
    iterate 5 ((first | refine K4 ?_ | refine L1 ?_))
    refine RG.put 31 rfl (v' := .val (.bool true)) (by rw [decide_eq_true h5]) ?_
    (repeat (first | refine K4 ?_ | refine RG.d ?_ | refine S1 ?_ | refine S2 ?_ | refine S6 ?_ | refine S7 ?_))
    exact ⟨⟨_, rfl, rfl⟩, rfl, .nil _⟩
  rw [if_neg (show ¬ badB lo hi m k = true by unfold badB; rw [decide_eq_false h0, decide_eq_false h1, decide_eq_false h2, decide_eq_false h3, decide_eq_false h4, decide_eq_false h5]; decide)]
  by_cases e : lo = hi
  · rw [if_pos e]
    by_cases hm : m = 1
    · rw [decide_eq_true hm, Bool.true_and]
      refine FC.of_AW tok Tryz.func37 (by kernel_rfl) rfl Tryz.ntmps37 [] rfl rfl rfl ?_; intro w0 X0 Y f0 hI0 hX0
      refine S1 ?_; (repeat (first | refine K4 ?_ | refine L2 ?_ | refine RG.d ?_ | refine S2 ?_))
      repeat refine S1 ?_
      refine S2 ?_
      iterate 3 ((first | refine K4 ?_ | refine L1 ?_))
      refine RG.put 5 rfl (v' := .val (.bool false)) (by rw [decide_eq_false h0]) ?_
      iterate 6 ((first | refine K4 ?_ | refine L1 ?_))
      refine RG.put 11 rfl (v' := .val (.bool false)) (by rw [decide_eq_false h1]) ?_
      iterate 5 ((first | refine K4 ?_ | refine L1 ?_))
      refine RG.put 16 rfl (v' := .val (.bool false)) (by rw [decide_eq_false h2]) ?_
      iterate 5 ((first | refine K4 ?_ | refine L1 ?_))
      refine RG.put 21 rfl (v' := .val (.bool false)) (by rw [decide_eq_false h3]) ?_
      iterate 5 ((first | refine K4 ?_ | refine L1 ?_))
      refine RG.put 26 rfl (v' := .val (.bool false)) (by rw [decide_eq_false h4]) ?_
      iterate 5 ((first | refine K4 ?_ | refine L1 ?_))
      refine RG.put 31 rfl (v' := .val (.bool false)) (by rw [decide_eq_false h5]) ?_
      (repeat (first | refine K4 ?_ | refine L1 ?_ | refine RG.d ?_ | refine S1 ?_ | refine S2 ?_ | refine S3 ?_ | refine S8 ?_))
      refine AW.condD rfl (fun _ => ?_) (fun k => absurd e k)
      refine S1 ?_
      refine S2 ?_
      iterate 3 ((first | refine K4 ?_ | refine L1 ?_))
      refine RG.put 40 rfl (v' := .val (.bool true)) (by rw [decide_eq_true hm]) ?_
      (repeat (first | refine K4 ?_ | refine L1 ?_ | refine RG.d ?_ | refine S6 ?_))
      exact ⟨⟨_, rfl, rfl⟩, rfl, .nil _⟩
    · rw [decide_eq_false hm, Bool.false_and]
      refine FC.of_AW tok Tryz.func37 (by kernel_rfl) rfl Tryz.ntmps37 [] rfl rfl rfl ?_; intro w0 X0 Y f0 hI0 hX0
      refine S1 ?_; (repeat (first | refine K4 ?_ | refine L2 ?_ | refine RG.d ?_ | refine S2 ?_))
      repeat refine S1 ?_
      refine S2 ?_
      iterate 3 ((first | refine K4 ?_ | refine L1 ?_))
      refine RG.put 5 rfl (v' := .val (.bool false)) (by rw [decide_eq_false h0]) ?_
      iterate 6 ((first | refine K4 ?_ | refine L1 ?_))
      refine RG.put 11 rfl (v' := .val (.bool false)) (by rw [decide_eq_false h1]) ?_
      iterate 5 ((first | refine K4 ?_ | refine L1 ?_))
      refine RG.put 16 rfl (v' := .val (.bool false)) (by rw [decide_eq_false h2]) ?_
      iterate 5 ((first | refine K4 ?_ | refine L1 ?_))
      refine RG.put 21 rfl (v' := .val (.bool false)) (by rw [decide_eq_false h3]) ?_
      iterate 5 ((first | refine K4 ?_ | refine L1 ?_))
      refine RG.put 26 rfl (v' := .val (.bool false)) (by rw [decide_eq_false h4]) ?_
      iterate 5 ((first | refine K4 ?_ | refine L1 ?_))
      refine RG.put 31 rfl (v' := .val (.bool false)) (by rw [decide_eq_false h5]) ?_
      (repeat (first | refine K4 ?_ | refine L1 ?_ | refine RG.d ?_ | refine S1 ?_ | refine S2 ?_ | refine S3 ?_ | refine S8 ?_))
      refine AW.condD rfl (fun _ => ?_) (fun k => absurd e k)
      refine S1 ?_
      refine S2 ?_
      iterate 3 ((first | refine K4 ?_ | refine L1 ?_))
      refine RG.put 40 rfl (v' := .val (.bool false)) (by rw [decide_eq_false hm]) ?_
      (repeat (first | refine K1 ?_ | refine K4 ?_ | refine RG.d ?_ | refine S6 ?_))
      exact ⟨⟨_, rfl, rfl⟩, rfl, .nil _⟩
  · rw [if_neg e]
    by_cases hm : m ≤ hi - lo
    · rw [decide_eq_true hm, Bool.true_and]
      have c := sby_fc lo hi m k ⟨by omega, by omega, by omega⟩ ⟨by omega, by omega⟩ (fun h => by omega)
      obtain ⟨⟨b1, b2, b3, b4, b5⟩, hb⟩ : ∃ b, b = abBy lo hi m k := ⟨_, rfl⟩
      rw [← hb] at c ⊢
      simp only [Ab.cl] at c
      have hq : decide ((⟨lo, hi, m, r, k⟩ : Ab) = ⟨b1, b2, b3, b4, b5⟩) = (decide (lo = b1) && (decide (hi = b2) && (decide (m = b3) && (decide (r = b4) && decide (k = b5))))) := by simp
      rw [hq]
      refine FC.of_AW tok Tryz.func37 (by kernel_rfl) rfl Tryz.ntmps37 [] rfl rfl rfl ?_; intro w0 X0 Y f0 hI0 hX0
      refine S1 ?_; (repeat (first | refine K4 ?_ | refine L2 ?_ | refine RG.d ?_ | refine S2 ?_))
      repeat refine S1 ?_
      refine S2 ?_
      iterate 3 ((first | refine K4 ?_ | refine L1 ?_))
      refine RG.put 5 rfl (v' := .val (.bool false)) (by rw [decide_eq_false h0]) ?_
      iterate 6 ((first | refine K4 ?_ | refine L1 ?_))
      refine RG.put 11 rfl (v' := .val (.bool false)) (by rw [decide_eq_false h1]) ?_
      iterate 5 ((first | refine K4 ?_ | refine L1 ?_))
      refine RG.put 16 rfl (v' := .val (.bool false)) (by rw [decide_eq_false h2]) ?_
      iterate 5 ((first | refine K4 ?_ | refine L1 ?_))
      refine RG.put 21 rfl (v' := .val (.bool false)) (by rw [decide_eq_false h3]) ?_
      iterate 5 ((first | refine K4 ?_ | refine L1 ?_))
      refine RG.put 26 rfl (v' := .val (.bool false)) (by rw [decide_eq_false h4]) ?_
      iterate 5 ((first | refine K4 ?_ | refine L1 ?_))
      refine RG.put 31 rfl (v' := .val (.bool false)) (by rw [decide_eq_false h5]) ?_
      (repeat (first | refine K4 ?_ | refine L1 ?_ | refine RG.d ?_ | refine S1 ?_ | refine S2 ?_ | refine S3 ?_ | refine S8 ?_))
      refine AW.condD rfl (fun k => absurd k e) (fun _ => ?_)
      refine S3 ?_
      refine S1 ?_
      refine S2 ?_
      iterate 8 ((first | refine K2 ?_ | refine K4 ?_ | refine L1 ?_))
      refine RG.put 53 rfl (v' := .val (.bool true)) (by rw [decide_eq_true hm]) ?_
      (repeat (first | refine RG.call rfl rfl rfl rfl (c) [] rfl rfl rfl rfl (.nil _) (.nil _) (fun _ h => False.elim h) rfl (A.ren_free _ _ rfl) rfl ?_ | refine K4 ?_ | refine L1 ?_))
      refine RG.eqA eok rfl rfl rfl rfl rfl rfl rfl rfl rfl rfl rfl (r' := .val (.bool (decide (lo = b1) && (decide (hi = b2) && (decide (m = b3) && (decide (r = b4) && decide (k = b5))))))) ?_ ?_
      · simp [veqL, veq]
      (repeat (first | refine K4 ?_ | refine RG.dd ?_ | refine S6 ?_))
      exact ⟨⟨_, rfl, rfl⟩, rfl, .nil _⟩
    · rw [decide_eq_false hm, Bool.false_and]
      refine FC.of_AW tok Tryz.func37 (by kernel_rfl) rfl Tryz.ntmps37 [] rfl rfl rfl ?_; intro w0 X0 Y f0 hI0 hX0
      refine S1 ?_; (repeat (first | refine K4 ?_ | refine L2 ?_ | refine RG.d ?_ | refine S2 ?_))
      repeat refine S1 ?_
      refine S2 ?_
      iterate 3 ((first | refine K4 ?_ | refine L1 ?_))
      refine RG.put 5 rfl (v' := .val (.bool false)) (by rw [decide_eq_false h0]) ?_
      iterate 6 ((first | refine K4 ?_ | refine L1 ?_))
      refine RG.put 11 rfl (v' := .val (.bool false)) (by rw [decide_eq_false h1]) ?_
      iterate 5 ((first | refine K4 ?_ | refine L1 ?_))
      refine RG.put 16 rfl (v' := .val (.bool false)) (by rw [decide_eq_false h2]) ?_
      iterate 5 ((first | refine K4 ?_ | refine L1 ?_))
      refine RG.put 21 rfl (v' := .val (.bool false)) (by rw [decide_eq_false h3]) ?_
      iterate 5 ((first | refine K4 ?_ | refine L1 ?_))
      refine RG.put 26 rfl (v' := .val (.bool false)) (by rw [decide_eq_false h4]) ?_
      iterate 5 ((first | refine K4 ?_ | refine L1 ?_))
      refine RG.put 31 rfl (v' := .val (.bool false)) (by rw [decide_eq_false h5]) ?_
      (repeat (first | refine K4 ?_ | refine L1 ?_ | refine RG.d ?_ | refine S1 ?_ | refine S2 ?_ | refine S3 ?_ | refine S8 ?_))
      refine AW.condD rfl (fun k => absurd k e) (fun _ => ?_)
      refine S3 ?_
      refine S1 ?_
      refine S2 ?_
      iterate 8 ((first | refine K2 ?_ | refine K4 ?_ | refine L1 ?_))
      refine RG.put 53 rfl (v' := .val (.bool false)) (by rw [decide_eq_false hm]) ?_
      (repeat (first | refine K1 ?_ | refine K4 ?_ | refine RG.dd ?_ | refine S6 ?_))
      exact ⟨⟨_, rfl, rfl⟩, rfl, .nil _⟩
end Go.Proofs.YtifeioddiddnoaaGreatDoor
