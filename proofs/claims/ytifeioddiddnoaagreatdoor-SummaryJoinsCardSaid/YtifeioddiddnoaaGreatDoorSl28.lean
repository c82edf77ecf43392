/- Joins of summaries: the law. No conditions. -/
import Derived.Test.YtifeioddiddnoaaGreatDoorSl27p
import Derived.Test.YtifeioddiddnoaaGreatDoorScJ
set_option linter.unusedVariables false
set_option linter.unusedSimpArgs false
namespace Go.Proofs.YtifeioddiddnoaaGreatDoor
open Go.Abs Go Go.RowKit
set_option maxRecDepth 20000
def wideS (s : Sy) : Sy := ⟨s.id, nf (trAll 255), 0, 0, 0, s.pairs, 1099511627776⟩
theorem wide_fc (s : Sy) : FC Tryz.prog gs 16 [.agg s.cl] [] (.agg (wideS s).cl) [] NoP := by
  have c : FC Tryz.prog gs 44 [i64 255] [] (.agg (nf (trAll 255)).cl) [] NoP := lift (rall_fc 255)
  unfold wideS
  obtain ⟨u, hu⟩ : ∃ u, u = nf (trAll 255) := ⟨_, rfl⟩
  rw [← hu] at c ⊢
  clear hu
  refine FC.of_AW tok Tryz.func16 (by kernel_rfl) rfl Tryz.ntmps16 [] rfl rfl rfl ?_; intro w0 X0 Y f0 hI0 hX0
  (repeat (first | ((with_reducible show RG _ _ _ _ _ _ _ _); first | refine K1 ?_ | refine K2 ?_ | refine K3 ?_ | refine K4 ?_ | refine K5 ?_ | refine K6 ?_ | refine K7 ?_ | refine L1 ?_ | refine L2 ?_ | refine L3 ?_ | refine RG.d ?_ | refine RG.dd ?_) | refine S1 ?_ | refine S2 ?_ | refine S3 ?_ | refine S4 ?_ | refine S5 ?_ | refine S7 ?_ | refine S8 ?_))
  refine RG.call rfl rfl rfl rfl (c) [] rfl rfl rfl rfl (.nil _) (.nil _) (fun _ h => False.elim h) rfl (A.ren_free _ _ rfl) rfl ?_
  (repeat (first | ((with_reducible show RG _ _ _ _ _ _ _ _); first | refine K1 ?_ | refine K2 ?_ | refine K3 ?_ | refine K4 ?_ | refine K5 ?_ | refine K6 ?_ | refine K7 ?_ | refine L1 ?_ | refine L2 ?_ | refine L3 ?_ | refine RG.d ?_ | refine RG.dd ?_) | refine S1 ?_ | refine S2 ?_ | refine S3 ?_ | refine S4 ?_ | refine S5 ?_ | refine S6 ?_ | refine S7 ?_ | refine S8 ?_))
  exact ⟨⟨_, rfl, rfl⟩, rfl, .nil _⟩
def oneS (a : Sy) (x : Pr) : Sy := ⟨11, a.res, 0, 0, 3, [x], 0⟩
theorem slice1 {l : List Pr} {i : Nat} {x : Pr} (hx : l[i]? = some x) : A.ro (iNat ((i : Int) + 1) - iNat (i : Int)) (((flC Pr.cl l).take (iNat ((i : Int) + 1) * 3)).drop (iNat (i : Int) * 3)) = .ro 1 (flC Pr.cl [x]) := by
  have hi : i < l.length := (List.getElem?_eq_some_iff.1 hx).1
  have hA : (flC Pr.cl (l.take i)).length = i * 3 := by rw [flC_len Pr.cl_len, List.length_take]; congr 1; omega
  have e : l = l.take i ++ x :: l.drop (i + 1) := by rw [← drop_cons hx, List.take_append_drop]
  have e1 : iNat ((i : Int) + 1) = i + 1 := by rw [iNat_eq]; omega
  have e2 : iNat (i : Int) = i := by rw [iNat_eq]; omega
  have e3 : flC Pr.cl l = (flC Pr.cl (l.take i) ++ Pr.cl x) ++ flC Pr.cl (l.drop (i + 1)) := by
    rw [List.append_assoc]
    exact (congrArg (flC Pr.cl) e).trans (flC_append ..)
  have e4 : (flC Pr.cl (l.take i) ++ Pr.cl x).length = (i + 1) * 3 := by rw [List.length_append, hA, Pr.cl_len]; omega
  rw [e1, e2, e3, List.take_left' e4, List.drop_left' hA]
  have : i + 1 - i = 1 := by omega
  rw [this]
  exact congrArg (A.ro 1) (List.append_nil _).symm
/-- The contracts that the law meets. -/
structure JoiC (N : A) (p : Pg) (a b c : Sy) : Prop where
  ex : FC Tryz.prog gs 8 [] [] (.val (.bool true)) [] NoP
  made : FC Tryz.prog gs 9 [N] [] (.tup [.agg (pgC p), .agg a.cl, .agg b.cl]) [] NoP
  jab : FC Tryz.prog gs 14 [.agg a.cl, .agg b.cl] [] (.agg c.cl) [] NoP
  jba : FC Tryz.prog gs 14 [.agg b.cl, .agg a.cl] [] (.agg c.cl) [] NoP
  wa : FC Tryz.prog gs 16 [.agg a.cl] [] (.agg (wideS a).cl) [] NoP
  wb : FC Tryz.prog gs 16 [.agg b.cl] [] (.agg (wideS b).cl) [] NoP
  le : ∀ (i : Nat) (x : Pr), c.pairs[i]? = some x → ∃ u v, FC Tryz.prog gs 12 [.agg (oneS a x).cl, .agg (wideS a).cl] [] (.val (.bool u)) [] NoP ∧ FC Tryz.prog gs 12 [.agg (oneS a x).cl, .agg (wideS b).cl] [] (.val (.bool v)) [] NoP ∧ (u = true ∨ v = true)
  same : FC Tryz.prog gs 17 [.agg c.cl, .agg c.cl] [] (.val (.bool true)) [] NoP
  jaa : FC Tryz.prog gs 14 [.agg a.cl, .agg a.cl] [] (.agg a.cl) [] NoP
  saa : FC Tryz.prog gs 17 [.agg a.cl, .agg a.cl] [] (.val (.bool true)) [] NoP
  right : FC Tryz.prog gs 10 [.agg (pgC p), .agg c.cl] [] (i64 0) [] NoP
  len : c.pairs.length ≤ 1000
  eT : c.throws = IntKind.i64.wrap ((BitVec.ofInt 64 a.throws ||| BitVec.ofInt 64 b.throws).toNat : Nat)
  eL : c.locks = IntKind.i64.wrap ((BitVec.ofInt 64 a.locks ||| BitVec.ofInt 64 b.locks).toNat : Nat)
  eO : c.loads = IntKind.i64.wrap ((BitVec.ofInt 64 a.loads &&& BitVec.ofInt 64 b.loads).toNat : Nat)
  eC : c.cost = if a.cost < b.cost then b.cost else a.cost
set_option maxHeartbeats 16000000 in
theorem joins_w (n : Nat) (l : List A) (f g : Nat → Nat) (p : Pg) (a b c : Sy) (K : JoiC (.agg (.ro n l :: (n8 f ++ n8 g))) p a b c) :
    FC Tryz.prog gs 5 [.agg (.ro n l :: (n8 f ++ n8 g))] [] (.val (.bool true)) [] NoP := by
  refine FC.of_AW tok Tryz.func5 (by kernel_rfl) rfl Tryz.ntmps5 [] rfl rfl rfl ?_; intro w0 X0 Y f0 hI0 hX0
  (repeat (first | ((with_reducible show RG _ _ _ _ _ _ _ _); first | refine K1 ?_ | refine K2 ?_ | refine K3 ?_ | refine K4 ?_ | refine K5 ?_ | refine K6 ?_ | refine K7 ?_ | refine L1 ?_ | refine L2 ?_ | refine L3 ?_ | refine RG.d ?_ | refine RG.dd ?_) | refine S1 ?_ | refine S2 ?_ | refine S3 ?_ | refine S4 ?_ | refine S5 ?_ | refine S7 ?_ | refine S8 ?_))
  refine RG.call rfl rfl rfl rfl (K.ex) [] rfl rfl rfl rfl (.nil _) (.nil _) (fun _ h => False.elim h) rfl (A.ren_free _ _ rfl) rfl ?_
  (repeat (first | ((with_reducible show RG _ _ _ _ _ _ _ _); first | refine K1 ?_ | refine K2 ?_ | refine K3 ?_ | refine K4 ?_ | refine K5 ?_ | refine K6 ?_ | refine K7 ?_ | refine L1 ?_ | refine L2 ?_ | refine L3 ?_ | refine RG.d ?_ | refine RG.dd ?_) | refine S1 ?_ | refine S2 ?_ | refine S3 ?_ | refine S4 ?_ | refine S5 ?_ | refine S7 ?_ | refine S8 ?_))
  refine RG.call rfl rfl rfl rfl (K.made) [] rfl rfl rfl rfl (.nil _) (.nil _) (fun _ h => False.elim h) rfl (A.ren_free _ _ rfl) rfl ?_
  (repeat (first | ((with_reducible show RG _ _ _ _ _ _ _ _); first | refine K1 ?_ | refine K2 ?_ | refine K3 ?_ | refine K4 ?_ | refine K5 ?_ | refine K6 ?_ | refine K7 ?_ | refine L1 ?_ | refine L2 ?_ | refine L3 ?_ | refine RG.d ?_ | refine RG.dd ?_) | refine S1 ?_ | refine S2 ?_ | refine S3 ?_ | refine S4 ?_ | refine S5 ?_ | refine S7 ?_ | refine S8 ?_))
  refine RG.call rfl rfl rfl rfl (K.jab) [] rfl rfl rfl rfl (.nil _) (.nil _) (fun _ h => False.elim h) rfl (A.ren_free _ _ rfl) rfl ?_
  (repeat (first | ((with_reducible show RG _ _ _ _ _ _ _ _); first | refine K1 ?_ | refine K2 ?_ | refine K3 ?_ | refine K4 ?_ | refine K5 ?_ | refine K6 ?_ | refine K7 ?_ | refine L1 ?_ | refine L2 ?_ | refine L3 ?_ | refine RG.d ?_ | refine RG.dd ?_) | refine S1 ?_ | refine S2 ?_ | refine S3 ?_ | refine S4 ?_ | refine S5 ?_ | refine S7 ?_ | refine S8 ?_))
  refine RG.call rfl rfl rfl rfl (K.jba) [] rfl rfl rfl rfl (.nil _) (.nil _) (fun _ h => False.elim h) rfl (A.ren_free _ _ rfl) rfl ?_
  (repeat (first | ((with_reducible show RG _ _ _ _ _ _ _ _); first | refine K1 ?_ | refine K2 ?_ | refine K3 ?_ | refine K4 ?_ | refine K5 ?_ | refine K6 ?_ | refine K7 ?_ | refine L1 ?_ | refine L2 ?_ | refine L3 ?_ | refine RG.d ?_ | refine RG.dd ?_) | refine S1 ?_ | refine S2 ?_ | refine S3 ?_ | refine S4 ?_ | refine S5 ?_ | refine S7 ?_ | refine S8 ?_))
  refine AW.loopS (fun i : Nat => ⟨put 3 (some (.val (.bool true))) (put 4 (some (.ptr 1 [] 0)) (put 5 (some (.ptr 2 [] 0)) (put 6 (some (.ptr 3 [] 0)) (put 7 (some (.ptr 4 [] 0)) (put 8 (some (.ptr 5 [] 0)) (put 9 (some (i64 (i : Int))) noE)))))), hput 1 (.one (pgC p)) (hput 2 (.one (a.cl)) (hput 3 (.one (b.cl)) (hput 4 (.one (c.cl)) (hput 5 (.one (c.cl)) noH)))), 6⟩) (fun i => i ≤ c.pairs.length) (fun i => c.pairs.length - i) 0 (Nat.zero_le _) (Sub.of (by repeat (first | exact SubE.no _ | refine SubE.put rfl ?_)) (by repeat (first | exact SubH.no _ | refine SubH.put rfl ?_)) rfl) ?_
  rintro i hi
  (repeat (first | ((with_reducible show RG _ _ _ _ _ _ _ _); first | refine K1 ?_ | refine K2 ?_ | refine K3 ?_ | refine K4 ?_ | refine K5 ?_ | refine K6 ?_ | refine K7 ?_ | refine L1 ?_ | refine L2 ?_ | refine L3 ?_ | refine RG.d ?_ | refine RG.dd ?_) | refine S1 ?_ | refine S2 ?_ | refine S3 ?_ | refine S4 ?_ | refine S5 ?_ | refine S7 ?_ | refine S8 ?_))
  refine AW.condD rfl (fun k => ?_) (fun k => ?_)
  · have k : (i : Int) < (c.pairs.length : Int) := k
    obtain ⟨x, hx⟩ : ∃ y, c.pairs[i]? = some y := ⟨_, List.getElem?_eq_getElem (by omega)⟩
    obtain ⟨u, v, cu, cv, hh⟩ := K.le i x hx
    have sl := slice1 hx
    have hl := K.len
    have hfl : (flC Pr.cl c.pairs).length = c.pairs.length * 3 := flC_len Pr.cl_len _
    (repeat (first | ((with_reducible show RG _ _ _ _ _ _ _ _); first | refine K1 ?_ | refine K2 ?_ | refine K3 ?_ | refine K4 ?_ | refine K5 ?_ | refine K6 ?_ | refine K7 ?_ | refine L1 ?_ | refine L2 ?_ | refine L3 ?_ | refine RG.d ?_ | refine RG.dd ?_) | refine S1 ?_ | refine S2 ?_ | refine S3 ?_ | refine S4 ?_ | refine S5 ?_ | refine S7 ?_ | refine S8 ?_))
    rw [sl]
    refine RG.call rfl rfl rfl rfl (K.wa) [] rfl rfl rfl rfl (.nil _) (.nil _) (fun _ h => False.elim h) rfl (A.ren_free _ _ rfl) rfl ?_
    (repeat (first | ((with_reducible show RG _ _ _ _ _ _ _ _); first | refine K1 ?_ | refine K2 ?_ | refine K3 ?_ | refine K4 ?_ | refine K5 ?_ | refine K6 ?_ | refine K7 ?_ | refine L1 ?_ | refine L2 ?_ | refine L3 ?_ | refine RG.d ?_ | refine RG.dd ?_) | refine S1 ?_ | refine S2 ?_ | refine S3 ?_ | refine S4 ?_ | refine S5 ?_ | refine S7 ?_ | refine S8 ?_))
    cases u with
    | true =>
      refine RG.call rfl rfl rfl rfl (cu) [] rfl rfl rfl rfl (.nil _) (.nil _) (fun _ h => False.elim h) rfl (A.ren_free _ _ rfl) rfl ?_
      (repeat (first | ((with_reducible show RG _ _ _ _ _ _ _ _); first | refine K1 ?_ | refine K2 ?_ | refine K3 ?_ | refine K4 ?_ | refine K5 ?_ | refine K6 ?_ | refine K7 ?_ | refine L1 ?_ | refine L2 ?_ | refine L3 ?_ | refine RG.d ?_ | refine RG.dd ?_) | refine S1 ?_ | refine S2 ?_ | refine S3 ?_ | refine S4 ?_ | refine S5 ?_ | refine S7 ?_ | refine S8 ?_))
      exact ⟨i + 1, by omega, by omega, Sub.down (by repeat (first | exact SubE.no _ | refine SubE.put rfl ?_ | refine SubE.put (show some (A.val (.int .i64 ((i : Int) + 1))) = some (i64 ((i + 1 : Nat) : Int)) from rfl) ?_)) (by repeat (first | exact SubH.no _ | refine SubH.put rfl ?_)) (by repeat (first | exact LtE.no _ | refine LtE.put rfl ?_)) (by repeat (first | exact LtH.no _ | refine LtH.put rfl rfl ?_)) rfl⟩
    | false =>
      have hv : v = true := hh.resolve_left (fun k => by cases k)
      subst hv
      refine RG.call rfl rfl rfl rfl (cu) [] rfl rfl rfl rfl (.nil _) (.nil _) (fun _ h => False.elim h) rfl (A.ren_free _ _ rfl) rfl ?_
      (repeat (first | ((with_reducible show RG _ _ _ _ _ _ _ _); first | refine K1 ?_ | refine K2 ?_ | refine K3 ?_ | refine K4 ?_ | refine K5 ?_ | refine K6 ?_ | refine K7 ?_ | refine L1 ?_ | refine L2 ?_ | refine L3 ?_ | refine RG.d ?_ | refine RG.dd ?_) | refine S1 ?_ | refine S2 ?_ | refine S3 ?_ | refine S4 ?_ | refine S5 ?_ | refine S7 ?_ | refine S8 ?_))
      refine RG.call rfl rfl rfl rfl (K.wb) [] rfl rfl rfl rfl (.nil _) (.nil _) (fun _ h => False.elim h) rfl (A.ren_free _ _ rfl) rfl ?_
      (repeat (first | ((with_reducible show RG _ _ _ _ _ _ _ _); first | refine K1 ?_ | refine K2 ?_ | refine K3 ?_ | refine K4 ?_ | refine K5 ?_ | refine K6 ?_ | refine K7 ?_ | refine L1 ?_ | refine L2 ?_ | refine L3 ?_ | refine RG.d ?_ | refine RG.dd ?_) | refine S1 ?_ | refine S2 ?_ | refine S3 ?_ | refine S4 ?_ | refine S5 ?_ | refine S7 ?_ | refine S8 ?_))
      refine RG.call rfl rfl rfl rfl (cv) [] rfl rfl rfl rfl (.nil _) (.nil _) (fun _ h => False.elim h) rfl (A.ren_free _ _ rfl) rfl ?_
      (repeat (first | ((with_reducible show RG _ _ _ _ _ _ _ _); first | refine K1 ?_ | refine K2 ?_ | refine K3 ?_ | refine K4 ?_ | refine K5 ?_ | refine K6 ?_ | refine K7 ?_ | refine L1 ?_ | refine L2 ?_ | refine L3 ?_ | refine RG.d ?_ | refine RG.dd ?_) | refine S1 ?_ | refine S2 ?_ | refine S3 ?_ | refine S4 ?_ | refine S5 ?_ | refine S7 ?_ | refine S8 ?_))
      exact ⟨i + 1, by omega, by omega, Sub.down (by repeat (first | exact SubE.no _ | refine SubE.put rfl ?_ | refine SubE.put (show some (A.val (.int .i64 ((i : Int) + 1))) = some (i64 ((i + 1 : Nat) : Int)) from rfl) ?_)) (by repeat (first | exact SubH.no _ | refine SubH.put rfl ?_)) (by repeat (first | exact LtE.no _ | refine LtE.put rfl ?_)) (by repeat (first | exact LtH.no _ | refine LtH.put rfl rfl ?_)) rfl⟩
  · (repeat (first | ((with_reducible show RG _ _ _ _ _ _ _ _); first | refine K1 ?_ | refine K2 ?_ | refine K3 ?_ | refine K4 ?_ | refine K5 ?_ | refine K6 ?_ | refine K7 ?_ | refine L1 ?_ | refine L2 ?_ | refine L3 ?_ | refine RG.d ?_ | refine RG.dd ?_) | refine S1 ?_ | refine S2 ?_ | refine S3 ?_ | refine S4 ?_ | refine S5 ?_ | refine S7 ?_ | refine S8 ?_))
    refine RG.put 62 rfl (v' := .val (.bool true)) (congrArg (fun b => A.val (.bool b)) (decide_eq_true K.eT)) ?_
    (repeat (first | ((with_reducible show RG _ _ _ _ _ _ _ _); first | refine K1 ?_ | refine K2 ?_ | refine K3 ?_ | refine K4 ?_ | refine K5 ?_ | refine K6 ?_ | refine K7 ?_ | refine L1 ?_ | refine L2 ?_ | refine L3 ?_ | refine RG.d ?_ | refine RG.dd ?_) | refine S1 ?_ | refine S2 ?_ | refine S3 ?_ | refine S4 ?_ | refine S5 ?_ | refine S7 ?_ | refine S8 ?_))
    refine RG.put 72 rfl (v' := .val (.bool true)) (congrArg (fun b => A.val (.bool b)) (decide_eq_true K.eL)) ?_
    (repeat (first | ((with_reducible show RG _ _ _ _ _ _ _ _); first | refine K1 ?_ | refine K2 ?_ | refine K3 ?_ | refine K4 ?_ | refine K5 ?_ | refine K6 ?_ | refine K7 ?_ | refine L1 ?_ | refine L2 ?_ | refine L3 ?_ | refine RG.d ?_ | refine RG.dd ?_) | refine S1 ?_ | refine S2 ?_ | refine S3 ?_ | refine S4 ?_ | refine S5 ?_ | refine S7 ?_ | refine S8 ?_))
    refine RG.put 82 rfl (v' := .val (.bool true)) (congrArg (fun b => A.val (.bool b)) (decide_eq_true K.eO)) ?_
    (repeat (first | ((with_reducible show RG _ _ _ _ _ _ _ _); first | refine K1 ?_ | refine K2 ?_ | refine K3 ?_ | refine K4 ?_ | refine K5 ?_ | refine K6 ?_ | refine K7 ?_ | refine L1 ?_ | refine L2 ?_ | refine L3 ?_ | refine RG.d ?_ | refine RG.dd ?_) | refine S1 ?_ | refine S2 ?_ | refine S3 ?_ | refine S4 ?_ | refine S5 ?_ | refine S7 ?_ | refine S8 ?_))
    refine RG.put 92 rfl (v' := .val (.bool true)) (congrArg (fun b => A.val (.bool b)) (decide_eq_true K.eC)) ?_
    (repeat (first | ((with_reducible show RG _ _ _ _ _ _ _ _); first | refine K1 ?_ | refine K2 ?_ | refine K3 ?_ | refine K4 ?_ | refine K5 ?_ | refine K6 ?_ | refine K7 ?_ | refine L1 ?_ | refine L2 ?_ | refine L3 ?_ | refine RG.d ?_ | refine RG.dd ?_) | refine S1 ?_ | refine S2 ?_ | refine S3 ?_ | refine S4 ?_ | refine S5 ?_ | refine S7 ?_ | refine S8 ?_))
    refine RG.call rfl rfl rfl rfl (K.same) [] rfl rfl rfl rfl (.nil _) (.nil _) (fun _ h => False.elim h) rfl (A.ren_free _ _ rfl) rfl ?_
    (repeat (first | ((with_reducible show RG _ _ _ _ _ _ _ _); first | refine K1 ?_ | refine K2 ?_ | refine K3 ?_ | refine K4 ?_ | refine K5 ?_ | refine K6 ?_ | refine K7 ?_ | refine L1 ?_ | refine L2 ?_ | refine L3 ?_ | refine RG.d ?_ | refine RG.dd ?_) | refine S1 ?_ | refine S2 ?_ | refine S3 ?_ | refine S4 ?_ | refine S5 ?_ | refine S7 ?_ | refine S8 ?_))
    refine RG.call rfl rfl rfl rfl (K.jaa) [] rfl rfl rfl rfl (.nil _) (.nil _) (fun _ h => False.elim h) rfl (A.ren_free _ _ rfl) rfl ?_
    (repeat (first | ((with_reducible show RG _ _ _ _ _ _ _ _); first | refine K1 ?_ | refine K2 ?_ | refine K3 ?_ | refine K4 ?_ | refine K5 ?_ | refine K6 ?_ | refine K7 ?_ | refine L1 ?_ | refine L2 ?_ | refine L3 ?_ | refine RG.d ?_ | refine RG.dd ?_) | refine S1 ?_ | refine S2 ?_ | refine S3 ?_ | refine S4 ?_ | refine S5 ?_ | refine S7 ?_ | refine S8 ?_))
    refine RG.call rfl rfl rfl rfl (K.saa) [] rfl rfl rfl rfl (.nil _) (.nil _) (fun _ h => False.elim h) rfl (A.ren_free _ _ rfl) rfl ?_
    (repeat (first | ((with_reducible show RG _ _ _ _ _ _ _ _); first | refine K1 ?_ | refine K2 ?_ | refine K3 ?_ | refine K4 ?_ | refine K5 ?_ | refine K6 ?_ | refine K7 ?_ | refine L1 ?_ | refine L2 ?_ | refine L3 ?_ | refine RG.d ?_ | refine RG.dd ?_) | refine S1 ?_ | refine S2 ?_ | refine S3 ?_ | refine S4 ?_ | refine S5 ?_ | refine S7 ?_ | refine S8 ?_))
    refine RG.call rfl rfl rfl rfl (K.right) [] rfl rfl rfl rfl (.nil _) (.nil _) (fun _ h => False.elim h) rfl (A.ren_free _ _ rfl) rfl ?_
    (repeat (first | ((with_reducible show RG _ _ _ _ _ _ _ _); first | refine K1 ?_ | refine K2 ?_ | refine K3 ?_ | refine K4 ?_ | refine K5 ?_ | refine K6 ?_ | refine K7 ?_ | refine L1 ?_ | refine L2 ?_ | refine L3 ?_ | refine RG.d ?_ | refine RG.dd ?_) | refine S1 ?_ | refine S2 ?_ | refine S3 ?_ | refine S4 ?_ | refine S5 ?_ | refine S6 ?_ | refine S7 ?_ | refine S8 ?_))
    exact ⟨⟨_, rfl, rfl⟩, rfl, .nil _⟩
end Go.Proofs.YtifeioddiddnoaaGreatDoor
