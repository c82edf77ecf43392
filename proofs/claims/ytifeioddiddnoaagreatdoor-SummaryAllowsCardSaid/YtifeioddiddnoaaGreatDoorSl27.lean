/- What summaries allow: the law. No conditions. -/
import Derived.Test.YtifeioddiddnoaaGreatDoorSl27p
import Derived.Test.YtifeioddiddnoaaGreatDoorScJ
set_option linter.unusedVariables false
set_option linter.unusedSimpArgs false
namespace Go.Proofs.YtifeioddiddnoaaGreatDoor
open Go.Abs Go Go.RowKit
set_option maxRecDepth 20000
abbrev i8 (n : Int) : A := .val (.int .i8 n)
/-- The contracts that the law meets. -/
structure AllC (N : A) (p : Pg) (a b ab t : Sy) (v w th : Int) (u A' B' AB T H : Bool) : Prop where
  ex : FC Tryz.prog gs 8 [] [] (.val (.bool true)) [] NoP
  made : FC Tryz.prog gs 9 [N] [] (.tup [.agg (pgC p), .agg a.cl, .agg b.cl]) [] NoP
  top : FC Tryz.prog gs 11 [.agg (pgC p), i64 11] [] (mdA (t, 0)) [] NoP
  lab : FC Tryz.prog gs 12 [.agg a.cl, .agg b.cl] [] (.val (.bool u)) [] NoP
  la : FC Tryz.prog gs 13 [.agg a.cl, .agg [i64 v, i64 w, i64 th]] [] (.val (.bool A')) [] NoP
  lb : FC Tryz.prog gs 13 [.agg b.cl, .agg [i64 v, i64 w, i64 th]] [] (.val (.bool B')) [] NoP
  jab : FC Tryz.prog gs 14 [.agg a.cl, .agg b.cl] [] (.agg ab.cl) [] NoP
  lj : FC Tryz.prog gs 13 [.agg ab.cl, .agg [i64 v, i64 w, i64 th]] [] (.val (.bool AB)) [] NoP
  lt : FC Tryz.prog gs 13 [.agg t.cl, .agg [i64 v, i64 w, i64 th]] [] (.val (.bool T)) [] NoP
  has : FC Tryz.prog gs 15 [.agg a.res.cl, .agg [i64 v, i64 w]] [] (.val (.bool H)) [] NoP
  f1 : u = true → A' = true → B' = true
  f2 : A' = true ∨ B' = true → AB = true
  f3 : th = 0 → A' = H
  f4 : th = 0 → T = fitsB v w
  f5 : th ≠ 0 → T = (decide (th ≥ 1) && decide (th ≤ 31))
set_option maxHeartbeats 16000000 in
theorem allows_w (n : Nat) (l : List A) (f g : Nat → Nat) (p : Pg) (a b ab t : Sy) (v w th : Int) (u A' B' AB T H : Bool) (ht : -128 ≤ th ∧ th ≤ 127) (K : AllC (.agg (.ro n l :: (n8 f ++ n8 g))) p a b ab t v w th u A' B' AB T H) :
    FC Tryz.prog gs 4 [.agg (.ro n l :: (n8 f ++ n8 g)), .agg [i64 v, i64 w], i8 th] [] (.val (.bool true)) [] NoP := by
  refine FC.of_AW tok Tryz.func4 (by kernel_rfl) rfl Tryz.ntmps4 [] rfl rfl rfl ?_; intro w0 X0 Y f0 hI0 hX0
  (repeat (first | ((with_reducible show RG _ _ _ _ _ _ _ _); first | refine K1 ?_ | refine K2 ?_ | refine K3 ?_ | refine K4 ?_ | refine K5 ?_ | refine K6 ?_ | refine K7 ?_ | refine L1 ?_ | refine L2 ?_ | refine L3 ?_ | refine RG.d ?_ | refine RG.dd ?_) | refine S1 ?_ | refine S2 ?_ | refine S3 ?_ | refine S4 ?_ | refine S5 ?_ | refine S7 ?_ | refine S8 ?_))
  refine RG.call rfl rfl rfl rfl (K.ex) [] rfl rfl rfl rfl (.nil _) (.nil _) (fun _ h => False.elim h) rfl (A.ren_free _ _ rfl) rfl ?_
  (repeat (first | ((with_reducible show RG _ _ _ _ _ _ _ _); first | refine K1 ?_ | refine K2 ?_ | refine K3 ?_ | refine K4 ?_ | refine K5 ?_ | refine K6 ?_ | refine K7 ?_ | refine L1 ?_ | refine L2 ?_ | refine L3 ?_ | refine RG.d ?_ | refine RG.dd ?_) | refine S1 ?_ | refine S2 ?_ | refine S3 ?_ | refine S4 ?_ | refine S5 ?_ | refine S7 ?_ | refine S8 ?_))
  refine RG.call rfl rfl rfl rfl (K.made) [] rfl rfl rfl rfl (.nil _) (.nil _) (fun _ h => False.elim h) rfl (A.ren_free _ _ rfl) rfl ?_
  (repeat (first | ((with_reducible show RG _ _ _ _ _ _ _ _); first | refine K1 ?_ | refine K2 ?_ | refine K3 ?_ | refine K4 ?_ | refine K5 ?_ | refine K6 ?_ | refine K7 ?_ | refine L1 ?_ | refine L2 ?_ | refine L3 ?_ | refine RG.d ?_ | refine RG.dd ?_) | refine S1 ?_ | refine S2 ?_ | refine S3 ?_ | refine S4 ?_ | refine S5 ?_ | refine S7 ?_ | refine S8 ?_))
  refine RG.call rfl rfl rfl rfl (K.top) [] rfl rfl rfl rfl (.nil _) (.nil _) (fun _ h => False.elim h) rfl (A.ren_free _ _ rfl) rfl ?_
  (repeat (first | ((with_reducible show RG _ _ _ _ _ _ _ _); first | refine K1 ?_ | refine K2 ?_ | refine K3 ?_ | refine K4 ?_ | refine K5 ?_ | refine K6 ?_ | refine K7 ?_ | refine L1 ?_ | refine L2 ?_ | refine L3 ?_ | refine RG.d ?_ | refine RG.dd ?_) | refine S2 ?_ | refine S3 ?_ | refine S4 ?_ | refine S5 ?_ | refine S7 ?_ | refine S8 ?_))
  refine AW.sub (t := ⟨put 2 (some (i8 th)) (put 4 (some (.ptr 1 [] 0)) (put 7 (some (.val (.bool true))) (put 9 (some (.ptr 3 [] 0)) (put 10 (some (.ptr 4 [] 0)) (put 11 (some (.ptr 5 [] 0)) (put 12 (some (.ptr 6 [] 0)) noE)))))), hput 1 (.one ([i64 v, i64 w])) (hput 3 (.one (a.cl)) (hput 4 (.one (b.cl)) (hput 5 (.one ([i64 v, i64 w, i64 th])) (hput 6 (.one (t.cl ++ [i64 0])) noH)))), 7⟩) (Sub.of (by repeat (first | exact SubE.no _ | refine SubE.put rfl ?_)) (by repeat (first | exact SubH.no _ | refine SubH.put rfl ?_)) rfl) ?_
  refine AW.seqJ (fun _ : Unit => ⟨put 2 (some (i8 th)) (put 4 (some (.ptr 1 [] 0)) (put 7 (some (.val (.bool true))) (put 9 (some (.ptr 3 [] 0)) (put 10 (some (.ptr 4 [] 0)) (put 11 (some (.ptr 5 [] 0)) (put 12 (some (.ptr 6 [] 0)) noE)))))), hput 1 (.one ([i64 v, i64 w])) (hput 3 (.one (a.cl)) (hput 4 (.one (b.cl)) (hput 5 (.one ([i64 v, i64 w, i64 th])) (hput 6 (.one (t.cl ++ [i64 0])) noH)))), 7⟩) (fun _ => True) ?_ (fun _ _ => ?_)
  · have f1 := K.f1
    cases u with
    | false =>
      (repeat (first | ((with_reducible show RG _ _ _ _ _ _ _ _); first | refine K1 ?_ | refine K2 ?_ | refine K3 ?_ | refine K4 ?_ | refine K5 ?_ | refine K6 ?_ | refine K7 ?_ | refine L1 ?_ | refine L2 ?_ | refine L3 ?_ | refine RG.d ?_ | refine RG.dd ?_) | refine S1 ?_ | refine S2 ?_ | refine S3 ?_ | refine S4 ?_ | refine S5 ?_ | refine S7 ?_ | refine S8 ?_))
      refine RG.call rfl rfl rfl rfl (K.lab) [] rfl rfl rfl rfl (.nil _) (.nil _) (fun _ h => False.elim h) rfl (A.ren_free _ _ rfl) rfl ?_
      (repeat (first | ((with_reducible show RG _ _ _ _ _ _ _ _); first | refine K1 ?_ | refine K2 ?_ | refine K3 ?_ | refine K4 ?_ | refine K5 ?_ | refine K6 ?_ | refine K7 ?_ | refine L1 ?_ | refine L2 ?_ | refine L3 ?_ | refine RG.d ?_ | refine RG.dd ?_) | refine S1 ?_ | refine S2 ?_ | refine S3 ?_ | refine S4 ?_ | refine S5 ?_ | refine S7 ?_ | refine S8 ?_))
      exact ⟨(), trivial, Sub.of (by repeat (first | exact SubE.no _ | refine SubE.put rfl ?_)) (by repeat (first | exact SubH.no _ | refine SubH.put rfl ?_)) rfl⟩
    | true =>
      cases A' with
      | false =>
        (repeat (first | ((with_reducible show RG _ _ _ _ _ _ _ _); first | refine K1 ?_ | refine K2 ?_ | refine K3 ?_ | refine K4 ?_ | refine K5 ?_ | refine K6 ?_ | refine K7 ?_ | refine L1 ?_ | refine L2 ?_ | refine L3 ?_ | refine RG.d ?_ | refine RG.dd ?_) | refine S1 ?_ | refine S2 ?_ | refine S3 ?_ | refine S4 ?_ | refine S5 ?_ | refine S7 ?_ | refine S8 ?_))
        refine RG.call rfl rfl rfl rfl (K.lab) [] rfl rfl rfl rfl (.nil _) (.nil _) (fun _ h => False.elim h) rfl (A.ren_free _ _ rfl) rfl ?_
        (repeat (first | ((with_reducible show RG _ _ _ _ _ _ _ _); first | refine K1 ?_ | refine K2 ?_ | refine K3 ?_ | refine K4 ?_ | refine K5 ?_ | refine K6 ?_ | refine K7 ?_ | refine L1 ?_ | refine L2 ?_ | refine L3 ?_ | refine RG.d ?_ | refine RG.dd ?_) | refine S1 ?_ | refine S2 ?_ | refine S3 ?_ | refine S4 ?_ | refine S5 ?_ | refine S7 ?_ | refine S8 ?_))
        refine RG.call rfl rfl rfl rfl (K.la) [] rfl rfl rfl rfl (.nil _) (.nil _) (fun _ h => False.elim h) rfl (A.ren_free _ _ rfl) rfl ?_
        (repeat (first | ((with_reducible show RG _ _ _ _ _ _ _ _); first | refine K1 ?_ | refine K2 ?_ | refine K3 ?_ | refine K4 ?_ | refine K5 ?_ | refine K6 ?_ | refine K7 ?_ | refine L1 ?_ | refine L2 ?_ | refine L3 ?_ | refine RG.d ?_ | refine RG.dd ?_) | refine S1 ?_ | refine S2 ?_ | refine S3 ?_ | refine S4 ?_ | refine S5 ?_ | refine S7 ?_ | refine S8 ?_))
        exact ⟨(), trivial, Sub.of (by repeat (first | exact SubE.no _ | refine SubE.put rfl ?_)) (by repeat (first | exact SubH.no _ | refine SubH.put rfl ?_)) rfl⟩
      | true =>
        have e := f1 rfl rfl
        subst e
        (repeat (first | ((with_reducible show RG _ _ _ _ _ _ _ _); first | refine K1 ?_ | refine K2 ?_ | refine K3 ?_ | refine K4 ?_ | refine K5 ?_ | refine K6 ?_ | refine K7 ?_ | refine L1 ?_ | refine L2 ?_ | refine L3 ?_ | refine RG.d ?_ | refine RG.dd ?_) | refine S1 ?_ | refine S2 ?_ | refine S3 ?_ | refine S4 ?_ | refine S5 ?_ | refine S7 ?_ | refine S8 ?_))
        refine RG.call rfl rfl rfl rfl (K.lab) [] rfl rfl rfl rfl (.nil _) (.nil _) (fun _ h => False.elim h) rfl (A.ren_free _ _ rfl) rfl ?_
        (repeat (first | ((with_reducible show RG _ _ _ _ _ _ _ _); first | refine K1 ?_ | refine K2 ?_ | refine K3 ?_ | refine K4 ?_ | refine K5 ?_ | refine K6 ?_ | refine K7 ?_ | refine L1 ?_ | refine L2 ?_ | refine L3 ?_ | refine RG.d ?_ | refine RG.dd ?_) | refine S1 ?_ | refine S2 ?_ | refine S3 ?_ | refine S4 ?_ | refine S5 ?_ | refine S7 ?_ | refine S8 ?_))
        refine RG.call rfl rfl rfl rfl (K.la) [] rfl rfl rfl rfl (.nil _) (.nil _) (fun _ h => False.elim h) rfl (A.ren_free _ _ rfl) rfl ?_
        (repeat (first | ((with_reducible show RG _ _ _ _ _ _ _ _); first | refine K1 ?_ | refine K2 ?_ | refine K3 ?_ | refine K4 ?_ | refine K5 ?_ | refine K6 ?_ | refine K7 ?_ | refine L1 ?_ | refine L2 ?_ | refine L3 ?_ | refine RG.d ?_ | refine RG.dd ?_) | refine S1 ?_ | refine S2 ?_ | refine S3 ?_ | refine S4 ?_ | refine S5 ?_ | refine S7 ?_ | refine S8 ?_))
        refine RG.call rfl rfl rfl rfl (K.lb) [] rfl rfl rfl rfl (.nil _) (.nil _) (fun _ h => False.elim h) rfl (A.ren_free _ _ rfl) rfl ?_
        (repeat (first | ((with_reducible show RG _ _ _ _ _ _ _ _); first | refine K1 ?_ | refine K2 ?_ | refine K3 ?_ | refine K4 ?_ | refine K5 ?_ | refine K6 ?_ | refine K7 ?_ | refine L1 ?_ | refine L2 ?_ | refine L3 ?_ | refine RG.d ?_ | refine RG.dd ?_) | refine S1 ?_ | refine S2 ?_ | refine S3 ?_ | refine S4 ?_ | refine S5 ?_ | refine S7 ?_ | refine S8 ?_))
        exact ⟨(), trivial, Sub.of (by repeat (first | exact SubE.no _ | refine SubE.put rfl ?_)) (by repeat (first | exact SubH.no _ | refine SubH.put rfl ?_)) rfl⟩
  refine AW.seqJ (fun _ : Unit => ⟨put 2 (some (i8 th)) (put 4 (some (.ptr 1 [] 0)) (put 7 (some (.val (.bool true))) (put 9 (some (.ptr 3 [] 0)) (put 10 (some (.ptr 4 [] 0)) (put 11 (some (.ptr 5 [] 0)) (put 12 (some (.ptr 6 [] 0)) noE)))))), hput 1 (.one ([i64 v, i64 w])) (hput 3 (.one (a.cl)) (hput 4 (.one (b.cl)) (hput 5 (.one ([i64 v, i64 w, i64 th])) (hput 6 (.one (t.cl ++ [i64 0])) noH)))), 7⟩) (fun _ => True) ?_ (fun _ _ => ?_)
  · have f2 := K.f2
    cases A' with
    | true =>
      have e := f2 (.inl rfl)
      subst e
      (repeat (first | ((with_reducible show RG _ _ _ _ _ _ _ _); first | refine K1 ?_ | refine K2 ?_ | refine K3 ?_ | refine K4 ?_ | refine K5 ?_ | refine K6 ?_ | refine K7 ?_ | refine L1 ?_ | refine L2 ?_ | refine L3 ?_ | refine RG.d ?_ | refine RG.dd ?_) | refine S1 ?_ | refine S2 ?_ | refine S3 ?_ | refine S4 ?_ | refine S5 ?_ | refine S7 ?_ | refine S8 ?_))
      refine RG.call rfl rfl rfl rfl (K.la) [] rfl rfl rfl rfl (.nil _) (.nil _) (fun _ h => False.elim h) rfl (A.ren_free _ _ rfl) rfl ?_
      (repeat (first | ((with_reducible show RG _ _ _ _ _ _ _ _); first | refine K1 ?_ | refine K2 ?_ | refine K3 ?_ | refine K4 ?_ | refine K5 ?_ | refine K6 ?_ | refine K7 ?_ | refine L1 ?_ | refine L2 ?_ | refine L3 ?_ | refine RG.d ?_ | refine RG.dd ?_) | refine S1 ?_ | refine S2 ?_ | refine S3 ?_ | refine S4 ?_ | refine S5 ?_ | refine S7 ?_ | refine S8 ?_))
      refine RG.call rfl rfl rfl rfl (K.jab) [] rfl rfl rfl rfl (.nil _) (.nil _) (fun _ h => False.elim h) rfl (A.ren_free _ _ rfl) rfl ?_
      (repeat (first | ((with_reducible show RG _ _ _ _ _ _ _ _); first | refine K1 ?_ | refine K2 ?_ | refine K3 ?_ | refine K4 ?_ | refine K5 ?_ | refine K6 ?_ | refine K7 ?_ | refine L1 ?_ | refine L2 ?_ | refine L3 ?_ | refine RG.d ?_ | refine RG.dd ?_) | refine S1 ?_ | refine S2 ?_ | refine S3 ?_ | refine S4 ?_ | refine S5 ?_ | refine S7 ?_ | refine S8 ?_))
      refine RG.call rfl rfl rfl rfl (K.lj) [] rfl rfl rfl rfl (.nil _) (.nil _) (fun _ h => False.elim h) rfl (A.ren_free _ _ rfl) rfl ?_
      (repeat (first | ((with_reducible show RG _ _ _ _ _ _ _ _); first | refine K1 ?_ | refine K2 ?_ | refine K3 ?_ | refine K4 ?_ | refine K5 ?_ | refine K6 ?_ | refine K7 ?_ | refine L1 ?_ | refine L2 ?_ | refine L3 ?_ | refine RG.d ?_ | refine RG.dd ?_) | refine S1 ?_ | refine S2 ?_ | refine S3 ?_ | refine S4 ?_ | refine S5 ?_ | refine S7 ?_ | refine S8 ?_))
      exact ⟨(), trivial, Sub.of (by repeat (first | exact SubE.no _ | refine SubE.put rfl ?_)) (by repeat (first | exact SubH.no _ | refine SubH.put rfl ?_)) rfl⟩
    | false =>
      cases B' with
      | true =>
        have e := f2 (.inr rfl)
        subst e
        (repeat (first | ((with_reducible show RG _ _ _ _ _ _ _ _); first | refine K1 ?_ | refine K2 ?_ | refine K3 ?_ | refine K4 ?_ | refine K5 ?_ | refine K6 ?_ | refine K7 ?_ | refine L1 ?_ | refine L2 ?_ | refine L3 ?_ | refine RG.d ?_ | refine RG.dd ?_) | refine S1 ?_ | refine S2 ?_ | refine S3 ?_ | refine S4 ?_ | refine S5 ?_ | refine S7 ?_ | refine S8 ?_))
        refine RG.call rfl rfl rfl rfl (K.la) [] rfl rfl rfl rfl (.nil _) (.nil _) (fun _ h => False.elim h) rfl (A.ren_free _ _ rfl) rfl ?_
        (repeat (first | ((with_reducible show RG _ _ _ _ _ _ _ _); first | refine K1 ?_ | refine K2 ?_ | refine K3 ?_ | refine K4 ?_ | refine K5 ?_ | refine K6 ?_ | refine K7 ?_ | refine L1 ?_ | refine L2 ?_ | refine L3 ?_ | refine RG.d ?_ | refine RG.dd ?_) | refine S1 ?_ | refine S2 ?_ | refine S3 ?_ | refine S4 ?_ | refine S5 ?_ | refine S7 ?_ | refine S8 ?_))
        refine RG.call rfl rfl rfl rfl (K.lb) [] rfl rfl rfl rfl (.nil _) (.nil _) (fun _ h => False.elim h) rfl (A.ren_free _ _ rfl) rfl ?_
        (repeat (first | ((with_reducible show RG _ _ _ _ _ _ _ _); first | refine K1 ?_ | refine K2 ?_ | refine K3 ?_ | refine K4 ?_ | refine K5 ?_ | refine K6 ?_ | refine K7 ?_ | refine L1 ?_ | refine L2 ?_ | refine L3 ?_ | refine RG.d ?_ | refine RG.dd ?_) | refine S1 ?_ | refine S2 ?_ | refine S3 ?_ | refine S4 ?_ | refine S5 ?_ | refine S7 ?_ | refine S8 ?_))
        refine RG.call rfl rfl rfl rfl (K.jab) [] rfl rfl rfl rfl (.nil _) (.nil _) (fun _ h => False.elim h) rfl (A.ren_free _ _ rfl) rfl ?_
        (repeat (first | ((with_reducible show RG _ _ _ _ _ _ _ _); first | refine K1 ?_ | refine K2 ?_ | refine K3 ?_ | refine K4 ?_ | refine K5 ?_ | refine K6 ?_ | refine K7 ?_ | refine L1 ?_ | refine L2 ?_ | refine L3 ?_ | refine RG.d ?_ | refine RG.dd ?_) | refine S1 ?_ | refine S2 ?_ | refine S3 ?_ | refine S4 ?_ | refine S5 ?_ | refine S7 ?_ | refine S8 ?_))
        refine RG.call rfl rfl rfl rfl (K.lj) [] rfl rfl rfl rfl (.nil _) (.nil _) (fun _ h => False.elim h) rfl (A.ren_free _ _ rfl) rfl ?_
        (repeat (first | ((with_reducible show RG _ _ _ _ _ _ _ _); first | refine K1 ?_ | refine K2 ?_ | refine K3 ?_ | refine K4 ?_ | refine K5 ?_ | refine K6 ?_ | refine K7 ?_ | refine L1 ?_ | refine L2 ?_ | refine L3 ?_ | refine RG.d ?_ | refine RG.dd ?_) | refine S1 ?_ | refine S2 ?_ | refine S3 ?_ | refine S4 ?_ | refine S5 ?_ | refine S7 ?_ | refine S8 ?_))
        exact ⟨(), trivial, Sub.of (by repeat (first | exact SubE.no _ | refine SubE.put rfl ?_)) (by repeat (first | exact SubH.no _ | refine SubH.put rfl ?_)) rfl⟩
      | false =>
        (repeat (first | ((with_reducible show RG _ _ _ _ _ _ _ _); first | refine K1 ?_ | refine K2 ?_ | refine K3 ?_ | refine K4 ?_ | refine K5 ?_ | refine K6 ?_ | refine K7 ?_ | refine L1 ?_ | refine L2 ?_ | refine L3 ?_ | refine RG.d ?_ | refine RG.dd ?_) | refine S1 ?_ | refine S2 ?_ | refine S3 ?_ | refine S4 ?_ | refine S5 ?_ | refine S7 ?_ | refine S8 ?_))
        refine RG.call rfl rfl rfl rfl (K.la) [] rfl rfl rfl rfl (.nil _) (.nil _) (fun _ h => False.elim h) rfl (A.ren_free _ _ rfl) rfl ?_
        (repeat (first | ((with_reducible show RG _ _ _ _ _ _ _ _); first | refine K1 ?_ | refine K2 ?_ | refine K3 ?_ | refine K4 ?_ | refine K5 ?_ | refine K6 ?_ | refine K7 ?_ | refine L1 ?_ | refine L2 ?_ | refine L3 ?_ | refine RG.d ?_ | refine RG.dd ?_) | refine S1 ?_ | refine S2 ?_ | refine S3 ?_ | refine S4 ?_ | refine S5 ?_ | refine S7 ?_ | refine S8 ?_))
        refine RG.call rfl rfl rfl rfl (K.lb) [] rfl rfl rfl rfl (.nil _) (.nil _) (fun _ h => False.elim h) rfl (A.ren_free _ _ rfl) rfl ?_
        (repeat (first | ((with_reducible show RG _ _ _ _ _ _ _ _); first | refine K1 ?_ | refine K2 ?_ | refine K3 ?_ | refine K4 ?_ | refine K5 ?_ | refine K6 ?_ | refine K7 ?_ | refine L1 ?_ | refine L2 ?_ | refine L3 ?_ | refine RG.d ?_ | refine RG.dd ?_) | refine S1 ?_ | refine S2 ?_ | refine S3 ?_ | refine S4 ?_ | refine S5 ?_ | refine S7 ?_ | refine S8 ?_))
        exact ⟨(), trivial, Sub.of (by repeat (first | exact SubE.no _ | refine SubE.put rfl ?_)) (by repeat (first | exact SubH.no _ | refine SubH.put rfl ?_)) rfl⟩
  refine AW.seqB 13 (fun b => b = fitsB v w) ?_ ?_
  · refine S2 ?_
    iterate 4 ((first | refine K1 ?_ | refine K2 ?_ | refine K3 ?_ | refine K4 ?_ | refine K5 ?_ | refine K6 ?_ | refine K7 ?_ | refine L1 ?_ | refine L2 ?_ | refine L3 ?_))
    (repeat (first | ((with_reducible show RG _ _ _ _ _ _ _ _); first | refine K1 ?_ | refine K2 ?_ | refine K3 ?_ | refine K4 ?_ | refine K5 ?_ | refine K6 ?_ | refine K7 ?_ | refine L1 ?_ | refine L2 ?_ | refine L3 ?_ | refine RG.d ?_ | refine RG.dd ?_) | refine S2 ?_ | refine S3 ?_ | refine S4 ?_ | refine S5 ?_ | refine S7 ?_ | refine S8 ?_))
    refine RG.splitB 62 rfl (fun h62 => ?_) (fun h62 => ?_)
    rotate_left
    · (repeat (first | ((with_reducible show RG _ _ _ _ _ _ _ _); first | refine K1 ?_ | refine K2 ?_ | refine K3 ?_ | refine K4 ?_ | refine K5 ?_ | refine K6 ?_ | refine K7 ?_ | refine L1 ?_ | refine L2 ?_ | refine L3 ?_ | refine RG.d ?_ | refine RG.dd ?_) | refine S2 ?_ | refine S3 ?_ | refine S4 ?_ | refine S5 ?_ | refine S7 ?_ | refine S8 ?_))
      exact ⟨false, by unfold fitsB; rw [h62]; simp only [Bool.and_false, Bool.false_and], Sub.of (SubE.put rfl (by repeat (first | with_reducible exact SubE.refl _ | refine SubE.over rfl ?_))) (by first | exact SubH.refl _ | (refine SubH.same rfl ?_; exact SubH.refl _) | (refine SubH.same rfl ?_; refine SubH.same rfl ?_; exact SubH.refl _)) rfl⟩
    (repeat (first | ((with_reducible show RG _ _ _ _ _ _ _ _); first | refine K1 ?_ | refine K2 ?_ | refine K3 ?_ | refine K4 ?_ | refine K5 ?_ | refine K6 ?_ | refine K7 ?_ | refine L1 ?_ | refine L2 ?_ | refine L3 ?_ | refine RG.d ?_ | refine RG.dd ?_) | refine S2 ?_ | refine S3 ?_ | refine S4 ?_ | refine S5 ?_ | refine S7 ?_ | refine S8 ?_))
    refine RG.splitB 67 rfl (fun h67 => ?_) (fun h67 => ?_)
    rotate_left
    · (repeat (first | ((with_reducible show RG _ _ _ _ _ _ _ _); first | refine K1 ?_ | refine K2 ?_ | refine K3 ?_ | refine K4 ?_ | refine K5 ?_ | refine K6 ?_ | refine K7 ?_ | refine L1 ?_ | refine L2 ?_ | refine L3 ?_ | refine RG.d ?_ | refine RG.dd ?_) | refine S2 ?_ | refine S3 ?_ | refine S4 ?_ | refine S5 ?_ | refine S7 ?_ | refine S8 ?_))
      exact ⟨false, by unfold fitsB; rw [h67]; simp only [Bool.and_false, Bool.false_and], Sub.of (SubE.put rfl (by repeat (first | with_reducible exact SubE.refl _ | refine SubE.over rfl ?_))) (by first | exact SubH.refl _ | (refine SubH.same rfl ?_; exact SubH.refl _) | (refine SubH.same rfl ?_; refine SubH.same rfl ?_; exact SubH.refl _)) rfl⟩
    (repeat (first | ((with_reducible show RG _ _ _ _ _ _ _ _); first | refine K1 ?_ | refine K2 ?_ | refine K3 ?_ | refine K4 ?_ | refine K5 ?_ | refine K6 ?_ | refine K7 ?_ | refine L1 ?_ | refine L2 ?_ | refine L3 ?_ | refine RG.d ?_ | refine RG.dd ?_) | refine S2 ?_ | refine S3 ?_ | refine S4 ?_ | refine S5 ?_ | refine S7 ?_ | refine S8 ?_))
    refine RG.splitB 72 rfl (fun h72 => ?_) (fun h72 => ?_)
    rotate_left
    · (repeat (first | ((with_reducible show RG _ _ _ _ _ _ _ _); first | refine K1 ?_ | refine K2 ?_ | refine K3 ?_ | refine K4 ?_ | refine K5 ?_ | refine K6 ?_ | refine K7 ?_ | refine L1 ?_ | refine L2 ?_ | refine L3 ?_ | refine RG.d ?_ | refine RG.dd ?_) | refine S2 ?_ | refine S3 ?_ | refine S4 ?_ | refine S5 ?_ | refine S7 ?_ | refine S8 ?_))
      exact ⟨false, by unfold fitsB; rw [h72]; simp only [Bool.and_false, Bool.false_and], Sub.of (SubE.put rfl (by repeat (first | with_reducible exact SubE.refl _ | refine SubE.over rfl ?_))) (by first | exact SubH.refl _ | (refine SubH.same rfl ?_; exact SubH.refl _) | (refine SubH.same rfl ?_; refine SubH.same rfl ?_; exact SubH.refl _)) rfl⟩
    (repeat (first | ((with_reducible show RG _ _ _ _ _ _ _ _); first | refine K1 ?_ | refine K2 ?_ | refine K3 ?_ | refine K4 ?_ | refine K5 ?_ | refine K6 ?_ | refine K7 ?_ | refine L1 ?_ | refine L2 ?_ | refine L3 ?_ | refine RG.d ?_ | refine RG.dd ?_) | refine S2 ?_ | refine S3 ?_ | refine S4 ?_ | refine S5 ?_ | refine S7 ?_ | refine S8 ?_))
    exact ⟨_, by unfold fitsB; rw [h62, h67, h72]; simp only [Bool.true_and], Sub.of (SubE.put rfl (by repeat (first | with_reducible exact SubE.refl _ | refine SubE.over rfl ?_))) (by first | exact SubH.refl _ | (refine SubH.same rfl ?_; exact SubH.refl _) | (refine SubH.same rfl ?_; refine SubH.same rfl ?_; exact SubH.refl _)) rfl⟩
  intro fi hfi
  subst hfi
  refine AW.sub (t := ⟨put 2 (some (i8 th)) (put 4 (some (.ptr 1 [] 0)) (put 7 (some (.val (.bool true))) (put 9 (some (.ptr 3 [] 0)) (put 10 (some (.ptr 4 [] 0)) (put 11 (some (.ptr 5 [] 0)) (put 12 (some (.ptr 6 [] 0)) (put 13 (some (.val (.bool (fitsB v w)))) noE))))))), hput 1 (.one ([i64 v, i64 w])) (hput 3 (.one (a.cl)) (hput 4 (.one (b.cl)) (hput 5 (.one ([i64 v, i64 w, i64 th])) (hput 6 (.one (t.cl ++ [i64 0])) noH)))), 7⟩) (Sub.of (by repeat (first | exact SubE.no _ | refine SubE.put rfl ?_)) (by repeat (first | exact SubH.no _ | refine SubH.put rfl ?_)) rfl) ?_
  by_cases hz : th = 0
  · subst hz
    have e3 := K.f3 rfl
    have e4 := K.f4 rfl
    subst e3
    subst e4
    (repeat (first | ((with_reducible show RG _ _ _ _ _ _ _ _); first | refine K1 ?_ | refine K2 ?_ | refine K3 ?_ | refine K4 ?_ | refine K5 ?_ | refine K6 ?_ | refine K7 ?_ | refine L1 ?_ | refine L2 ?_ | refine L3 ?_ | refine RG.d ?_ | refine RG.dd ?_) | refine S1 ?_ | refine S2 ?_ | refine S3 ?_ | refine S4 ?_ | refine S5 ?_ | refine S7 ?_ | refine S8 ?_))
    refine RG.call rfl rfl rfl rfl (K.la) [] rfl rfl rfl rfl (.nil _) (.nil _) (fun _ h => False.elim h) rfl (A.ren_free _ _ rfl) rfl ?_
    (repeat (first | ((with_reducible show RG _ _ _ _ _ _ _ _); first | refine K1 ?_ | refine K2 ?_ | refine K3 ?_ | refine K4 ?_ | refine K5 ?_ | refine K6 ?_ | refine K7 ?_ | refine L1 ?_ | refine L2 ?_ | refine L3 ?_ | refine RG.d ?_ | refine RG.dd ?_) | refine S1 ?_ | refine S2 ?_ | refine S3 ?_ | refine S4 ?_ | refine S5 ?_ | refine S7 ?_ | refine S8 ?_))
    refine RG.call rfl rfl rfl rfl (K.has) [] rfl rfl rfl rfl (.nil _) (.nil _) (fun _ h => False.elim h) rfl (A.ren_free _ _ rfl) rfl ?_
    (repeat (first | ((with_reducible show RG _ _ _ _ _ _ _ _); first | refine K1 ?_ | refine K2 ?_ | refine K3 ?_ | refine K4 ?_ | refine K5 ?_ | refine K6 ?_ | refine K7 ?_ | refine L1 ?_ | refine L2 ?_ | refine L3 ?_ | refine RG.d ?_ | refine RG.dd ?_) | refine S2 ?_ | refine S3 ?_ | refine S4 ?_ | refine S5 ?_ | refine S7 ?_ | refine S8 ?_))
    rw [beq_self_eq_true, Bool.not_true]
    (repeat (first | ((with_reducible show RG _ _ _ _ _ _ _ _); first | refine K1 ?_ | refine K2 ?_ | refine K3 ?_ | refine K4 ?_ | refine K5 ?_ | refine K6 ?_ | refine K7 ?_ | refine L1 ?_ | refine L2 ?_ | refine L3 ?_ | refine RG.d ?_ | refine RG.dd ?_) | refine S1 ?_ | refine S2 ?_ | refine S3 ?_ | refine S4 ?_ | refine S5 ?_ | refine S7 ?_ | refine S8 ?_))
    refine RG.call rfl rfl rfl rfl (K.lt) [] rfl rfl rfl rfl (.nil _) (.nil _) (fun _ h => False.elim h) rfl (A.ren_free _ _ rfl) rfl ?_
    (repeat (first | ((with_reducible show RG _ _ _ _ _ _ _ _); first | refine K1 ?_ | refine K2 ?_ | refine K3 ?_ | refine K4 ?_ | refine K5 ?_ | refine K6 ?_ | refine K7 ?_ | refine L1 ?_ | refine L2 ?_ | refine L3 ?_ | refine RG.d ?_ | refine RG.dd ?_) | refine S2 ?_ | refine S3 ?_ | refine S4 ?_ | refine S5 ?_ | refine S7 ?_ | refine S8 ?_))
    try rw [beq_self_eq_true]
    (repeat (first | ((with_reducible show RG _ _ _ _ _ _ _ _); first | refine K1 ?_ | refine K2 ?_ | refine K3 ?_ | refine K4 ?_ | refine K5 ?_ | refine K6 ?_ | refine K7 ?_ | refine L1 ?_ | refine L2 ?_ | refine L3 ?_ | refine RG.d ?_ | refine RG.dd ?_) | refine S1 ?_ | refine S2 ?_ | refine S3 ?_ | refine S4 ?_ | refine S5 ?_ | refine S6 ?_ | refine S7 ?_ | refine S8 ?_))
    exact ⟨⟨_, rfl, rfl⟩, rfl, .nil _⟩
  · have e5 := K.f5 hz
    subst e5
    refine AW.sub (t := ⟨put 2 (some (i8 th)) (put 4 (some (.ptr 1 [] 0)) (put 7 (some (.val (.bool true))) (put 9 (some (.ptr 3 [] 0)) (put 10 (some (.ptr 4 [] 0)) (put 11 (some (.ptr 5 [] 0)) (put 12 (some (.ptr 6 [] 0)) noE)))))), hput 1 (.one ([i64 v, i64 w])) (hput 3 (.one (a.cl)) (hput 4 (.one (b.cl)) (hput 5 (.one ([i64 v, i64 w, i64 th])) (hput 6 (.one (t.cl ++ [i64 0])) noH)))), 7⟩) (Sub.of (by repeat (first | exact SubE.no _ | refine SubE.put rfl ?_)) (by repeat (first | exact SubH.no _ | refine SubH.put rfl ?_)) rfl) ?_
    refine AW.seqB 13 (fun b => b = (decide (th ≥ 1) && decide (th ≤ 31))) ?_ ?_
    · (repeat (first | ((with_reducible show RG _ _ _ _ _ _ _ _); first | refine K1 ?_ | refine K2 ?_ | refine K3 ?_ | refine K4 ?_ | refine K5 ?_ | refine K6 ?_ | refine K7 ?_ | refine L1 ?_ | refine L2 ?_ | refine L3 ?_ | refine RG.d ?_ | refine RG.dd ?_) | refine S1 ?_ | refine S2 ?_ | refine S3 ?_ | refine S4 ?_ | refine S5 ?_ | refine S7 ?_ | refine S8 ?_))
      refine AW.condD rfl (fun _ => ?_) (fun k => absurd hz k)
      (repeat (first | ((with_reducible show RG _ _ _ _ _ _ _ _); first | refine K1 ?_ | refine K2 ?_ | refine K3 ?_ | refine K4 ?_ | refine K5 ?_ | refine K6 ?_ | refine K7 ?_ | refine L1 ?_ | refine L2 ?_ | refine L3 ?_ | refine RG.d ?_ | refine RG.dd ?_) | refine S2 ?_ | refine S3 ?_ | refine S4 ?_ | refine S5 ?_ | refine S7 ?_ | refine S8 ?_))
      refine RG.splitB 81 rfl (fun h81 => ?_) (fun h81 => ?_)
      rotate_left
      · (repeat (first | ((with_reducible show RG _ _ _ _ _ _ _ _); first | refine K1 ?_ | refine K2 ?_ | refine K3 ?_ | refine K4 ?_ | refine K5 ?_ | refine K6 ?_ | refine K7 ?_ | refine L1 ?_ | refine L2 ?_ | refine L3 ?_ | refine RG.d ?_ | refine RG.dd ?_) | refine S2 ?_ | refine S3 ?_ | refine S4 ?_ | refine S5 ?_ | refine S7 ?_ | refine S8 ?_))
        exact ⟨false, by rw [h81]; simp only [Bool.and_false, Bool.false_and], Sub.of (SubE.put rfl (by repeat (first | with_reducible exact SubE.refl _ | refine SubE.over rfl ?_))) (by first | exact SubH.refl _ | (refine SubH.same rfl ?_; exact SubH.refl _) | (refine SubH.same rfl ?_; refine SubH.same rfl ?_; exact SubH.refl _)) rfl⟩
      (repeat (first | ((with_reducible show RG _ _ _ _ _ _ _ _); first | refine K1 ?_ | refine K2 ?_ | refine K3 ?_ | refine K4 ?_ | refine K5 ?_ | refine K6 ?_ | refine K7 ?_ | refine L1 ?_ | refine L2 ?_ | refine L3 ?_ | refine RG.d ?_ | refine RG.dd ?_) | refine S2 ?_ | refine S3 ?_ | refine S4 ?_ | refine S5 ?_ | refine S7 ?_ | refine S8 ?_))
      exact ⟨_, by rw [h81]; simp only [Bool.true_and], Sub.of (SubE.put rfl (by repeat (first | with_reducible exact SubE.refl _ | refine SubE.over rfl ?_))) (by first | exact SubH.refl _ | (refine SubH.same rfl ?_; exact SubH.refl _) | (refine SubH.same rfl ?_; refine SubH.same rfl ?_; exact SubH.refl _)) rfl⟩
    intro fi hfi
    subst hfi
    refine AW.sub (t := ⟨put 2 (some (i8 th)) (put 4 (some (.ptr 1 [] 0)) (put 7 (some (.val (.bool true))) (put 9 (some (.ptr 3 [] 0)) (put 10 (some (.ptr 4 [] 0)) (put 11 (some (.ptr 5 [] 0)) (put 12 (some (.ptr 6 [] 0)) (put 13 (some (.val (.bool (decide (th ≥ 1) && decide (th ≤ 31))))) noE))))))), hput 1 (.one ([i64 v, i64 w])) (hput 3 (.one (a.cl)) (hput 4 (.one (b.cl)) (hput 5 (.one ([i64 v, i64 w, i64 th])) (hput 6 (.one (t.cl ++ [i64 0])) noH)))), 7⟩) (Sub.of (by repeat (first | exact SubE.no _ | refine SubE.put rfl ?_)) (by repeat (first | exact SubH.no _ | refine SubH.put rfl ?_)) rfl) ?_
    (repeat (first | ((with_reducible show RG _ _ _ _ _ _ _ _); first | refine K1 ?_ | refine K2 ?_ | refine K3 ?_ | refine K4 ?_ | refine K5 ?_ | refine K6 ?_ | refine K7 ?_ | refine L1 ?_ | refine L2 ?_ | refine L3 ?_ | refine RG.d ?_ | refine RG.dd ?_) | refine S1 ?_ | refine S2 ?_ | refine S3 ?_ | refine S4 ?_ | refine S5 ?_ | refine S7 ?_ | refine S8 ?_))
    rw [decide_eq_false hz]
    (repeat (first | ((with_reducible show RG _ _ _ _ _ _ _ _); first | refine K1 ?_ | refine K2 ?_ | refine K3 ?_ | refine K4 ?_ | refine K5 ?_ | refine K6 ?_ | refine K7 ?_ | refine L1 ?_ | refine L2 ?_ | refine L3 ?_ | refine RG.d ?_ | refine RG.dd ?_) | refine S1 ?_ | refine S2 ?_ | refine S3 ?_ | refine S4 ?_ | refine S5 ?_ | refine S7 ?_ | refine S8 ?_))
    refine RG.call rfl rfl rfl rfl (K.lt) [] rfl rfl rfl rfl (.nil _) (.nil _) (fun _ h => False.elim h) rfl (A.ren_free _ _ rfl) rfl ?_
    (repeat (first | ((with_reducible show RG _ _ _ _ _ _ _ _); first | refine K1 ?_ | refine K2 ?_ | refine K3 ?_ | refine K4 ?_ | refine K5 ?_ | refine K6 ?_ | refine K7 ?_ | refine L1 ?_ | refine L2 ?_ | refine L3 ?_ | refine RG.d ?_ | refine RG.dd ?_) | refine S2 ?_ | refine S3 ?_ | refine S4 ?_ | refine S5 ?_ | refine S7 ?_ | refine S8 ?_))
    try rw [beq_self_eq_true]
    (repeat (first | ((with_reducible show RG _ _ _ _ _ _ _ _); first | refine K1 ?_ | refine K2 ?_ | refine K3 ?_ | refine K4 ?_ | refine K5 ?_ | refine K6 ?_ | refine K7 ?_ | refine L1 ?_ | refine L2 ?_ | refine L3 ?_ | refine RG.d ?_ | refine RG.dd ?_) | refine S1 ?_ | refine S2 ?_ | refine S3 ?_ | refine S4 ?_ | refine S5 ?_ | refine S6 ?_ | refine S7 ?_ | refine S8 ?_))
    exact ⟨⟨_, rfl, rfl⟩, rfl, .nil _⟩
end Go.Proofs.YtifeioddiddnoaaGreatDoor
