/- A summary is found in a list. No conditions. -/
import Derived.Test.YtifeioddiddnoaaGreatDoorScF
import Derived.Test.YtifeioddiddnoaaGreatDoorScJ
import Derived.Test.YtifeioddiddnoaaGreatDoorSqE
import Derived.Test.YtifeioddiddnoaaGreatDoorDgA
set_option linter.unusedVariables false
set_option linter.unusedSimpArgs false
namespace Go.Proofs.YtifeioddiddnoaaGreatDoor
open Go.Abs Go Go.RowKit
set_option maxRecDepth 20000
theorem Sy.cl_len (s : Sy) : s.cl.length = 11 := rfl
theorem Sy.cl_free (s : Sy) : ltL 0 s.cl = true := rfl
abbrev rdSy (l : List Sy) : A := .ro l.length (flC Sy.cl l)
def fdS (l : List Sy) (id : Int) : Sy × Bool := match l.find? (fun s => decide (s.id = id)) with
  | some s => (s, true)
  | none => (zSum, false)
def fdA (R : Sy × Bool) : A := .agg (R.1.cl ++ [.val (.bool R.2)])
theorem fdS_cons (y : Sy) (l : List Sy) (id : Int) : fdS (y :: l) id = if y.id = id then (y, true) else fdS l id := by
  unfold fdS
  by_cases h : y.id = id
  · rw [List.find?_cons_of_pos (by simpa using h), if_pos h]
  · rw [List.find?_cons_of_neg (by simpa using h), if_neg h]
def idS (id : Int) : List Sy → Nat → Int
  | [], _ => -1
  | y :: l, i => if y.id = id then (i : Int) else idS id l (i + 1)
theorem idS_fd (id : Int) : ∀ (l : List Sy) (i : Nat), (idS id l i = -1 ∧ fdS l id = (zSum, false)) ∨ ∃ (j : Nat) (s : Sy), idS id l i = ((i + j : Nat) : Int) ∧ l[j]? = some s ∧ fdS l id = (s, true)
  | [], i => .inl ⟨rfl, rfl⟩
  | y :: l, i => by
    rw [fdS_cons, idS]
    by_cases h : y.id = id
    · rw [if_pos h, if_pos h]
      exact .inr ⟨0, y, rfl, rfl, rfl⟩
    · rw [if_neg h, if_neg h]
      rcases idS_fd id l (i + 1) with ⟨h1, h2⟩ | ⟨j, s, h1, h2, h3⟩
      · exact .inl ⟨h1, h2⟩
      · exact .inr ⟨j + 1, s, by rw [h1]; congr 1; omega, by simpa using h2, h3⟩
set_option maxHeartbeats 4000000 in
theorem findIn_fc (l : List Sy) (id : Int) (hl : l.length ≤ 1000) : FC Tryz.prog ge 32 [rdSy l, i64 id] [] (fdA (fdS l id)) [] NoP := by
  obtain ⟨R, hR⟩ : ∃ R, R = fdA (fdS l id) := ⟨_, rfl⟩
  rw [← hR]
  refine FC.of_AW tok Tryz.func32 (by kernel_rfl) rfl Tryz.ntmps32 [] rfl rfl rfl ?_; intro w0 X0 Y f0 hI0 hX0
  (repeat (first | refine K4 ?_ | refine L2 ?_ | refine RG.d ?_ | refine S1 ?_ | refine S2 ?_ | refine S4 ?_))
  refine AW.loopS (fun i : Nat => ⟨put 0 (some (rdSy l)) (put 1 (some (i64 id)) (put 4 (some (.ptr 0 [] 0)) (put 5 (some (i64 (i : Int))) noE))), hput 0 (.one ([i64 0, i64 0, i64 0, i64 0, i64 0, i64 0, i64 0, i64 0, i64 0, .val (.slice none 0 0), i64 0, .val (.bool false)])) noH, 1⟩) (fun i => i ≤ l.length ∧ R = fdA (fdS (l.drop i) id)) (fun i => l.length - i) 0 ⟨Nat.zero_le _, hR⟩ (Sub.of (by repeat (first | exact SubE.no _ | refine SubE.put rfl ?_)) (by repeat (first | exact SubH.no _ | refine SubH.put rfl ?_)) rfl) ?_
  rintro i ⟨hi, h1⟩
  (repeat (first | refine K4 ?_ | refine RG.d ?_ | refine S1 ?_ | refine S2 ?_))
  refine AW.condD rfl (fun k => ?_) (fun k => ?_)
  rotate_left
  · have k : ¬ (i : Int) < (l.length : Int) := k
    rw [List.drop_eq_nil_of_le (by omega)] at h1
    have h1 : R = .agg (zSum.cl ++ [.val (.bool false)]) := h1
    subst h1
    (repeat (first | refine K4 ?_ | refine L3 ?_ | refine RG.d ?_ | refine S1 ?_ | refine S2 ?_ | refine S5 ?_))
    refine AW.sub (Sub.frzH (ks := []) (c' := zSum.cl ++ [.val (.bool false)]) 0 rfl List.not_mem_nil (by repeat (first | exact Frzs.nil | refine Frzs.cons (Frz.wk (Frz.refl _) Wk.nil) ?_ | refine Frzs.cons (Frz.refl _) ?_))) ?_
    refine S6 ?_
    exact ⟨⟨_, rfl, rfl⟩, rfl, .nil _⟩
  have k : (i : Int) < (l.length : Int) := k
  obtain ⟨y, hy⟩ : ∃ y, l[i]? = some y := ⟨_, List.getElem?_eq_getElem (by omega)⟩
  have hat := flC_at Sy.cl_len l i y hy
  rw [drop_cons hy, fdS_cons] at h1
  obtain ⟨y1, ⟨y2, y3, y4, y5, y6⟩, y7, y8, y9, m, y11⟩ := y
  simp only [Sy.cl, Ab.cl, List.cons_append, List.nil_append] at hat
  dsimp only at h1
  (repeat (first | refine K4 ?_ | refine S1 ?_ | refine S2 ?_ | refine S3 ?_ | refine S4 ?_))
  refine RG.idx tok rfl rfl rfl rfl rfl rfl hat ⟨by omega, by omega⟩ rfl ?_
  (repeat (first | refine K4 ?_ | refine L1 ?_ | refine RG.d ?_))
  refine AW.condD rfl (fun k2 => ?_) (fun k2 => ?_)
  · have k2 : y1 = id := k2
    rw [if_pos k2] at h1
    simp only [fdA, Sy.cl, Ab.cl, List.cons_append, List.nil_append] at h1
    subst h1
    (repeat (first | refine K4 ?_ | refine S1 ?_ | refine S2 ?_))
    refine RG.idx tok rfl rfl rfl rfl rfl rfl hat ⟨by omega, by omega⟩ rfl ?_
    (repeat (first | refine K4 ?_ | refine L1 ?_ | refine L3 ?_ | refine RG.d ?_ | refine S6 ?_))
    exact ⟨⟨_, rfl, rfl⟩, rfl, .nil _⟩
  · have k2 : ¬ y1 = id := k2
    rw [if_neg k2] at h1
    (repeat (first | refine K2 ?_ | refine K4 ?_ | refine RG.d ?_ | refine S2 ?_ | refine S3 ?_))
    exact ⟨i + 1, ⟨by omega, h1⟩, by omega, Sub.down (by repeat (first | exact SubE.no _ | refine SubE.put rfl ?_)) (by repeat (first | exact SubH.no _ | refine SubH.put rfl ?_)) (by repeat (first | exact LtE.no _ | refine LtE.put rfl ?_)) (by repeat (first | exact LtH.no _ | refine LtH.put rfl rfl ?_)) rfl⟩
theorem find1_fc (id : Int) (s : Sy) : FC Tryz.prog ge 93 [.agg s.cl, .ptr 0 [] 0] [.one [i64 id]] (.val (.bool (decide (s.id = id)))) [.one [i64 id]] NoP := by
  obtain ⟨y1, ⟨y2, y3, y4, y5, y6⟩, y7, y8, y9, m, y11⟩ := s
  simp only [Sy.cl, Ab.cl, List.cons_append, List.nil_append]
  refine FC.of_AW tok Tryz.func93 (by kernel_rfl) rfl Tryz.ntmps93 [] rfl rfl rfl ?_; intro w0 X0 Y f0 hI0 hX0
  (repeat (first | refine K4 ?_ | refine L1 ?_ | refine L2 ?_ | refine RG.d ?_ | refine S1 ?_ | refine S2 ?_ | refine S6 ?_))
  exact ⟨⟨_, rfl, rfl⟩, rfl, .cons rfl (.one rfl) (Reg.lt_one rfl) ⟨[], _, rfl⟩ (.nil _)⟩
set_option maxHeartbeats 4000000 in
theorem idxS_fc (l : List Sy) (id : Int) (hl : l.length ≤ 1000) : FC Tryz.prog ge 92 [rdSy l, .fn 93 [] [.ptr 0 [] 0]] [.one [i64 id]] (i64 (idS id l 0)) [.one [i64 id]] NoP := by
  have cF := fun y => find1_fc id y
  obtain ⟨R, hR⟩ : ∃ R, R = idS id l 0 := ⟨_, rfl⟩
  rw [← hR]
  refine FC.of_AW tok Tryz.func92 (by kernel_rfl) rfl Tryz.ntmps92 [] rfl rfl rfl ?_; intro w0 X0 Y f0 hI0 hX0
  (repeat (first | refine K4 ?_ | refine RG.d ?_ | refine S1 ?_ | refine S2 ?_ | refine S4 ?_))
  refine AW.loopS (fun i : Nat => ⟨put 0 (some (rdSy l)) (put 1 (some (.fn 93 [] [.ptr 0 [] 0])) (put 7 (some (i64 (l.length : Int))) (put 8 (some (i64 (i : Int))) noE))), hput 0 (.one ([i64 id])) noH, 1⟩) (fun i => i ≤ l.length ∧ R = idS id (l.drop i) i) (fun i => l.length - i) 0 ⟨Nat.zero_le _, hR⟩ (Sub.of (by repeat (first | exact SubE.no _ | refine SubE.put rfl ?_)) (by repeat (first | exact SubH.no _ | refine SubH.put rfl ?_)) rfl) ?_
  rintro i ⟨hi, h1⟩
  (repeat (first | refine K4 ?_ | refine RG.d ?_ | refine S1 ?_ | refine S2 ?_))
  refine AW.condD rfl (fun k => ?_) (fun k => ?_)
  rotate_left
  · have k : ¬ (i : Int) < (l.length : Int) := k
    rw [List.drop_eq_nil_of_le (by omega)] at h1
    have h1 : R = -1 := h1
    subst h1
    (repeat (first | refine K4 ?_ | refine RG.d ?_ | refine S1 ?_ | refine S2 ?_ | refine S5 ?_ | refine S6 ?_))
    exact ⟨⟨_, rfl, rfl⟩, rfl, .cons rfl (.one rfl) (Reg.lt_one rfl) ⟨[], _, rfl⟩ (.nil _)⟩
  have k : (i : Int) < (l.length : Int) := k
  obtain ⟨y, hy⟩ : ∃ y, l[i]? = some y := ⟨_, List.getElem?_eq_getElem (by omega)⟩
  have hat := flC_at Sy.cl_len l i y hy
  have c := cF y
  rw [drop_cons hy, idS] at h1
  obtain ⟨y1, ⟨y2, y3, y4, y5, y6⟩, y7, y8, y9, m, y11⟩ := y
  simp only [Sy.cl, Ab.cl, List.cons_append, List.nil_append] at hat c
  dsimp only at h1 c
  (repeat (first | refine K4 ?_ | refine RG.d ?_ | refine S1 ?_ | refine S2 ?_ | refine S3 ?_ | refine S4 ?_))
  refine RG.idx tok rfl rfl rfl rfl rfl rfl hat ⟨by omega, by omega⟩ rfl ?_
  (repeat (first | refine L1 ?_))
  refine RG.call rfl rfl rfl rfl (c) [0] rfl rfl rfl rfl (.cons rfl (.one rfl) (Reg.lt_one rfl) ⟨[], _, rfl⟩ (.nil _)) (.cons (.one rfl) (.nil _)) (fun _ h => False.elim h) rfl rfl rfl ?_
  (repeat (first | refine RG.d ?_))
  refine AW.condD rfl (fun k2 => ?_) (fun k2 => ?_)
  · rw [if_pos (show y1 = id from k2)] at h1
    subst h1
    (repeat (first | refine K4 ?_ | refine RG.d ?_ | refine S1 ?_ | refine S2 ?_ | refine S6 ?_))
    exact ⟨⟨_, rfl, rfl⟩, rfl, .cons rfl (.one rfl) (Reg.lt_one rfl) ⟨[], _, rfl⟩ (.nil _)⟩
  · rw [if_neg (show ¬ y1 = id from k2)] at h1
    (repeat (first | refine K2 ?_ | refine K4 ?_ | refine RG.d ?_ | refine S2 ?_ | refine S3 ?_))
    exact ⟨i + 1, ⟨by omega, h1⟩, by omega, Sub.of (by repeat (first | exact SubE.no _ | refine SubE.put rfl ?_)) (by repeat (first | exact SubH.no _ | refine SubH.put rfl ?_)) rfl⟩
set_option maxHeartbeats 4000000 in
theorem find_fc (l : List Sy) (id : Int) (hl : l.length ≤ 1000) : FC Tryz.prog ge 65 [rdSy l, i64 id] [] (.tup [.agg (fdS l id).1.cl, .val (.bool (fdS l id).2)]) [] NoP := by
  have c := idxS_fc l id hl
  rcases idS_fd id l 0 with ⟨h1, h2⟩ | ⟨j, s, h1, h2, h3⟩
  · rw [h1] at c
    rw [h2]
    simp only [zSum, Sy.cl, Ab.cl, List.cons_append, List.nil_append]
    refine FC.of_AW tok Tryz.func65 (by kernel_rfl) rfl Tryz.ntmps65 [] rfl rfl rfl ?_; intro w0 X0 Y f0 hI0 hX0
    (repeat (first | refine K4 ?_ | refine L2 ?_ | refine RG.d ?_ | refine S1 ?_ | refine S2 ?_))
    refine RG.call rfl rfl rfl rfl (c) [0] rfl rfl rfl rfl (.cons rfl (.one rfl) (Reg.lt_one rfl) ⟨[], _, rfl⟩ (.nil _)) (.cons (.one rfl) (.nil _)) (fun _ h => False.elim h) rfl rfl rfl ?_
    (repeat (first | refine K4 ?_ | refine L3 ?_ | refine RG.d ?_ | refine S1 ?_ | refine S2 ?_ | refine S7 ?_))
    refine AW.sub (Sub.frzH (ks := []) (c' := zSum.cl) 1 rfl List.not_mem_nil (by repeat (first | exact Frzs.nil | refine Frzs.cons (Frz.wk (Frz.refl _) Wk.nil) ?_ | refine Frzs.cons (Frz.refl _) ?_))) ?_
    refine S6 ?_
    exact ⟨⟨_, rfl, rfl⟩, rfl, .nil _⟩
  · rw [h1, Nat.zero_add] at c
    rw [h3]
    have hj := (List.getElem?_eq_some_iff.1 h2).1
    have hat := flC_at Sy.cl_len l j s h2
    obtain ⟨y1, ⟨y2, y3, y4, y5, y6⟩, y7, y8, y9, m, y11⟩ := s
    simp only [Sy.cl, Ab.cl, List.cons_append, List.nil_append] at hat ⊢
    refine FC.of_AW tok Tryz.func65 (by kernel_rfl) rfl Tryz.ntmps65 [] rfl rfl rfl ?_; intro w0 X0 Y f0 hI0 hX0
    (repeat (first | refine K4 ?_ | refine L2 ?_ | refine RG.d ?_ | refine S1 ?_ | refine S2 ?_))
    refine RG.call rfl rfl rfl rfl (c) [0] rfl rfl rfl rfl (.cons rfl (.one rfl) (Reg.lt_one rfl) ⟨[], _, rfl⟩ (.nil _)) (.cons (.one rfl) (.nil _)) (fun _ h => False.elim h) rfl rfl rfl ?_
    (repeat (first | refine K4 ?_ | refine RG.d ?_ | refine S1 ?_ | refine S2 ?_ | refine S3 ?_ | refine S8 ?_))
    refine RG.idx tok rfl rfl rfl rfl rfl rfl hat ⟨by omega, by omega⟩ rfl ?_
    (repeat (first | refine K4 ?_ | refine L1 ?_ | refine L3 ?_ | refine RG.d ?_ | refine S6 ?_))
    exact ⟨⟨_, rfl, rfl⟩, rfl, .nil _⟩
theorem lfind_fc (l : List Sy) (id : Int) (hl : l.length ≤ 1000) : FC Tryz.prog ge 31 [rdSy l, i64 id] [] (fdA (fdS l id)) [] NoP := by
  have c := find_fc l id hl
  obtain ⟨R, hR⟩ : ∃ R, R = fdS l id := ⟨_, rfl⟩
  rw [← hR] at c ⊢
  obtain ⟨⟨y1, ⟨y2, y3, y4, y5, y6⟩, y7, y8, y9, m, y11⟩, b⟩ := R
  simp only [fdA, Sy.cl, Ab.cl, List.cons_append, List.nil_append] at c ⊢
  refine FC.of_AW tok Tryz.func31 (by kernel_rfl) rfl Tryz.ntmps31 [] rfl rfl rfl ?_; intro w0 X0 Y f0 hI0 hX0
  (repeat (first | refine K4 ?_ | refine L2 ?_ | refine RG.d ?_ | refine S1 ?_ | refine S2 ?_))
  refine RG.call rfl rfl rfl rfl (c) [] rfl rfl rfl rfl (.nil _) (.nil _) (fun _ h => False.elim h) rfl (A.ren_free _ _ rfl) rfl ?_
  (repeat (first | refine K4 ?_ | refine L1 ?_ | refine L2 ?_ | refine L3 ?_ | refine RG.d ?_ | refine S1 ?_ | refine S2 ?_ | refine S6 ?_))
  exact ⟨⟨_, rfl, rfl⟩, rfl, .nil _⟩
end Go.Proofs.YtifeioddiddnoaaGreatDoor
namespace Go.Proofs.YtifeioddiddnoaaGreatDoor
open Go.Abs Go Go.RowKit
set_option maxRecDepth 20000
/-- The contracts that the law meets. -/
structure MatC (N : A) (p : Pg) (k z : Int) (a b o t j y : Sy) (e r e2 : Int) (u : Bool) (D : BitVec 64) (T x : BA) (f : Sy × Bool) : Prop where
  ex : FC Tryz.prog gs 8 [] [] (.val (.bool true)) [] NoP
  made : FC Tryz.prog gs 9 [N] [] (.tup [.agg (pgC p), .agg a.cl, .agg b.cl]) [] NoP
  ch : FC Tryz.prog gs 20 [.agg a.cl, .agg [i64 k, i64 z]] [] (.agg o.cl) [] NoP
  top : FC Tryz.prog gs 11 [.agg (pgC p), i64 z] [] (mdA (t, e)) [] NoP
  topR : FC Tryz.prog gs 21 [.agg (pgC p), i64 z] [] (mdA (t, e)) [] NoP
  ra : FC Tryz.prog gs 10 [.agg (pgC p), .agg a.cl] [] (i64 0) [] NoP
  ro : FC Tryz.prog gs 10 [.agg (pgC p), .agg o.cl] [] (i64 r) [] NoP
  rro : FC Tryz.prog gs 22 [.agg (pgC p), .agg o.cl] [] (i64 r) [] NoP
  st : FC Tryz.prog gs 17 [.agg t.cl, .agg t.cl] [] (.val (.bool true)) [] NoP
  la : FC Tryz.prog gs 12 [.agg a.cl, .agg b.cl] [] (.val (.bool u)) [] NoP
  rla : FC Tryz.prog gs 23 [.agg a.cl, .agg b.cl] [] (.val (.bool u)) [] NoP
  ja : FC Tryz.prog gs 14 [.agg a.cl, .agg b.cl] [] (.agg j.cl) [] NoP
  rja : FC Tryz.prog gs 24 [.agg a.cl, .agg b.cl] [] (.agg j.cl) [] NoP
  sj : FC Tryz.prog gs 17 [.agg j.cl, .agg j.cl] [] (.val (.bool true)) [] NoP
  da : FC Tryz.prog gs 25 [.agg a.cl] [] (uA D) [] NoP
  rda : FC Tryz.prog gs 26 [.agg a.cl] [] (uA D) [] NoP
  tx : FC Tryz.prog gs 27 [.agg o.cl] [] (wA T) [] NoP
  rtx : FC Tryz.prog gs 28 [.agg o.cl] [] (wA T) [] NoP
  pa : FC Tryz.prog gs 29 [wA x] [] (mdA (y, e2)) [] NoP
  rpa : FC Tryz.prog gs 30 [wA x] [] (mdA (y, e2)) [] NoP
  fo : FC Tryz.prog gs 31 [rdSy [a, o, b], i64 z] [] (fdA f) [] NoP
  rfo : FC Tryz.prog gs 32 [rdSy [a, o, b], i64 z] [] (fdA f) [] NoP
  sy : FC Tryz.prog gs 17 [.agg y.cl, .agg y.cl] [] (.val (.bool true)) [] NoP
  sf : FC Tryz.prog gs 17 [.agg f.1.cl, .agg f.1.cl] [] (.val (.bool true)) [] NoP
theorem ne_self {α : Type} [DecidableEq α] (x : α) : decide (x ≠ x) = false := decide_eq_false (fun h => h rfl)
set_option maxHeartbeats 16000000 in
theorem matches_w (n : Nat) (l : List A) (f1 f2 : Nat → Nat) (p : Pg) (k z : Int) (a b o t j y : Sy) (e r e2 : Int) (u : Bool) (D : BitVec 64) (T x : BA) (f : Sy × Bool) (K : MatC (.agg (.ro n l :: (n8 f1 ++ n8 f2))) p k z a b o t j y e r e2 u D T x f) :
    FC Tryz.prog gs 7 [.agg (.ro n l :: (n8 f1 ++ n8 f2)), .agg [i64 k, i64 z], wA x] [] (.val (.bool true)) [] NoP := by
  refine FC.of_AW tok Tryz.func7 (by kernel_rfl) rfl Tryz.ntmps7 [] rfl rfl rfl ?_; intro w0 X0 Y f0 hI0 hX0
  (repeat (first | ((with_reducible show RG _ _ _ _ _ _ _ _); first | refine K1 ?_ | refine K2 ?_ | refine K3 ?_ | refine K4 ?_ | refine K5 ?_ | refine K6 ?_ | refine K7 ?_ | refine L1 ?_ | refine L2 ?_ | refine L3 ?_ | refine RG.d ?_ | refine RG.dd ?_) | refine S1 ?_ | refine S2 ?_ | refine S3 ?_ | refine S4 ?_ | refine S5 ?_ | refine S7 ?_ | refine S8 ?_))
  refine RG.call rfl rfl rfl rfl (K.ex) [] rfl rfl rfl rfl (.nil _) (.nil _) (fun _ h => False.elim h) rfl (A.ren_free _ _ rfl) rfl ?_
  (repeat (first | ((with_reducible show RG _ _ _ _ _ _ _ _); first | refine K1 ?_ | refine K2 ?_ | refine K3 ?_ | refine K4 ?_ | refine K5 ?_ | refine K6 ?_ | refine K7 ?_ | refine L1 ?_ | refine L2 ?_ | refine L3 ?_ | refine RG.d ?_ | refine RG.dd ?_) | refine S1 ?_ | refine S2 ?_ | refine S3 ?_ | refine S4 ?_ | refine S5 ?_ | refine S7 ?_ | refine S8 ?_))
  refine RG.call rfl rfl rfl rfl (K.made) [] rfl rfl rfl rfl (.nil _) (.nil _) (fun _ h => False.elim h) rfl (A.ren_free _ _ rfl) rfl ?_
  (repeat (first | ((with_reducible show RG _ _ _ _ _ _ _ _); first | refine K1 ?_ | refine K2 ?_ | refine K3 ?_ | refine K4 ?_ | refine K5 ?_ | refine K6 ?_ | refine K7 ?_ | refine L1 ?_ | refine L2 ?_ | refine L3 ?_ | refine RG.d ?_ | refine RG.dd ?_) | refine S1 ?_ | refine S2 ?_ | refine S3 ?_ | refine S4 ?_ | refine S5 ?_ | refine S7 ?_ | refine S8 ?_))
  refine RG.call rfl rfl rfl rfl (K.ch) [] rfl rfl rfl rfl (.nil _) (.nil _) (fun _ h => False.elim h) rfl (A.ren_free _ _ rfl) rfl ?_
  (repeat (first | ((with_reducible show RG _ _ _ _ _ _ _ _); first | refine K1 ?_ | refine K2 ?_ | refine K3 ?_ | refine K4 ?_ | refine K5 ?_ | refine K6 ?_ | refine K7 ?_ | refine L1 ?_ | refine L2 ?_ | refine L3 ?_ | refine RG.d ?_ | refine RG.dd ?_) | refine S1 ?_ | refine S2 ?_ | refine S3 ?_ | refine S4 ?_ | refine S5 ?_ | refine S7 ?_ | refine S8 ?_))
  refine RG.call rfl rfl rfl rfl (K.top) [] rfl rfl rfl rfl (.nil _) (.nil _) (fun _ h => False.elim h) rfl (A.ren_free _ _ rfl) rfl ?_
  (repeat (first | ((with_reducible show RG _ _ _ _ _ _ _ _); first | refine K1 ?_ | refine K2 ?_ | refine K3 ?_ | refine K4 ?_ | refine K5 ?_ | refine K6 ?_ | refine K7 ?_ | refine L1 ?_ | refine L2 ?_ | refine L3 ?_ | refine RG.d ?_ | refine RG.dd ?_) | refine S1 ?_ | refine S2 ?_ | refine S3 ?_ | refine S4 ?_ | refine S5 ?_ | refine S7 ?_ | refine S8 ?_))
  refine RG.call rfl rfl rfl rfl (K.topR) [] rfl rfl rfl rfl (.nil _) (.nil _) (fun _ h => False.elim h) rfl (A.ren_free _ _ rfl) rfl ?_
  (repeat (first | ((with_reducible show RG _ _ _ _ _ _ _ _); first | refine K1 ?_ | refine K2 ?_ | refine K3 ?_ | refine K4 ?_ | refine K5 ?_ | refine K6 ?_ | refine K7 ?_ | refine L1 ?_ | refine L2 ?_ | refine L3 ?_ | refine RG.d ?_ | refine RG.dd ?_) | refine S1 ?_ | refine S2 ?_ | refine S3 ?_ | refine S4 ?_ | refine S5 ?_ | refine S7 ?_ | refine S8 ?_))
  refine RG.call rfl rfl rfl rfl (K.ra) [] rfl rfl rfl rfl (.nil _) (.nil _) (fun _ h => False.elim h) rfl (A.ren_free _ _ rfl) rfl ?_
  (repeat (first | ((with_reducible show RG _ _ _ _ _ _ _ _); first | refine K1 ?_ | refine K2 ?_ | refine K3 ?_ | refine K4 ?_ | refine K5 ?_ | refine K6 ?_ | refine K7 ?_ | refine L1 ?_ | refine L2 ?_ | refine L3 ?_ | refine RG.d ?_ | refine RG.dd ?_) | refine S1 ?_ | refine S2 ?_ | refine S3 ?_ | refine S4 ?_ | refine S5 ?_ | refine S7 ?_ | refine S8 ?_))
  refine RG.call rfl rfl rfl rfl (K.ro) [] rfl rfl rfl rfl (.nil _) (.nil _) (fun _ h => False.elim h) rfl (A.ren_free _ _ rfl) rfl ?_
  (repeat (first | ((with_reducible show RG _ _ _ _ _ _ _ _); first | refine K1 ?_ | refine K2 ?_ | refine K3 ?_ | refine K4 ?_ | refine K5 ?_ | refine K6 ?_ | refine K7 ?_ | refine L1 ?_ | refine L2 ?_ | refine L3 ?_ | refine RG.d ?_ | refine RG.dd ?_) | refine S1 ?_ | refine S2 ?_ | refine S3 ?_ | refine S4 ?_ | refine S5 ?_ | refine S7 ?_ | refine S8 ?_))
  refine RG.call rfl rfl rfl rfl (K.rro) [] rfl rfl rfl rfl (.nil _) (.nil _) (fun _ h => False.elim h) rfl (A.ren_free _ _ rfl) rfl ?_
  (repeat (first | ((with_reducible show RG _ _ _ _ _ _ _ _); first | refine K1 ?_ | refine K2 ?_ | refine K3 ?_ | refine K4 ?_ | refine K5 ?_ | refine K6 ?_ | refine K7 ?_ | refine L1 ?_ | refine L2 ?_ | refine L3 ?_ | refine RG.d ?_ | refine RG.dd ?_) | refine S1 ?_ | refine S2 ?_ | refine S3 ?_ | refine S4 ?_ | refine S5 ?_ | refine S7 ?_ | refine S8 ?_))
  refine RG.put 52 rfl (v' := .val (.bool false)) (congrArg (fun b => A.val (.bool b)) (ne_self r)) ?_
  (repeat (first | ((with_reducible show RG _ _ _ _ _ _ _ _); first | refine K1 ?_ | refine K2 ?_ | refine K3 ?_ | refine K4 ?_ | refine K5 ?_ | refine K6 ?_ | refine K7 ?_ | refine L1 ?_ | refine L2 ?_ | refine L3 ?_ | refine RG.d ?_ | refine RG.dd ?_) | refine S1 ?_ | refine S2 ?_ | refine S3 ?_ | refine S4 ?_ | refine S5 ?_ | refine S7 ?_ | refine S8 ?_))
  refine RG.put 59 rfl (v' := .val (.bool false)) (congrArg (fun b => A.val (.bool b)) (ne_self e)) ?_
  (repeat (first | ((with_reducible show RG _ _ _ _ _ _ _ _); first | refine K1 ?_ | refine K2 ?_ | refine K3 ?_ | refine K4 ?_ | refine K5 ?_ | refine K6 ?_ | refine K7 ?_ | refine L1 ?_ | refine L2 ?_ | refine L3 ?_ | refine RG.d ?_ | refine RG.dd ?_) | refine S1 ?_ | refine S2 ?_ | refine S3 ?_ | refine S4 ?_ | refine S5 ?_ | refine S7 ?_ | refine S8 ?_))
  refine RG.call rfl rfl rfl rfl (K.st) [] rfl rfl rfl rfl (.nil _) (.nil _) (fun _ h => False.elim h) rfl (A.ren_free _ _ rfl) rfl ?_
  (repeat (first | ((with_reducible show RG _ _ _ _ _ _ _ _); first | refine K1 ?_ | refine K2 ?_ | refine K3 ?_ | refine K4 ?_ | refine K5 ?_ | refine K6 ?_ | refine K7 ?_ | refine L1 ?_ | refine L2 ?_ | refine L3 ?_ | refine RG.d ?_ | refine RG.dd ?_) | refine S1 ?_ | refine S2 ?_ | refine S3 ?_ | refine S4 ?_ | refine S5 ?_ | refine S7 ?_ | refine S8 ?_))
  refine RG.call rfl rfl rfl rfl (K.la) [] rfl rfl rfl rfl (.nil _) (.nil _) (fun _ h => False.elim h) rfl (A.ren_free _ _ rfl) rfl ?_
  (repeat (first | ((with_reducible show RG _ _ _ _ _ _ _ _); first | refine K1 ?_ | refine K2 ?_ | refine K3 ?_ | refine K4 ?_ | refine K5 ?_ | refine K6 ?_ | refine K7 ?_ | refine L1 ?_ | refine L2 ?_ | refine L3 ?_ | refine RG.d ?_ | refine RG.dd ?_) | refine S1 ?_ | refine S2 ?_ | refine S3 ?_ | refine S4 ?_ | refine S5 ?_ | refine S7 ?_ | refine S8 ?_))
  refine RG.call rfl rfl rfl rfl (K.rla) [] rfl rfl rfl rfl (.nil _) (.nil _) (fun _ h => False.elim h) rfl (A.ren_free _ _ rfl) rfl ?_
  (repeat (first | ((with_reducible show RG _ _ _ _ _ _ _ _); first | refine K1 ?_ | refine K2 ?_ | refine K3 ?_ | refine K4 ?_ | refine K5 ?_ | refine K6 ?_ | refine K7 ?_ | refine L1 ?_ | refine L2 ?_ | refine L3 ?_ | refine RG.d ?_ | refine RG.dd ?_) | refine S1 ?_ | refine S2 ?_ | refine S3 ?_ | refine S4 ?_ | refine S5 ?_ | refine S7 ?_ | refine S8 ?_))
  refine RG.put 74 rfl (v' := .val (.bool false)) (congrArg (fun b => A.val (.bool b)) (show (!(u == u)) = false by cases u <;> rfl)) ?_
  (repeat (first | ((with_reducible show RG _ _ _ _ _ _ _ _); first | refine K1 ?_ | refine K2 ?_ | refine K3 ?_ | refine K4 ?_ | refine K5 ?_ | refine K6 ?_ | refine K7 ?_ | refine L1 ?_ | refine L2 ?_ | refine L3 ?_ | refine RG.d ?_ | refine RG.dd ?_) | refine S1 ?_ | refine S2 ?_ | refine S3 ?_ | refine S4 ?_ | refine S5 ?_ | refine S7 ?_ | refine S8 ?_))
  refine RG.call rfl rfl rfl rfl (K.ja) [] rfl rfl rfl rfl (.nil _) (.nil _) (fun _ h => False.elim h) rfl (A.ren_free _ _ rfl) rfl ?_
  (repeat (first | ((with_reducible show RG _ _ _ _ _ _ _ _); first | refine K1 ?_ | refine K2 ?_ | refine K3 ?_ | refine K4 ?_ | refine K5 ?_ | refine K6 ?_ | refine K7 ?_ | refine L1 ?_ | refine L2 ?_ | refine L3 ?_ | refine RG.d ?_ | refine RG.dd ?_) | refine S1 ?_ | refine S2 ?_ | refine S3 ?_ | refine S4 ?_ | refine S5 ?_ | refine S7 ?_ | refine S8 ?_))
  refine RG.call rfl rfl rfl rfl (K.rja) [] rfl rfl rfl rfl (.nil _) (.nil _) (fun _ h => False.elim h) rfl (A.ren_free _ _ rfl) rfl ?_
  (repeat (first | ((with_reducible show RG _ _ _ _ _ _ _ _); first | refine K1 ?_ | refine K2 ?_ | refine K3 ?_ | refine K4 ?_ | refine K5 ?_ | refine K6 ?_ | refine K7 ?_ | refine L1 ?_ | refine L2 ?_ | refine L3 ?_ | refine RG.d ?_ | refine RG.dd ?_) | refine S1 ?_ | refine S2 ?_ | refine S3 ?_ | refine S4 ?_ | refine S5 ?_ | refine S7 ?_ | refine S8 ?_))
  refine RG.call rfl rfl rfl rfl (K.sj) [] rfl rfl rfl rfl (.nil _) (.nil _) (fun _ h => False.elim h) rfl (A.ren_free _ _ rfl) rfl ?_
  (repeat (first | ((with_reducible show RG _ _ _ _ _ _ _ _); first | refine K1 ?_ | refine K2 ?_ | refine K3 ?_ | refine K4 ?_ | refine K5 ?_ | refine K6 ?_ | refine K7 ?_ | refine L1 ?_ | refine L2 ?_ | refine L3 ?_ | refine RG.d ?_ | refine RG.dd ?_) | refine S1 ?_ | refine S2 ?_ | refine S3 ?_ | refine S4 ?_ | refine S5 ?_ | refine S7 ?_ | refine S8 ?_))
  refine RG.call rfl rfl rfl rfl (K.da) [] rfl rfl rfl rfl (.nil _) (.nil _) (fun _ h => False.elim h) rfl (A.ren_free _ _ rfl) rfl ?_
  (repeat (first | ((with_reducible show RG _ _ _ _ _ _ _ _); first | refine K1 ?_ | refine K2 ?_ | refine K3 ?_ | refine K4 ?_ | refine K5 ?_ | refine K6 ?_ | refine K7 ?_ | refine L1 ?_ | refine L2 ?_ | refine L3 ?_ | refine RG.d ?_ | refine RG.dd ?_) | refine S1 ?_ | refine S2 ?_ | refine S3 ?_ | refine S4 ?_ | refine S5 ?_ | refine S7 ?_ | refine S8 ?_))
  refine RG.call rfl rfl rfl rfl (K.rda) [] rfl rfl rfl rfl (.nil _) (.nil _) (fun _ h => False.elim h) rfl (A.ren_free _ _ rfl) rfl ?_
  (repeat (first | ((with_reducible show RG _ _ _ _ _ _ _ _); first | refine K1 ?_ | refine K2 ?_ | refine K3 ?_ | refine K4 ?_ | refine K5 ?_ | refine K6 ?_ | refine K7 ?_ | refine L1 ?_ | refine L2 ?_ | refine L3 ?_ | refine RG.d ?_ | refine RG.dd ?_) | refine S1 ?_ | refine S2 ?_ | refine S3 ?_ | refine S4 ?_ | refine S5 ?_ | refine S7 ?_ | refine S8 ?_))
  refine RG.put 91 rfl (v' := .val (.bool false)) (congrArg (fun b => A.val (.bool b)) (ne_self (D.toNat : Int))) ?_
  (repeat (first | ((with_reducible show RG _ _ _ _ _ _ _ _); first | refine K1 ?_ | refine K2 ?_ | refine K3 ?_ | refine K4 ?_ | refine K5 ?_ | refine K6 ?_ | refine K7 ?_ | refine L1 ?_ | refine L2 ?_ | refine L3 ?_ | refine RG.d ?_ | refine RG.dd ?_) | refine S1 ?_ | refine S2 ?_ | refine S3 ?_ | refine S4 ?_ | refine S5 ?_ | refine S7 ?_ | refine S8 ?_))
  refine RG.call rfl rfl rfl rfl (K.tx) [] rfl rfl rfl rfl (.nil _) (.nil _) (fun _ h => False.elim h) rfl (A.ren_free _ _ rfl) rfl ?_
  (repeat (first | ((with_reducible show RG _ _ _ _ _ _ _ _); first | refine K1 ?_ | refine K2 ?_ | refine K3 ?_ | refine K4 ?_ | refine K5 ?_ | refine K6 ?_ | refine K7 ?_ | refine L1 ?_ | refine L2 ?_ | refine L3 ?_ | refine RG.d ?_ | refine RG.dd ?_) | refine S1 ?_ | refine S2 ?_ | refine S3 ?_ | refine S4 ?_ | refine S5 ?_ | refine S7 ?_ | refine S8 ?_))
  refine RG.call rfl rfl rfl rfl (K.rtx) [] rfl rfl rfl rfl (.nil _) (.nil _) (fun _ h => False.elim h) rfl (A.ren_free _ _ rfl) rfl ?_
  (first | refine K4 ?_)
  refine RG.put 96 rfl (v' := .val (.bool false)) (congrArg (fun b => A.val (.bool b)) (show (!(ByteArray.toList T == ByteArray.toList T)) = false by rw [beq_self_eq_true]; rfl)) ?_
  (repeat (first | ((with_reducible show RG _ _ _ _ _ _ _ _); first | refine K1 ?_ | refine K2 ?_ | refine K3 ?_ | refine K4 ?_ | refine K5 ?_ | refine K6 ?_ | refine K7 ?_ | refine L1 ?_ | refine L2 ?_ | refine L3 ?_ | refine RG.d ?_ | refine RG.dd ?_) | refine S1 ?_ | refine S2 ?_ | refine S3 ?_ | refine S4 ?_ | refine S5 ?_ | refine S7 ?_ | refine S8 ?_))
  refine RG.call rfl rfl rfl rfl (K.pa) [] rfl rfl rfl rfl (.nil _) (.nil _) (fun _ h => False.elim h) rfl (A.ren_free _ _ rfl) rfl ?_
  (repeat (first | ((with_reducible show RG _ _ _ _ _ _ _ _); first | refine K1 ?_ | refine K2 ?_ | refine K3 ?_ | refine K4 ?_ | refine K5 ?_ | refine K6 ?_ | refine K7 ?_ | refine L1 ?_ | refine L2 ?_ | refine L3 ?_ | refine RG.d ?_ | refine RG.dd ?_) | refine S1 ?_ | refine S2 ?_ | refine S3 ?_ | refine S4 ?_ | refine S5 ?_ | refine S7 ?_ | refine S8 ?_))
  refine RG.call rfl rfl rfl rfl (K.rpa) [] rfl rfl rfl rfl (.nil _) (.nil _) (fun _ h => False.elim h) rfl (A.ren_free _ _ rfl) rfl ?_
  (repeat (first | ((with_reducible show RG _ _ _ _ _ _ _ _); first | refine K1 ?_ | refine K2 ?_ | refine K3 ?_ | refine K4 ?_ | refine K5 ?_ | refine K6 ?_ | refine K7 ?_ | refine L1 ?_ | refine L2 ?_ | refine L3 ?_ | refine RG.d ?_ | refine RG.dd ?_) | refine S2 ?_ | refine S3 ?_ | refine S4 ?_ | refine S5 ?_ | refine S7 ?_ | refine S8 ?_))
  refine S1 ?_; (repeat (first | ((with_reducible show RG _ _ _ _ _ _ _ _); first | refine K1 ?_ | refine K2 ?_ | refine K3 ?_ | refine K4 ?_ | refine K5 ?_ | refine K6 ?_ | refine K7 ?_ | refine L1 ?_ | refine L2 ?_ | refine L3 ?_ | refine RG.d ?_ | refine RG.dd ?_) | refine S2 ?_ | refine S3 ?_ | refine S4 ?_ | refine S5 ?_ | refine S7 ?_ | refine S8 ?_))
  refine AW.sub (Sub.frz (ks := [10]) 16 rfl (frzC (st := 11) rfl (.head _) (flC_len Sy.cl_len [a, o, b]) (flC_free Sy.cl_free [a, o, b]))) ?_
  (repeat (first | ((with_reducible show RG _ _ _ _ _ _ _ _); first | refine K1 ?_ | refine K2 ?_ | refine K3 ?_ | refine K4 ?_ | refine K5 ?_ | refine K6 ?_ | refine K7 ?_ | refine L1 ?_ | refine L2 ?_ | refine L3 ?_ | refine RG.d ?_ | refine RG.dd ?_) | refine S1 ?_ | refine S2 ?_ | refine S3 ?_ | refine S4 ?_ | refine S5 ?_ | refine S7 ?_ | refine S8 ?_))
  refine RG.call rfl rfl rfl rfl (K.fo) [] rfl rfl rfl rfl (.nil _) (.nil _) (fun _ h => False.elim h) rfl (A.ren_free _ _ rfl) rfl ?_
  (repeat (first | ((with_reducible show RG _ _ _ _ _ _ _ _); first | refine K1 ?_ | refine K2 ?_ | refine K3 ?_ | refine K4 ?_ | refine K5 ?_ | refine K6 ?_ | refine K7 ?_ | refine L1 ?_ | refine L2 ?_ | refine L3 ?_ | refine RG.d ?_ | refine RG.dd ?_) | refine S1 ?_ | refine S2 ?_ | refine S3 ?_ | refine S4 ?_ | refine S5 ?_ | refine S7 ?_ | refine S8 ?_))
  refine RG.call rfl rfl rfl rfl (K.rfo) [] rfl rfl rfl rfl (.nil _) (.nil _) (fun _ h => False.elim h) rfl (A.ren_free _ _ rfl) rfl ?_
  (repeat (first | ((with_reducible show RG _ _ _ _ _ _ _ _); first | refine K1 ?_ | refine K2 ?_ | refine K3 ?_ | refine K4 ?_ | refine K5 ?_ | refine K6 ?_ | refine K7 ?_ | refine L1 ?_ | refine L2 ?_ | refine L3 ?_ | refine RG.d ?_ | refine RG.dd ?_) | refine S1 ?_ | refine S2 ?_ | refine S3 ?_ | refine S4 ?_ | refine S5 ?_ | refine S7 ?_ | refine S8 ?_))
  refine RG.put 119 rfl (v' := .val (.bool true)) (congrArg (fun b => A.val (.bool b)) (decide_eq_true (rfl : e2 = e2))) ?_
  (repeat (first | ((with_reducible show RG _ _ _ _ _ _ _ _); first | refine K1 ?_ | refine K2 ?_ | refine K3 ?_ | refine K4 ?_ | refine K5 ?_ | refine K6 ?_ | refine K7 ?_ | refine L1 ?_ | refine L2 ?_ | refine L3 ?_ | refine RG.d ?_ | refine RG.dd ?_) | refine S1 ?_ | refine S2 ?_ | refine S3 ?_ | refine S4 ?_ | refine S5 ?_ | refine S7 ?_ | refine S8 ?_))
  refine RG.call rfl rfl rfl rfl (K.sy) [] rfl rfl rfl rfl (.nil _) (.nil _) (fun _ h => False.elim h) rfl (A.ren_free _ _ rfl) rfl ?_
  (repeat (first | ((with_reducible show RG _ _ _ _ _ _ _ _); first | refine K1 ?_ | refine K2 ?_ | refine K3 ?_ | refine K4 ?_ | refine K5 ?_ | refine K6 ?_ | refine K7 ?_ | refine L1 ?_ | refine L2 ?_ | refine L3 ?_ | refine RG.d ?_ | refine RG.dd ?_) | refine S1 ?_ | refine S2 ?_ | refine S3 ?_ | refine S4 ?_ | refine S5 ?_ | refine S7 ?_ | refine S8 ?_))
  refine RG.put 133 rfl (v' := .val (.bool true)) (congrArg (fun b => A.val (.bool b)) (beq_self_eq_true f.2)) ?_
  (repeat (first | ((with_reducible show RG _ _ _ _ _ _ _ _); first | refine K1 ?_ | refine K2 ?_ | refine K3 ?_ | refine K4 ?_ | refine K5 ?_ | refine K6 ?_ | refine K7 ?_ | refine L1 ?_ | refine L2 ?_ | refine L3 ?_ | refine RG.d ?_ | refine RG.dd ?_) | refine S1 ?_ | refine S2 ?_ | refine S3 ?_ | refine S4 ?_ | refine S5 ?_ | refine S7 ?_ | refine S8 ?_))
  refine RG.call rfl rfl rfl rfl (K.sf) [] rfl rfl rfl rfl (.nil _) (.nil _) (fun _ h => False.elim h) rfl (A.ren_free _ _ rfl) rfl ?_
  (repeat (first | ((with_reducible show RG _ _ _ _ _ _ _ _); first | refine K1 ?_ | refine K2 ?_ | refine K3 ?_ | refine K4 ?_ | refine K5 ?_ | refine K6 ?_ | refine K7 ?_ | refine L1 ?_ | refine L2 ?_ | refine L3 ?_ | refine RG.d ?_ | refine RG.dd ?_) | refine S1 ?_ | refine S2 ?_ | refine S3 ?_ | refine S4 ?_ | refine S5 ?_ | refine S6 ?_ | refine S7 ?_ | refine S8 ?_))
  exact ⟨⟨_, rfl, rfl⟩, rfl, .nil _⟩
end Go.Proofs.YtifeioddiddnoaaGreatDoor
namespace Go.Proofs.YtifeioddiddnoaaGreatDoor
open Go.Abs Go Go.RowKit
set_option maxRecDepth 20000
def chS (s : Sy) (m : Nat) (z : Int) : Sy := match m with
  | 0 => { s with id := z }
  | 1 => { s with res := { s.res with lo := z } }
  | 2 => { s with res := { s.res with hi := z } }
  | 3 => { s with res := { s.res with m := z } }
  | 4 => { s with res := { s.res with r := z } }
  | 5 => { s with res := { s.res with mask := z } }
  | 6 => { s with throws := z }
  | 7 => { s with locks := z }
  | 8 => { s with loads := z }
  | 9 => { s with cost := z }
  | 10 => { s with pairs := s.pairs ++ [⟨z, 1, 0⟩] }
  | 11 => { s with pairs := ⟨1, z, 0⟩ :: s.pairs }
  | _ => { s with pairs := s.pairs ++ [⟨2, 1, z⟩] }
set_option maxHeartbeats 16000000 in
theorem changed_fc (s : Sy) (k z : Int) (m : Nat) (hm : m < 16) (em : IntKind.i64.wrap ((BitVec.ofInt 64 k &&& BitVec.ofInt 64 15).toNat : Nat) = (m : Int)) (hl : s.pairs.length ≤ 6) :
    FC Tryz.prog gs 20 [.agg s.cl, .agg [i64 k, i64 z]] [] (.agg (chS s m z).cl) [] NoP := by
  have hfl : (flC Pr.cl s.pairs).length = s.pairs.length * 3 := flC_len Pr.cl_len _
  have hcell : (flC Pr.cl s.pairs).all A.cell = true := flC_cell Pr.cl_cell _
  refine FC.of_AW tok Tryz.func20 (by kernel_rfl) rfl Tryz.ntmps20 [] rfl rfl rfl ?_; intro w0 X0 Y f0 hI0 hX0
  (repeat (first | ((with_reducible show RG _ _ _ _ _ _ _ _); first | refine K1 ?_ | refine K2 ?_ | refine K3 ?_ | refine K4 ?_ | refine K5 ?_ | refine K6 ?_ | refine K7 ?_ | refine L1 ?_ | refine L2 ?_ | refine L3 ?_ | refine RG.d ?_ | refine RG.dd ?_) | refine S1 ?_ | refine S2 ?_ | refine S3 ?_ | refine S4 ?_ | refine S5 ?_ | refine S7 ?_ | refine S8 ?_))
  refine RG.append (c' := flC Pr.cl s.pairs) tok rfl rfl rfl rfl rfl rfl rfl rfl rfl rfl hfl (by decide) hcell (by omega) (by omega) rfl rfl ?_
  refine RG.put 8 rfl (v' := .sl 4 [] 3 0 s.pairs.length) (congrArg (A.sl 4 [] 3 0) (Nat.zero_add _)) ?_
  (repeat (first | ((with_reducible show RG _ _ _ _ _ _ _ _); first | refine K1 ?_ | refine K2 ?_ | refine K3 ?_ | refine K4 ?_ | refine K5 ?_ | refine K6 ?_ | refine K7 ?_ | refine L1 ?_ | refine L2 ?_ | refine L3 ?_ | refine RG.d ?_ | refine RG.dd ?_) | refine S2 ?_ | refine S3 ?_ | refine S4 ?_ | refine S5 ?_ | refine S7 ?_ | refine S8 ?_))
  refine AW.sub (t := ⟨put 2 (some (.ptr 0 [] 0)) (put 3 (some (.ptr 1 [] 0)) (put 4 (some (.ptr 2 [] 0)) noE)), hput 0 (.one ([i64 s.id, i64 s.res.lo, i64 s.res.hi, i64 s.res.m, i64 s.res.r, i64 s.res.mask, i64 s.throws, i64 s.locks, i64 s.loads, .sl 4 [] 3 0 s.pairs.length, i64 s.cost])) (hput 1 (.one ([i64 k, i64 z])) (hput 2 (.one ([i64 0, i64 0, i64 0, i64 0, i64 0, i64 0, i64 0, i64 0, i64 0, nilA, i64 0])) (hput 4 (.one (flC Pr.cl s.pairs)) noH))), 5⟩) (Sub.of (by repeat (first | exact SubE.no _ | refine SubE.put rfl ?_)) (by repeat (first | exact SubH.no _ | refine SubH.put rfl ?_)) rfl) ?_
  repeat refine S1 ?_
  refine S2 ?_
  iterate 3 ((first | refine K1 ?_ | refine K2 ?_ | refine K3 ?_ | refine K4 ?_ | refine K5 ?_ | refine K6 ?_ | refine K7 ?_ | refine L1 ?_ | refine L2 ?_ | refine L3 ?_))
  refine RG.put 12 rfl (v' := i64 (m : Int)) (congrArg i64 em) ?_
  clear em
  match m, hm with
  | 0, _ =>
    (repeat (first | ((with_reducible show RG _ _ _ _ _ _ _ _); first | refine K1 ?_ | refine K2 ?_ | refine K3 ?_ | refine K4 ?_ | refine K5 ?_ | refine K6 ?_ | refine K7 ?_ | refine L1 ?_ | refine L2 ?_ | refine L3 ?_ | refine RG.d ?_ | refine RG.dd ?_) | refine S2 ?_ | refine S3 ?_ | refine S4 ?_ | refine S5 ?_ | refine S7 ?_ | refine S8 ?_))
    refine AW.sub (Sub.frzH (ks := [4]) (c' := s.cl) 0 rfl (by decide) (by repeat (first | exact Frzs.nil | refine Frzs.cons (Frz.refl _) ?_ | refine Frzs.cons (frzC (st := 3) rfl (.head _) (flC_len Pr.cl_len _) (flC_free Pr.cl_free _)) ?_))) ?_
    (repeat (first | ((with_reducible show RG _ _ _ _ _ _ _ _); first | refine K1 ?_ | refine K2 ?_ | refine K3 ?_ | refine K4 ?_ | refine K5 ?_ | refine K6 ?_ | refine K7 ?_ | refine L1 ?_ | refine L2 ?_ | refine L3 ?_ | refine RG.d ?_ | refine RG.dd ?_) | refine S1 ?_ | refine S2 ?_ | refine S3 ?_ | refine S4 ?_ | refine S5 ?_ | refine S6 ?_ | refine S7 ?_ | refine S8 ?_))
    exact ⟨⟨_, rfl, rfl⟩, rfl, .nil _⟩
  | 1, _ =>
    (repeat (first | ((with_reducible show RG _ _ _ _ _ _ _ _); first | refine K1 ?_ | refine K2 ?_ | refine K3 ?_ | refine K4 ?_ | refine K5 ?_ | refine K6 ?_ | refine K7 ?_ | refine L1 ?_ | refine L2 ?_ | refine L3 ?_ | refine RG.d ?_ | refine RG.dd ?_) | refine S2 ?_ | refine S3 ?_ | refine S4 ?_ | refine S5 ?_ | refine S7 ?_ | refine S8 ?_))
    refine AW.sub (Sub.frzH (ks := [4]) (c' := s.cl) 0 rfl (by decide) (by repeat (first | exact Frzs.nil | refine Frzs.cons (Frz.refl _) ?_ | refine Frzs.cons (frzC (st := 3) rfl (.head _) (flC_len Pr.cl_len _) (flC_free Pr.cl_free _)) ?_))) ?_
    (repeat (first | ((with_reducible show RG _ _ _ _ _ _ _ _); first | refine K1 ?_ | refine K2 ?_ | refine K3 ?_ | refine K4 ?_ | refine K5 ?_ | refine K6 ?_ | refine K7 ?_ | refine L1 ?_ | refine L2 ?_ | refine L3 ?_ | refine RG.d ?_ | refine RG.dd ?_) | refine S1 ?_ | refine S2 ?_ | refine S3 ?_ | refine S4 ?_ | refine S5 ?_ | refine S6 ?_ | refine S7 ?_ | refine S8 ?_))
    exact ⟨⟨_, rfl, rfl⟩, rfl, .nil _⟩
  | 2, _ =>
    (repeat (first | ((with_reducible show RG _ _ _ _ _ _ _ _); first | refine K1 ?_ | refine K2 ?_ | refine K3 ?_ | refine K4 ?_ | refine K5 ?_ | refine K6 ?_ | refine K7 ?_ | refine L1 ?_ | refine L2 ?_ | refine L3 ?_ | refine RG.d ?_ | refine RG.dd ?_) | refine S2 ?_ | refine S3 ?_ | refine S4 ?_ | refine S5 ?_ | refine S7 ?_ | refine S8 ?_))
    refine AW.sub (Sub.frzH (ks := [4]) (c' := s.cl) 0 rfl (by decide) (by repeat (first | exact Frzs.nil | refine Frzs.cons (Frz.refl _) ?_ | refine Frzs.cons (frzC (st := 3) rfl (.head _) (flC_len Pr.cl_len _) (flC_free Pr.cl_free _)) ?_))) ?_
    (repeat (first | ((with_reducible show RG _ _ _ _ _ _ _ _); first | refine K1 ?_ | refine K2 ?_ | refine K3 ?_ | refine K4 ?_ | refine K5 ?_ | refine K6 ?_ | refine K7 ?_ | refine L1 ?_ | refine L2 ?_ | refine L3 ?_ | refine RG.d ?_ | refine RG.dd ?_) | refine S1 ?_ | refine S2 ?_ | refine S3 ?_ | refine S4 ?_ | refine S5 ?_ | refine S6 ?_ | refine S7 ?_ | refine S8 ?_))
    exact ⟨⟨_, rfl, rfl⟩, rfl, .nil _⟩
  | 3, _ =>
    (repeat (first | ((with_reducible show RG _ _ _ _ _ _ _ _); first | refine K1 ?_ | refine K2 ?_ | refine K3 ?_ | refine K4 ?_ | refine K5 ?_ | refine K6 ?_ | refine K7 ?_ | refine L1 ?_ | refine L2 ?_ | refine L3 ?_ | refine RG.d ?_ | refine RG.dd ?_) | refine S2 ?_ | refine S3 ?_ | refine S4 ?_ | refine S5 ?_ | refine S7 ?_ | refine S8 ?_))
    refine AW.sub (Sub.frzH (ks := [4]) (c' := s.cl) 0 rfl (by decide) (by repeat (first | exact Frzs.nil | refine Frzs.cons (Frz.refl _) ?_ | refine Frzs.cons (frzC (st := 3) rfl (.head _) (flC_len Pr.cl_len _) (flC_free Pr.cl_free _)) ?_))) ?_
    (repeat (first | ((with_reducible show RG _ _ _ _ _ _ _ _); first | refine K1 ?_ | refine K2 ?_ | refine K3 ?_ | refine K4 ?_ | refine K5 ?_ | refine K6 ?_ | refine K7 ?_ | refine L1 ?_ | refine L2 ?_ | refine L3 ?_ | refine RG.d ?_ | refine RG.dd ?_) | refine S1 ?_ | refine S2 ?_ | refine S3 ?_ | refine S4 ?_ | refine S5 ?_ | refine S6 ?_ | refine S7 ?_ | refine S8 ?_))
    exact ⟨⟨_, rfl, rfl⟩, rfl, .nil _⟩
  | 4, _ =>
    (repeat (first | ((with_reducible show RG _ _ _ _ _ _ _ _); first | refine K1 ?_ | refine K2 ?_ | refine K3 ?_ | refine K4 ?_ | refine K5 ?_ | refine K6 ?_ | refine K7 ?_ | refine L1 ?_ | refine L2 ?_ | refine L3 ?_ | refine RG.d ?_ | refine RG.dd ?_) | refine S2 ?_ | refine S3 ?_ | refine S4 ?_ | refine S5 ?_ | refine S7 ?_ | refine S8 ?_))
    refine AW.sub (Sub.frzH (ks := [4]) (c' := s.cl) 0 rfl (by decide) (by repeat (first | exact Frzs.nil | refine Frzs.cons (Frz.refl _) ?_ | refine Frzs.cons (frzC (st := 3) rfl (.head _) (flC_len Pr.cl_len _) (flC_free Pr.cl_free _)) ?_))) ?_
    (repeat (first | ((with_reducible show RG _ _ _ _ _ _ _ _); first | refine K1 ?_ | refine K2 ?_ | refine K3 ?_ | refine K4 ?_ | refine K5 ?_ | refine K6 ?_ | refine K7 ?_ | refine L1 ?_ | refine L2 ?_ | refine L3 ?_ | refine RG.d ?_ | refine RG.dd ?_) | refine S1 ?_ | refine S2 ?_ | refine S3 ?_ | refine S4 ?_ | refine S5 ?_ | refine S6 ?_ | refine S7 ?_ | refine S8 ?_))
    exact ⟨⟨_, rfl, rfl⟩, rfl, .nil _⟩
  | 5, _ =>
    (repeat (first | ((with_reducible show RG _ _ _ _ _ _ _ _); first | refine K1 ?_ | refine K2 ?_ | refine K3 ?_ | refine K4 ?_ | refine K5 ?_ | refine K6 ?_ | refine K7 ?_ | refine L1 ?_ | refine L2 ?_ | refine L3 ?_ | refine RG.d ?_ | refine RG.dd ?_) | refine S2 ?_ | refine S3 ?_ | refine S4 ?_ | refine S5 ?_ | refine S7 ?_ | refine S8 ?_))
    refine AW.sub (Sub.frzH (ks := [4]) (c' := s.cl) 0 rfl (by decide) (by repeat (first | exact Frzs.nil | refine Frzs.cons (Frz.refl _) ?_ | refine Frzs.cons (frzC (st := 3) rfl (.head _) (flC_len Pr.cl_len _) (flC_free Pr.cl_free _)) ?_))) ?_
    (repeat (first | ((with_reducible show RG _ _ _ _ _ _ _ _); first | refine K1 ?_ | refine K2 ?_ | refine K3 ?_ | refine K4 ?_ | refine K5 ?_ | refine K6 ?_ | refine K7 ?_ | refine L1 ?_ | refine L2 ?_ | refine L3 ?_ | refine RG.d ?_ | refine RG.dd ?_) | refine S1 ?_ | refine S2 ?_ | refine S3 ?_ | refine S4 ?_ | refine S5 ?_ | refine S6 ?_ | refine S7 ?_ | refine S8 ?_))
    exact ⟨⟨_, rfl, rfl⟩, rfl, .nil _⟩
  | 6, _ =>
    (repeat (first | ((with_reducible show RG _ _ _ _ _ _ _ _); first | refine K1 ?_ | refine K2 ?_ | refine K3 ?_ | refine K4 ?_ | refine K5 ?_ | refine K6 ?_ | refine K7 ?_ | refine L1 ?_ | refine L2 ?_ | refine L3 ?_ | refine RG.d ?_ | refine RG.dd ?_) | refine S2 ?_ | refine S3 ?_ | refine S4 ?_ | refine S5 ?_ | refine S7 ?_ | refine S8 ?_))
    refine AW.sub (Sub.frzH (ks := [4]) (c' := s.cl) 0 rfl (by decide) (by repeat (first | exact Frzs.nil | refine Frzs.cons (Frz.refl _) ?_ | refine Frzs.cons (frzC (st := 3) rfl (.head _) (flC_len Pr.cl_len _) (flC_free Pr.cl_free _)) ?_))) ?_
    (repeat (first | ((with_reducible show RG _ _ _ _ _ _ _ _); first | refine K1 ?_ | refine K2 ?_ | refine K3 ?_ | refine K4 ?_ | refine K5 ?_ | refine K6 ?_ | refine K7 ?_ | refine L1 ?_ | refine L2 ?_ | refine L3 ?_ | refine RG.d ?_ | refine RG.dd ?_) | refine S1 ?_ | refine S2 ?_ | refine S3 ?_ | refine S4 ?_ | refine S5 ?_ | refine S6 ?_ | refine S7 ?_ | refine S8 ?_))
    exact ⟨⟨_, rfl, rfl⟩, rfl, .nil _⟩
  | 7, _ =>
    (repeat (first | ((with_reducible show RG _ _ _ _ _ _ _ _); first | refine K1 ?_ | refine K2 ?_ | refine K3 ?_ | refine K4 ?_ | refine K5 ?_ | refine K6 ?_ | refine K7 ?_ | refine L1 ?_ | refine L2 ?_ | refine L3 ?_ | refine RG.d ?_ | refine RG.dd ?_) | refine S2 ?_ | refine S3 ?_ | refine S4 ?_ | refine S5 ?_ | refine S7 ?_ | refine S8 ?_))
    refine AW.sub (Sub.frzH (ks := [4]) (c' := s.cl) 0 rfl (by decide) (by repeat (first | exact Frzs.nil | refine Frzs.cons (Frz.refl _) ?_ | refine Frzs.cons (frzC (st := 3) rfl (.head _) (flC_len Pr.cl_len _) (flC_free Pr.cl_free _)) ?_))) ?_
    (repeat (first | ((with_reducible show RG _ _ _ _ _ _ _ _); first | refine K1 ?_ | refine K2 ?_ | refine K3 ?_ | refine K4 ?_ | refine K5 ?_ | refine K6 ?_ | refine K7 ?_ | refine L1 ?_ | refine L2 ?_ | refine L3 ?_ | refine RG.d ?_ | refine RG.dd ?_) | refine S1 ?_ | refine S2 ?_ | refine S3 ?_ | refine S4 ?_ | refine S5 ?_ | refine S6 ?_ | refine S7 ?_ | refine S8 ?_))
    exact ⟨⟨_, rfl, rfl⟩, rfl, .nil _⟩
  | 8, _ =>
    (repeat (first | ((with_reducible show RG _ _ _ _ _ _ _ _); first | refine K1 ?_ | refine K2 ?_ | refine K3 ?_ | refine K4 ?_ | refine K5 ?_ | refine K6 ?_ | refine K7 ?_ | refine L1 ?_ | refine L2 ?_ | refine L3 ?_ | refine RG.d ?_ | refine RG.dd ?_) | refine S2 ?_ | refine S3 ?_ | refine S4 ?_ | refine S5 ?_ | refine S7 ?_ | refine S8 ?_))
    refine AW.sub (Sub.frzH (ks := [4]) (c' := s.cl) 0 rfl (by decide) (by repeat (first | exact Frzs.nil | refine Frzs.cons (Frz.refl _) ?_ | refine Frzs.cons (frzC (st := 3) rfl (.head _) (flC_len Pr.cl_len _) (flC_free Pr.cl_free _)) ?_))) ?_
    (repeat (first | ((with_reducible show RG _ _ _ _ _ _ _ _); first | refine K1 ?_ | refine K2 ?_ | refine K3 ?_ | refine K4 ?_ | refine K5 ?_ | refine K6 ?_ | refine K7 ?_ | refine L1 ?_ | refine L2 ?_ | refine L3 ?_ | refine RG.d ?_ | refine RG.dd ?_) | refine S1 ?_ | refine S2 ?_ | refine S3 ?_ | refine S4 ?_ | refine S5 ?_ | refine S6 ?_ | refine S7 ?_ | refine S8 ?_))
    exact ⟨⟨_, rfl, rfl⟩, rfl, .nil _⟩
  | 9, _ =>
    (repeat (first | ((with_reducible show RG _ _ _ _ _ _ _ _); first | refine K1 ?_ | refine K2 ?_ | refine K3 ?_ | refine K4 ?_ | refine K5 ?_ | refine K6 ?_ | refine K7 ?_ | refine L1 ?_ | refine L2 ?_ | refine L3 ?_ | refine RG.d ?_ | refine RG.dd ?_) | refine S2 ?_ | refine S3 ?_ | refine S4 ?_ | refine S5 ?_ | refine S7 ?_ | refine S8 ?_))
    refine AW.sub (Sub.frzH (ks := [4]) (c' := s.cl) 0 rfl (by decide) (by repeat (first | exact Frzs.nil | refine Frzs.cons (Frz.refl _) ?_ | refine Frzs.cons (frzC (st := 3) rfl (.head _) (flC_len Pr.cl_len _) (flC_free Pr.cl_free _)) ?_))) ?_
    (repeat (first | ((with_reducible show RG _ _ _ _ _ _ _ _); first | refine K1 ?_ | refine K2 ?_ | refine K3 ?_ | refine K4 ?_ | refine K5 ?_ | refine K6 ?_ | refine K7 ?_ | refine L1 ?_ | refine L2 ?_ | refine L3 ?_ | refine RG.d ?_ | refine RG.dd ?_) | refine S1 ?_ | refine S2 ?_ | refine S3 ?_ | refine S4 ?_ | refine S5 ?_ | refine S6 ?_ | refine S7 ?_ | refine S8 ?_))
    exact ⟨⟨_, rfl, rfl⟩, rfl, .nil _⟩
  | 10, _ =>
    (repeat (first | ((with_reducible show RG _ _ _ _ _ _ _ _); first | refine K1 ?_ | refine K2 ?_ | refine K3 ?_ | refine K4 ?_ | refine K5 ?_ | refine K6 ?_ | refine K7 ?_ | refine L1 ?_ | refine L2 ?_ | refine L3 ?_ | refine RG.d ?_ | refine RG.dd ?_) | refine S1 ?_ | refine S2 ?_ | refine S3 ?_ | refine S4 ?_ | refine S5 ?_ | refine S7 ?_ | refine S8 ?_))
    refine RG.append (c' := flC Pr.cl (s.pairs ++ [⟨z, 1, 0⟩])) tok rfl rfl rfl rfl rfl rfl rfl rfl rfl rfl rfl (by rw [hfl]; omega) rfl (by omega) (by omega) rfl (by rw [List.take_of_length_le (by omega), flC_append]; rfl) ?_
    refine RG.put 84 rfl (v' := .sl 6 [] 3 0 (s.pairs ++ [(⟨z, 1, 0⟩ : Pr)]).length) (congrArg (A.sl 6 [] 3 0) (by rw [List.length_append]; rfl)) ?_
    (repeat (first | ((with_reducible show RG _ _ _ _ _ _ _ _); first | refine K1 ?_ | refine K2 ?_ | refine K3 ?_ | refine K4 ?_ | refine K5 ?_ | refine K6 ?_ | refine K7 ?_ | refine L1 ?_ | refine L2 ?_ | refine L3 ?_ | refine RG.d ?_ | refine RG.dd ?_) | refine S2 ?_ | refine S3 ?_ | refine S4 ?_ | refine S5 ?_ | refine S7 ?_ | refine S8 ?_))
    refine AW.sub (Sub.frzH (ks := [6]) (c' := Sy.cl { s with pairs := s.pairs ++ [⟨z, 1, 0⟩] }) 0 rfl (by decide) (by repeat (first | exact Frzs.nil | refine Frzs.cons (Frz.refl _) ?_ | refine Frzs.cons (frzC (st := 3) rfl (.head _) (flC_len Pr.cl_len _) (flC_free Pr.cl_free _)) ?_))) ?_
    (repeat (first | ((with_reducible show RG _ _ _ _ _ _ _ _); first | refine K1 ?_ | refine K2 ?_ | refine K3 ?_ | refine K4 ?_ | refine K5 ?_ | refine K6 ?_ | refine K7 ?_ | refine L1 ?_ | refine L2 ?_ | refine L3 ?_ | refine RG.d ?_ | refine RG.dd ?_) | refine S1 ?_ | refine S2 ?_ | refine S3 ?_ | refine S4 ?_ | refine S5 ?_ | refine S6 ?_ | refine S7 ?_ | refine S8 ?_))
    exact ⟨⟨_, rfl, rfl⟩, rfl, .nil _⟩
  | 11, _ =>
    (repeat (first | ((with_reducible show RG _ _ _ _ _ _ _ _); first | refine K1 ?_ | refine K2 ?_ | refine K3 ?_ | refine K4 ?_ | refine K5 ?_ | refine K6 ?_ | refine K7 ?_ | refine L1 ?_ | refine L2 ?_ | refine L3 ?_ | refine RG.d ?_ | refine RG.dd ?_) | refine S1 ?_ | refine S2 ?_ | refine S3 ?_ | refine S4 ?_ | refine S5 ?_ | refine S7 ?_ | refine S8 ?_))
    refine RG.append (c' := flC Pr.cl ((⟨1, z, 0⟩ : Pr) :: s.pairs)) tok rfl rfl rfl rfl rfl rfl rfl rfl rfl rfl (by rw [List.take_of_length_le (by omega)]; exact hfl) (Nat.le_refl 3) (by rw [List.take_of_length_le (by omega)]; exact hcell) (by omega) (by first | omega | exact Nat.le_refl _ | (simp [rep]; omega)) rfl (by rw [List.take_of_length_le (l := flC Pr.cl s.pairs) (by omega)]; rfl) ?_
    refine RG.put 94 rfl (v' := .sl 6 [] 3 0 ((⟨1, z, 0⟩ : Pr) :: s.pairs).length) (congrArg (A.sl 6 [] 3 0) (Nat.add_comm _ _)) ?_
    (repeat (first | ((with_reducible show RG _ _ _ _ _ _ _ _); first | refine K1 ?_ | refine K2 ?_ | refine K3 ?_ | refine K4 ?_ | refine K5 ?_ | refine K6 ?_ | refine K7 ?_ | refine L1 ?_ | refine L2 ?_ | refine L3 ?_ | refine RG.d ?_ | refine RG.dd ?_) | refine S2 ?_ | refine S3 ?_ | refine S4 ?_ | refine S5 ?_ | refine S7 ?_ | refine S8 ?_))
    refine AW.sub (Sub.frzH (ks := [6]) (c' := Sy.cl { s with pairs := (⟨1, z, 0⟩ : Pr) :: s.pairs }) 0 rfl (by decide) (by repeat (first | exact Frzs.nil | refine Frzs.cons (Frz.refl _) ?_ | refine Frzs.cons (frzC (st := 3) rfl (.head _) (flC_len Pr.cl_len _) (flC_free Pr.cl_free _)) ?_))) ?_
    (repeat (first | ((with_reducible show RG _ _ _ _ _ _ _ _); first | refine K1 ?_ | refine K2 ?_ | refine K3 ?_ | refine K4 ?_ | refine K5 ?_ | refine K6 ?_ | refine K7 ?_ | refine L1 ?_ | refine L2 ?_ | refine L3 ?_ | refine RG.d ?_ | refine RG.dd ?_) | refine S1 ?_ | refine S2 ?_ | refine S3 ?_ | refine S4 ?_ | refine S5 ?_ | refine S6 ?_ | refine S7 ?_ | refine S8 ?_))
    exact ⟨⟨_, rfl, rfl⟩, rfl, .nil _⟩
  | 12, _ =>
    (repeat (first | ((with_reducible show RG _ _ _ _ _ _ _ _); first | refine K1 ?_ | refine K2 ?_ | refine K3 ?_ | refine K4 ?_ | refine K5 ?_ | refine K6 ?_ | refine K7 ?_ | refine L1 ?_ | refine L2 ?_ | refine L3 ?_ | refine RG.d ?_ | refine RG.dd ?_) | refine S1 ?_ | refine S2 ?_ | refine S3 ?_ | refine S4 ?_ | refine S5 ?_ | refine S7 ?_ | refine S8 ?_))
    refine RG.append (c' := flC Pr.cl (s.pairs ++ [⟨2, 1, z⟩])) tok rfl rfl rfl rfl rfl rfl rfl rfl rfl rfl rfl (by rw [hfl]; omega) rfl (by omega) (by omega) rfl (by rw [List.take_of_length_le (by omega), flC_append]; rfl) ?_
    refine RG.put 19 rfl (v' := .sl 6 [] 3 0 (s.pairs ++ [(⟨2, 1, z⟩ : Pr)]).length) (congrArg (A.sl 6 [] 3 0) (by rw [List.length_append]; rfl)) ?_
    (repeat (first | ((with_reducible show RG _ _ _ _ _ _ _ _); first | refine K1 ?_ | refine K2 ?_ | refine K3 ?_ | refine K4 ?_ | refine K5 ?_ | refine K6 ?_ | refine K7 ?_ | refine L1 ?_ | refine L2 ?_ | refine L3 ?_ | refine RG.d ?_ | refine RG.dd ?_) | refine S2 ?_ | refine S3 ?_ | refine S4 ?_ | refine S5 ?_ | refine S7 ?_ | refine S8 ?_))
    refine AW.sub (Sub.frzH (ks := [6]) (c' := Sy.cl { s with pairs := s.pairs ++ [⟨2, 1, z⟩] }) 0 rfl (by decide) (by repeat (first | exact Frzs.nil | refine Frzs.cons (Frz.refl _) ?_ | refine Frzs.cons (frzC (st := 3) rfl (.head _) (flC_len Pr.cl_len _) (flC_free Pr.cl_free _)) ?_))) ?_
    (repeat (first | ((with_reducible show RG _ _ _ _ _ _ _ _); first | refine K1 ?_ | refine K2 ?_ | refine K3 ?_ | refine K4 ?_ | refine K5 ?_ | refine K6 ?_ | refine K7 ?_ | refine L1 ?_ | refine L2 ?_ | refine L3 ?_ | refine RG.d ?_ | refine RG.dd ?_) | refine S1 ?_ | refine S2 ?_ | refine S3 ?_ | refine S4 ?_ | refine S5 ?_ | refine S6 ?_ | refine S7 ?_ | refine S8 ?_))
    exact ⟨⟨_, rfl, rfl⟩, rfl, .nil _⟩
  | 13, _ =>
    (repeat (first | ((with_reducible show RG _ _ _ _ _ _ _ _); first | refine K1 ?_ | refine K2 ?_ | refine K3 ?_ | refine K4 ?_ | refine K5 ?_ | refine K6 ?_ | refine K7 ?_ | refine L1 ?_ | refine L2 ?_ | refine L3 ?_ | refine RG.d ?_ | refine RG.dd ?_) | refine S1 ?_ | refine S2 ?_ | refine S3 ?_ | refine S4 ?_ | refine S5 ?_ | refine S7 ?_ | refine S8 ?_))
    refine RG.append (c' := flC Pr.cl (s.pairs ++ [⟨2, 1, z⟩])) tok rfl rfl rfl rfl rfl rfl rfl rfl rfl rfl rfl (by rw [hfl]; omega) rfl (by omega) (by omega) rfl (by rw [List.take_of_length_le (by omega), flC_append]; rfl) ?_
    refine RG.put 19 rfl (v' := .sl 6 [] 3 0 (s.pairs ++ [(⟨2, 1, z⟩ : Pr)]).length) (congrArg (A.sl 6 [] 3 0) (by rw [List.length_append]; rfl)) ?_
    (repeat (first | ((with_reducible show RG _ _ _ _ _ _ _ _); first | refine K1 ?_ | refine K2 ?_ | refine K3 ?_ | refine K4 ?_ | refine K5 ?_ | refine K6 ?_ | refine K7 ?_ | refine L1 ?_ | refine L2 ?_ | refine L3 ?_ | refine RG.d ?_ | refine RG.dd ?_) | refine S2 ?_ | refine S3 ?_ | refine S4 ?_ | refine S5 ?_ | refine S7 ?_ | refine S8 ?_))
    refine AW.sub (Sub.frzH (ks := [6]) (c' := Sy.cl { s with pairs := s.pairs ++ [⟨2, 1, z⟩] }) 0 rfl (by decide) (by repeat (first | exact Frzs.nil | refine Frzs.cons (Frz.refl _) ?_ | refine Frzs.cons (frzC (st := 3) rfl (.head _) (flC_len Pr.cl_len _) (flC_free Pr.cl_free _)) ?_))) ?_
    (repeat (first | ((with_reducible show RG _ _ _ _ _ _ _ _); first | refine K1 ?_ | refine K2 ?_ | refine K3 ?_ | refine K4 ?_ | refine K5 ?_ | refine K6 ?_ | refine K7 ?_ | refine L1 ?_ | refine L2 ?_ | refine L3 ?_ | refine RG.d ?_ | refine RG.dd ?_) | refine S1 ?_ | refine S2 ?_ | refine S3 ?_ | refine S4 ?_ | refine S5 ?_ | refine S6 ?_ | refine S7 ?_ | refine S8 ?_))
    exact ⟨⟨_, rfl, rfl⟩, rfl, .nil _⟩
  | 14, _ =>
    (repeat (first | ((with_reducible show RG _ _ _ _ _ _ _ _); first | refine K1 ?_ | refine K2 ?_ | refine K3 ?_ | refine K4 ?_ | refine K5 ?_ | refine K6 ?_ | refine K7 ?_ | refine L1 ?_ | refine L2 ?_ | refine L3 ?_ | refine RG.d ?_ | refine RG.dd ?_) | refine S1 ?_ | refine S2 ?_ | refine S3 ?_ | refine S4 ?_ | refine S5 ?_ | refine S7 ?_ | refine S8 ?_))
    refine RG.append (c' := flC Pr.cl (s.pairs ++ [⟨2, 1, z⟩])) tok rfl rfl rfl rfl rfl rfl rfl rfl rfl rfl rfl (by rw [hfl]; omega) rfl (by omega) (by omega) rfl (by rw [List.take_of_length_le (by omega), flC_append]; rfl) ?_
    refine RG.put 19 rfl (v' := .sl 6 [] 3 0 (s.pairs ++ [(⟨2, 1, z⟩ : Pr)]).length) (congrArg (A.sl 6 [] 3 0) (by rw [List.length_append]; rfl)) ?_
    (repeat (first | ((with_reducible show RG _ _ _ _ _ _ _ _); first | refine K1 ?_ | refine K2 ?_ | refine K3 ?_ | refine K4 ?_ | refine K5 ?_ | refine K6 ?_ | refine K7 ?_ | refine L1 ?_ | refine L2 ?_ | refine L3 ?_ | refine RG.d ?_ | refine RG.dd ?_) | refine S2 ?_ | refine S3 ?_ | refine S4 ?_ | refine S5 ?_ | refine S7 ?_ | refine S8 ?_))
    refine AW.sub (Sub.frzH (ks := [6]) (c' := Sy.cl { s with pairs := s.pairs ++ [⟨2, 1, z⟩] }) 0 rfl (by decide) (by repeat (first | exact Frzs.nil | refine Frzs.cons (Frz.refl _) ?_ | refine Frzs.cons (frzC (st := 3) rfl (.head _) (flC_len Pr.cl_len _) (flC_free Pr.cl_free _)) ?_))) ?_
    (repeat (first | ((with_reducible show RG _ _ _ _ _ _ _ _); first | refine K1 ?_ | refine K2 ?_ | refine K3 ?_ | refine K4 ?_ | refine K5 ?_ | refine K6 ?_ | refine K7 ?_ | refine L1 ?_ | refine L2 ?_ | refine L3 ?_ | refine RG.d ?_ | refine RG.dd ?_) | refine S1 ?_ | refine S2 ?_ | refine S3 ?_ | refine S4 ?_ | refine S5 ?_ | refine S6 ?_ | refine S7 ?_ | refine S8 ?_))
    exact ⟨⟨_, rfl, rfl⟩, rfl, .nil _⟩
  | 15, _ =>
    (repeat (first | ((with_reducible show RG _ _ _ _ _ _ _ _); first | refine K1 ?_ | refine K2 ?_ | refine K3 ?_ | refine K4 ?_ | refine K5 ?_ | refine K6 ?_ | refine K7 ?_ | refine L1 ?_ | refine L2 ?_ | refine L3 ?_ | refine RG.d ?_ | refine RG.dd ?_) | refine S1 ?_ | refine S2 ?_ | refine S3 ?_ | refine S4 ?_ | refine S5 ?_ | refine S7 ?_ | refine S8 ?_))
    refine RG.append (c' := flC Pr.cl (s.pairs ++ [⟨2, 1, z⟩])) tok rfl rfl rfl rfl rfl rfl rfl rfl rfl rfl rfl (by rw [hfl]; omega) rfl (by omega) (by omega) rfl (by rw [List.take_of_length_le (by omega), flC_append]; rfl) ?_
    refine RG.put 19 rfl (v' := .sl 6 [] 3 0 (s.pairs ++ [(⟨2, 1, z⟩ : Pr)]).length) (congrArg (A.sl 6 [] 3 0) (by rw [List.length_append]; rfl)) ?_
    (repeat (first | ((with_reducible show RG _ _ _ _ _ _ _ _); first | refine K1 ?_ | refine K2 ?_ | refine K3 ?_ | refine K4 ?_ | refine K5 ?_ | refine K6 ?_ | refine K7 ?_ | refine L1 ?_ | refine L2 ?_ | refine L3 ?_ | refine RG.d ?_ | refine RG.dd ?_) | refine S2 ?_ | refine S3 ?_ | refine S4 ?_ | refine S5 ?_ | refine S7 ?_ | refine S8 ?_))
    refine AW.sub (Sub.frzH (ks := [6]) (c' := Sy.cl { s with pairs := s.pairs ++ [⟨2, 1, z⟩] }) 0 rfl (by decide) (by repeat (first | exact Frzs.nil | refine Frzs.cons (Frz.refl _) ?_ | refine Frzs.cons (frzC (st := 3) rfl (.head _) (flC_len Pr.cl_len _) (flC_free Pr.cl_free _)) ?_))) ?_
    (repeat (first | ((with_reducible show RG _ _ _ _ _ _ _ _); first | refine K1 ?_ | refine K2 ?_ | refine K3 ?_ | refine K4 ?_ | refine K5 ?_ | refine K6 ?_ | refine K7 ?_ | refine L1 ?_ | refine L2 ?_ | refine L3 ?_ | refine RG.d ?_ | refine RG.dd ?_) | refine S1 ?_ | refine S2 ?_ | refine S3 ?_ | refine S4 ?_ | refine S5 ?_ | refine S6 ?_ | refine S7 ?_ | refine S8 ?_))
    exact ⟨⟨_, rfl, rfl⟩, rfl, .nil _⟩
  | n + 16, h => exact absurd h (by omega)
end Go.Proofs.YtifeioddiddnoaaGreatDoor
