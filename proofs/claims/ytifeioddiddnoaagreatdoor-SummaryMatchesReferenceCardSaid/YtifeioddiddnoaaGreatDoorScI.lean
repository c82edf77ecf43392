/- The examples of the law. No conditions. -/
import Derived.Test.YtifeioddiddnoaaGreatDoorSqE
import Derived.Test.YtifeioddiddnoaaGreatDoorScD
import Derived.Test.YtifeioddiddnoaaGreatDoorScC
set_option linter.unusedVariables false
set_option linter.unusedSimpArgs false
namespace Go.Proofs.YtifeioddiddnoaaGreatDoor
open Go.Abs Go Go.RowKit
set_option maxRecDepth 20000
theorem lift {g : FuncId} {args : List A} {pre post : List Reg} {r : A} {Pp : List PanicEntry → Prop} (c : FC Tryz.prog ge g args pre r post Pp) : FC Tryz.prog gs g args pre r post Pp := FC.gi (fun _ _ => trivial) (Nat.zero_le _) c
def mdA (R : Sy × Int) : A := .agg (R.1.cl ++ [i64 R.2])
theorem parse14_fc (s : BA) (hsz : s.size ≤ 9223372036854775807) : FC Tryz.prog gs 29 [wA s] [] (mdA (rdS s)) [] NoP := by
  have c := parse_fc s hsz
  obtain ⟨R, hR⟩ : ∃ R, R = rdS s := ⟨_, rfl⟩
  rw [← hR] at c ⊢
  clear hR
  obtain ⟨⟨x1, ⟨x2, x3, x4, x5, x6⟩, x7, x8, x9, l, x11⟩, e⟩ := R
  simp only [Sy.cl, mdA, List.cons_append, List.nil_append] at c ⊢
  refine FC.of_AW tok Tryz.func29 (by kernel_rfl) rfl Tryz.ntmps29 [] rfl rfl rfl ?_; intro w0 X0 Y f0 hI0 hX0
  (repeat (first | ((with_reducible show RG _ _ _ _ _ _ _ _); first | refine RG.call rfl rfl rfl rfl (c) [] rfl rfl rfl rfl (.nil _) (.nil _) (fun _ h => False.elim h) rfl (A.ren_free _ _ rfl) rfl ?_ | refine K1 ?_ | refine K2 ?_ | refine K3 ?_ | refine K4 ?_ | refine K5 ?_ | refine K6 ?_ | refine K7 ?_ | refine L1 ?_ | refine L2 ?_ | refine L3 ?_ | refine RG.d ?_ | refine RG.dd ?_) | refine S1 ?_ | refine S2 ?_ | refine S3 ?_ | refine S4 ?_ | refine S5 ?_ | refine S7 ?_ | refine S8 ?_))
  (repeat (first | ((with_reducible show RG _ _ _ _ _ _ _ _); first | refine K1 ?_ | refine K2 ?_ | refine K3 ?_ | refine K4 ?_ | refine K5 ?_ | refine K6 ?_ | refine K7 ?_ | refine L1 ?_ | refine L2 ?_ | refine L3 ?_ | refine RG.d ?_ | refine RG.dd ?_) | refine S1 ?_ | refine S2 ?_ | refine S3 ?_ | refine S4 ?_ | refine S5 ?_ | refine S6 ?_ | refine S7 ?_ | refine S8 ?_))
  exact ⟨⟨_, rfl, rfl⟩, rfl, .nil _⟩
def exS : Sy := ⟨12, ⟨-3, 5, 1, 0, 3⟩, 4, 3, 1, [⟨0, 1, 0⟩], 40⟩
def exT : List UInt8 := [115, 117, 109, 109, 97, 114, 121, 32, 49, 50, 32, 114, 101, 115, 32, 45, 51, 32, 53, 32, 109, 111, 100, 32, 49, 32, 48, 32, 109, 97, 115, 107, 32, 51, 32, 116, 104, 114, 111, 119, 115, 32, 52, 32, 108, 111, 99, 107, 115, 32, 51, 32, 108, 111, 97, 100, 115, 32, 49, 32, 99, 111, 115, 116, 32, 52, 48, 32, 112, 97, 105, 114, 32, 48, 32, 49]
theorem exT_eq : textB exS = exT := by kernel_rfl
theorem Good.count {S : Sy} {s : BA} (h : Good S s) : (wordsB s).length = 18 + 3 * S.pairs.length := by
  rw [h.words, List.length_append, hdWs_len]
  have : ∀ l : List Pr, (prWs l).length = 3 * l.length := by
    intro l
    induction l with
    | nil => rfl
    | cons p l ih => rw [prWs_cons, rendP, List.length_append, ih]; simp only [List.length_cons, List.length_nil]; omega
  rw [this]
theorem exGood : Good exS ⟨exT.toArray⟩ where
  rng := ⟨by have : ∀ n ∈ exS.w, -9223372036854775808 ≤ n ∧ n ≤ 9223372036854775807 := by decide
             exact this, by decide⟩
  site := by decide
  text := by rw [exT_eq]
  size := of_decide_eq_true (of_decide_eq_true (by kernel_rfl))
theorem ex1 : rdS ⟨exT.toArray⟩ = (exS, 0) := rdS_of exGood
theorem ex2 : rdS ⟨#[115, 117, 109, 109, 97, 114, 121]⟩ = (zSum, 3) := rdS_no fun S h => by
  have := h.count
  have e : (wordsB ⟨#[115, 117, 109, 109, 97, 114, 121]⟩).length = 1 := by kernel_rfl
  omega
theorem ex3 : rdS (⟨exT.toArray⟩ ++ ⟨#[32]⟩) = (zSum, 3) := rdS_no fun S h => by
  have := h.count
  have e : (wordsB (⟨exT.toArray⟩ ++ ⟨#[32]⟩)).length = 22 := by kernel_rfl
  omega
theorem ex4 : allowsB exS 5 2 0 = true := by kernel_rfl
theorem ex5 : allowsB exS 0 0 2 = true := by kernel_rfl
theorem ex6 : allowsB exS 0 0 1 = false := by kernel_rfl
theorem ex7 : allowsB exS 6 0 0 = false := by kernel_rfl
theorem ex8 : sameB exS exS = true := by kernel_rfl
set_option maxHeartbeats 8000000 in
theorem examples_fc : FC Tryz.prog gs 8 [] [] (.val (.bool true)) [] NoP := by
  have c0 := text_fc exS exGood.rng
  have c1 := parse14_fc ⟨exT.toArray⟩ (of_decide_eq_true (by kernel_rfl))
  have c2 := parse14_fc ⟨#[115, 117, 109, 109, 97, 114, 121]⟩ (of_decide_eq_true (by kernel_rfl))
  have c3 := parse14_fc (⟨exT.toArray⟩ ++ ⟨#[32]⟩) (of_decide_eq_true (by kernel_rfl))
  have c4 := lift (allows_fc exS 5 2 0 (by decide) (by decide))
  have c5 := lift (allows_fc exS 0 0 2 (by decide) (by decide))
  have c6 := lift (allows_fc exS 0 0 1 (by decide) (by decide))
  have c7 := lift (allows_fc exS 6 0 0 (by decide) (by decide))
  have c8 := lift (same_fc exS exS (by decide) (by decide))
  rw [exT_eq] at c0
  rw [ex1] at c1
  rw [ex2] at c2
  rw [ex3] at c3
  rw [ex4] at c4
  rw [ex5] at c5
  rw [ex6] at c6
  rw [ex7] at c7
  rw [ex8] at c8
  refine FC.of_AW tok Tryz.func8 (by kernel_rfl) rfl Tryz.ntmps8 [] rfl rfl rfl ?_; intro w0 X0 Y f0 hI0 hX0
  refine S1 ?_; (repeat (first | ((with_reducible show RG _ _ _ _ _ _ _ _); first | refine K1 ?_ | refine K2 ?_ | refine K3 ?_ | refine K4 ?_ | refine K5 ?_ | refine K6 ?_ | refine K7 ?_ | refine L1 ?_ | refine L2 ?_ | refine L3 ?_ | refine RG.d ?_ | refine RG.dd ?_) | refine S2 ?_ | refine S3 ?_ | refine S4 ?_ | refine S5 ?_ | refine S7 ?_ | refine S8 ?_)); refine S1 ?_; (repeat (first | ((with_reducible show RG _ _ _ _ _ _ _ _); first | refine K1 ?_ | refine K2 ?_ | refine K3 ?_ | refine K4 ?_ | refine K5 ?_ | refine K6 ?_ | refine K7 ?_ | refine L1 ?_ | refine L2 ?_ | refine L3 ?_ | refine RG.d ?_ | refine RG.dd ?_) | refine S2 ?_ | refine S3 ?_ | refine S4 ?_ | refine S5 ?_ | refine S7 ?_ | refine S8 ?_))
  refine AW.sub (Sub.frzH (ks := [0]) (c' := exS.cl) 1 rfl (by decide) (by repeat (first | exact Frzs.nil | refine Frzs.cons (Frz.refl _) ?_ | refine Frzs.cons (Frz.sl (c := flC Pr.cl exS.pairs) (l := flC Pr.cl exS.pairs) rfl (.head _) rfl rfl) ?_))) ?_
  refine S1 ?_; (repeat (first | ((with_reducible show RG _ _ _ _ _ _ _ _); first | refine K1 ?_ | refine K2 ?_ | refine K3 ?_ | refine K4 ?_ | refine K5 ?_ | refine K6 ?_ | refine K7 ?_ | refine L1 ?_ | refine L2 ?_ | refine L3 ?_ | refine RG.d ?_ | refine RG.dd ?_) | refine S2 ?_ | refine S3 ?_ | refine S4 ?_ | refine S5 ?_ | refine S7 ?_ | refine S8 ?_))
  refine S1 ?_
  (repeat (first | ((with_reducible show RG _ _ _ _ _ _ _ _); first | refine RG.call rfl rfl rfl rfl (c1) [] rfl rfl rfl rfl (.nil _) (.nil _) (fun _ h => False.elim h) rfl (A.ren_free _ _ rfl) rfl ?_ | refine K1 ?_ | refine K2 ?_ | refine K3 ?_ | refine K4 ?_ | refine K5 ?_ | refine K6 ?_ | refine K7 ?_ | refine L1 ?_ | refine L2 ?_ | refine L3 ?_ | refine RG.d ?_ | refine RG.dd ?_) | refine S2 ?_ | refine S3 ?_ | refine S4 ?_ | refine S5 ?_ | refine S7 ?_ | refine S8 ?_))
  refine S1 ?_
  (repeat (first | ((with_reducible show RG _ _ _ _ _ _ _ _); first | refine RG.call rfl rfl rfl rfl (c0) [] rfl rfl rfl rfl (.nil _) (.nil _) (fun _ h => False.elim h) rfl (A.ren_free _ _ rfl) rfl ?_ | refine K1 ?_ | refine K2 ?_ | refine K3 ?_ | refine K4 ?_ | refine K5 ?_ | refine K6 ?_ | refine K7 ?_ | refine L1 ?_ | refine L2 ?_ | refine L3 ?_ | refine RG.d ?_ | refine RG.dd ?_) | refine S2 ?_ | refine S3 ?_ | refine S4 ?_ | refine S5 ?_ | refine S7 ?_ | refine S8 ?_))
  refine RG.put 13 rfl (v' := .val (.bool true)) (congrArg (fun b => A.val (.bool b)) (beq_self_eq_true (ByteArray.toList ⟨exT.toArray⟩))) ?_
  refine RG.put 14 rfl (v' := .val (.bool true)) (congrArg (fun b => A.val (.bool b)) (beq_self_eq_true (ByteArray.toList ⟨exT.toArray⟩))) ?_
  (repeat (first | ((with_reducible show RG _ _ _ _ _ _ _ _); first | refine RG.call rfl rfl rfl rfl (c8) [] rfl rfl rfl rfl (.nil _) (.nil _) (fun _ h => False.elim h) rfl (A.ren_free _ _ rfl) rfl ?_ | refine RG.call rfl rfl rfl rfl (c2) [] rfl rfl rfl rfl (.nil _) (.nil _) (fun _ h => False.elim h) rfl (A.ren_free _ _ rfl) rfl ?_ | refine K1 ?_ | refine K2 ?_ | refine K3 ?_ | refine K4 ?_ | refine K5 ?_ | refine K6 ?_ | refine K7 ?_ | refine L1 ?_ | refine L2 ?_ | refine L3 ?_ | refine RG.d ?_ | refine RG.dd ?_) | refine S2 ?_ | refine S3 ?_ | refine S4 ?_ | refine S5 ?_ | refine S7 ?_ | refine S8 ?_))
  refine RG.val tok rfl rfl rfl (of_decide_eq_true (by kernel_rfl)) rfl rfl ?_
  (repeat (first | ((with_reducible show RG _ _ _ _ _ _ _ _); first | refine RG.call rfl rfl rfl rfl (c3) [] rfl rfl rfl rfl (.nil _) (.nil _) (fun _ h => False.elim h) rfl (A.ren_free _ _ rfl) rfl ?_ | refine RG.call rfl rfl rfl rfl (c4) [] rfl rfl rfl rfl (.nil _) (.nil _) (fun _ h => False.elim h) rfl (A.ren_free _ _ rfl) rfl ?_ | refine RG.call rfl rfl rfl rfl (c5) [] rfl rfl rfl rfl (.nil _) (.nil _) (fun _ h => False.elim h) rfl (A.ren_free _ _ rfl) rfl ?_ | refine RG.call rfl rfl rfl rfl (c6) [] rfl rfl rfl rfl (.nil _) (.nil _) (fun _ h => False.elim h) rfl (A.ren_free _ _ rfl) rfl ?_ | refine RG.call rfl rfl rfl rfl (c7) [] rfl rfl rfl rfl (.nil _) (.nil _) (fun _ h => False.elim h) rfl (A.ren_free _ _ rfl) rfl ?_ | refine K1 ?_ | refine K2 ?_ | refine K3 ?_ | refine K4 ?_ | refine K5 ?_ | refine K6 ?_ | refine K7 ?_ | refine L1 ?_ | refine L2 ?_ | refine L3 ?_ | refine RG.d ?_ | refine RG.dd ?_) | refine S2 ?_ | refine S3 ?_ | refine S4 ?_ | refine S5 ?_ | refine S7 ?_ | refine S8 ?_))
  (repeat (first | ((with_reducible show RG _ _ _ _ _ _ _ _); first | refine K1 ?_ | refine K2 ?_ | refine K3 ?_ | refine K4 ?_ | refine K5 ?_ | refine K6 ?_ | refine K7 ?_ | refine L1 ?_ | refine L2 ?_ | refine L3 ?_ | refine RG.d ?_ | refine RG.dd ?_) | refine S1 ?_ | refine S2 ?_ | refine S3 ?_ | refine S4 ?_ | refine S5 ?_ | refine S6 ?_ | refine S7 ?_ | refine S8 ?_))
  exact ⟨⟨_, rfl, rfl⟩, rfl, .nil _⟩
end Go.Proofs.YtifeioddiddnoaaGreatDoor
