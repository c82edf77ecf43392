/- The order of summaries. No conditions. -/
import Derived.Test.YtifeioddiddnoaaGreatDoorScD
import Derived.Test.YtifeioddiddnoaaGreatDoorScC
import Derived.Test.YtifeioddiddnoaaGreatDoorAbsE
set_option linter.unusedVariables false
set_option linter.unusedSimpArgs false
namespace Go.Proofs.YtifeioddiddnoaaGreatDoor
open Go.Abs Go Go.RowKit
set_option maxRecDepth 20000
def leqQ (a b : Sy) (q : Bool) : Bool := ((((decide (a.id = b.id) && q) && inM a.throws b.throws) && inM a.locks b.locks) && inM b.loads a.loads) && decide (a.cost ≤ b.cost)
def leqS (a b : Sy) (q : Bool) : Bool := a.pairs.all (hasP b.pairs) && leqQ a b q
set_option maxHeartbeats 16000000 in
theorem leq_fc (a b : Sy) (s t : Tr) (hs : s.bd) (ht : t.bd) (ha : a.res = nf s) (hb : b.res = nf t) (hla : a.pairs.length ≤ 1000) (hlb : b.pairs.length ≤ 1000) (pa : ∀ y, y ∈ a.pairs → y.bd) (pb : ∀ y, y ∈ b.pairs → y.bd) :
    FC Tryz.prog ge 12 [.agg a.cl, .agg b.cl] [] (.val (.bool (leqS a b (leqB s t)))) [] NoP := by
  have cS := sleq_fc s t hs ht
  rw [← ha, ← hb] at cS
  have cP := fun x (hx : x ∈ a.pairs) => has_fc b.pairs x (pa x hx) hlb pb
  obtain ⟨q, hq⟩ : ∃ q, q = leqB s t := ⟨_, rfl⟩
  rw [← hq] at cS ⊢
  clear ha hb hq
  obtain ⟨x1, ⟨x2, x3, x4, x5, x6⟩, x7, x8, x9, l, x11⟩ := a
  obtain ⟨y1, ⟨y2, y3, y4, y5, y6⟩, y7, y8, y9, m, y11⟩ := b
  unfold leqS leqQ
  dsimp only at hla hlb cP ⊢
  simp only [Sy.cl, Ab.cl] at cS ⊢
  obtain ⟨b1, hb1⟩ : ∃ b, b = inM x7 y7 := ⟨_, rfl⟩
  obtain ⟨b2, hb2⟩ : ∃ b, b = inM x8 y8 := ⟨_, rfl⟩
  obtain ⟨b3, hb3⟩ : ∃ b, b = inM y9 x9 := ⟨_, rfl⟩
  rw [← hb1, ← hb2, ← hb3]
  obtain ⟨F, hF⟩ : ∃ F, F = (((((decide (x1 = y1) && q) && b1) && b2) && b3) && decide (x11 ≤ y11)) := ⟨_, rfl⟩
  rw [← hF]
  obtain ⟨R, hR⟩ : ∃ R, R = (l.all (hasP m) && F) := ⟨_, rfl⟩
  rw [← hR]
  refine FC.of_AW tok Tryz.func12 (by kernel_rfl) rfl Tryz.ntmps12 [] rfl rfl rfl ?_; intro w0 X0 Y f0 hI0 hX0
  (repeat (first | refine K4 ?_ | refine L1 ?_ | refine L2 ?_ | refine RG.d ?_ | refine S1 ?_ | refine S2 ?_ | refine S4 ?_))
  refine AW.loopS (fun i : Nat => ⟨put 2 (some (.ptr 0 [] 0)) (put 3 (some (.ptr 1 [] 0)) (put 4 (some (.val (.bool false))) (put 8 (some (rdP l)) (put 9 (some (i64 (l.length : Int))) (put 10 (some (i64 (i : Int))) noE))))), hput 0 (.one ([i64 x1, i64 x2, i64 x3, i64 x4, i64 x5, i64 x6, i64 x7, i64 x8, i64 x9, rdP l, i64 x11])) (hput 1 (.one ([i64 y1, i64 y2, i64 y3, i64 y4, i64 y5, i64 y6, i64 y7, i64 y8, i64 y9, rdP m, i64 y11])) noH), 2⟩) (fun i => i ≤ l.length ∧ R = ((l.drop i).all (hasP m) && F)) (fun i => l.length - i) 0 ⟨Nat.zero_le _, hR⟩ (Sub.of (by repeat (first | exact SubE.no _ | refine SubE.put rfl ?_)) (by repeat (first | exact SubH.no _ | refine SubH.put rfl ?_)) rfl) ?_
  rintro i ⟨hi, h1⟩
  (repeat (first | refine K4 ?_ | refine RG.d ?_ | refine S1 ?_ | refine S2 ?_))
  refine AW.condD rfl (fun k => ?_) (fun k => ?_)
  rotate_left
  · have k : ¬ (i : Int) < (l.length : Int) := k
    rw [List.drop_eq_nil_of_le (by omega)] at h1
    have h1 : R = F := by rw [h1]; exact Bool.true_and F
    subst h1
    clear hR
    refine S5 ?_
    repeat refine S1 ?_
    refine S2 ?_
    iterate 5 ((first | refine K4 ?_ | refine L1 ?_))
    (repeat (first | refine K4 ?_))
    refine RG.splitB 25 rfl (fun h25 => ?_) (fun h25 => ?_)
    rotate_left
    · (repeat (first | refine K1 ?_ | refine K4 ?_ | refine RG.d ?_))
      have e : R = false := by rw [hF, h25]; simp only [Bool.and_false, Bool.false_and]
      subst e
      (repeat (first | refine S6 ?_))
      exact ⟨⟨_, rfl, rfl⟩, rfl, .nil _⟩
    (repeat (first | refine RG.call rfl rfl rfl rfl (cS) [] rfl rfl rfl rfl (.nil _) (.nil _) (fun _ h => False.elim h) rfl (A.ren_free _ _ rfl) rfl ?_ | refine K4 ?_ | refine L1 ?_))
    refine RG.splitB 32 rfl (fun h32 => ?_) (fun h32 => ?_)
    rotate_left
    · (repeat (first | refine K1 ?_ | refine K4 ?_ | refine RG.d ?_))
      have e : R = false := by rw [hF, h32]; simp only [Bool.and_false, Bool.false_and]
      subst e
      (repeat (first | refine S6 ?_))
      exact ⟨⟨_, rfl, rfl⟩, rfl, .nil _⟩
    (repeat (first | refine K4 ?_ | refine L1 ?_))
    refine RG.put 40 rfl (v' := .val (.bool b1)) (by rw [hb1]; rfl) ?_
    (repeat (first | refine K1 ?_))
    refine RG.splitB 40 rfl (fun h40 => ?_) (fun h40 => ?_)
    rotate_left
    · (repeat (first | refine K1 ?_ | refine K4 ?_ | refine RG.d ?_))
      have e : R = false := by rw [hF, h40]; simp only [Bool.and_false, Bool.false_and]
      subst e
      (repeat (first | refine S6 ?_))
      exact ⟨⟨_, rfl, rfl⟩, rfl, .nil _⟩
    (repeat (first | refine K4 ?_ | refine L1 ?_))
    refine RG.put 48 rfl (v' := .val (.bool b2)) (by rw [hb2]; rfl) ?_
    (repeat (first | refine K1 ?_))
    refine RG.splitB 48 rfl (fun h48 => ?_) (fun h48 => ?_)
    rotate_left
    · (repeat (first | refine K1 ?_ | refine K4 ?_ | refine RG.d ?_))
      have e : R = false := by rw [hF, h48]; simp only [Bool.and_false, Bool.false_and]
      subst e
      (repeat (first | refine S6 ?_))
      exact ⟨⟨_, rfl, rfl⟩, rfl, .nil _⟩
    (repeat (first | refine K4 ?_ | refine L1 ?_))
    refine RG.put 56 rfl (v' := .val (.bool b3)) (by rw [hb3]; rfl) ?_
    (repeat (first | refine K1 ?_))
    refine RG.splitB 56 rfl (fun h56 => ?_) (fun h56 => ?_)
    rotate_left
    · (repeat (first | refine K1 ?_ | refine K4 ?_ | refine RG.d ?_))
      have e : R = false := by rw [hF, h56]; simp only [Bool.and_false, Bool.false_and]
      subst e
      (repeat (first | refine S6 ?_))
      exact ⟨⟨_, rfl, rfl⟩, rfl, .nil _⟩
    have e : R = decide (x11 ≤ y11) := by rw [hF, h25, h32, h40, h48, h56]; simp only [Bool.true_and]
    subst e
    (repeat (first | refine K4 ?_ | refine L1 ?_ | refine RG.d ?_ | refine S6 ?_))
    exact ⟨⟨_, rfl, rfl⟩, rfl, .nil _⟩
  have k : (i : Int) < (l.length : Int) := k
  obtain ⟨x, hx⟩ : ∃ y, l[i]? = some y := ⟨_, List.getElem?_eq_getElem (by omega)⟩
  have hat := flC_at Pr.cl_len l i x hx
  have c := cP x (List.mem_of_getElem? hx)
  rw [drop_cons hx, List.all_cons, Bool.and_assoc] at h1
  obtain ⟨h, hh⟩ : ∃ h, h = hasP m x := ⟨_, rfl⟩
  rw [← hh] at c h1
  obtain ⟨z1, z2, z3⟩ := x
  simp only [Pr.cl, List.cons_append, List.nil_append] at hat c
  (repeat (first | refine S1 ?_ | refine S2 ?_ | refine S3 ?_ | refine S4 ?_))
  refine RG.idx tok rfl rfl rfl rfl rfl rfl hat ⟨by omega, by omega⟩ rfl ?_
  (repeat (first | refine RG.call rfl rfl rfl rfl (c) [] rfl rfl rfl rfl (.nil _) (.nil _) (fun _ h => False.elim h) rfl (A.ren_free _ _ rfl) rfl ?_ | refine K4 ?_ | refine L1 ?_ | refine L2 ?_ | refine L3 ?_ | refine RG.d ?_ | refine S1 ?_ | refine S2 ?_))
  refine AW.cond rfl (fun k2 => ?_) (fun k2 => ?_)
  · have k2 : h = false := by simpa using k2
    subst k2
    rw [Bool.false_and] at h1
    subst h1
    (repeat (first | refine K4 ?_ | refine RG.d ?_ | refine S1 ?_ | refine S2 ?_ | refine S6 ?_))
    exact ⟨⟨_, rfl, rfl⟩, rfl, .nil _⟩
  · have k2 : h = true := by simpa using k2
    subst k2
    rw [Bool.true_and] at h1
    (repeat (first | refine K2 ?_ | refine K4 ?_ | refine RG.d ?_ | refine S2 ?_ | refine S3 ?_))
    exact ⟨i + 1, ⟨by omega, h1⟩, by omega, Sub.down (by repeat (first | exact SubE.no _ | refine SubE.put rfl ?_)) (by repeat (first | exact SubH.no _ | refine SubH.put rfl ?_)) (by repeat (first | exact LtE.no _ | refine LtE.put rfl ?_)) (by repeat (first | exact LtH.no _ | refine LtH.put rfl rfl ?_)) rfl⟩
end Go.Proofs.YtifeioddiddnoaaGreatDoor
