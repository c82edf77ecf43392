/- Right sets and right summaries, as the reference tells them. No program. -/
import Derived.Test.YtifeioddiddnoaaGreatDoorScE
import Derived.Test.YtifeioddiddnoaaGreatDoorScA
import Derived.Test.YtifeioddiddnoaaGreatDoorScFl
import Derived.Test.YtifeioddiddnoaaGreatDoorScEp
import Derived.Test.YtifeioddiddnoaaGreatDoorScJ
import Derived.Test.YtifeioddiddnoaaGreatDoorScH
import Derived.Test.YtifeioddiddnoaaGreatDoorScF
set_option linter.unusedVariables false
set_option linter.unusedSimpArgs false
namespace Go.Proofs.YtifeioddiddnoaaGreatDoor
open Go.Abs Go Go.RowKit
def vaR (a : Ab) : Bool := if a.lo = a.hi then decide (a.m = 1) && decide (a.r = 0) else ((decide (1 ≤ a.m) && decide (a.m ≤ a.hi - a.lo)) && decide ((a.hi - a.lo).tmod a.m = 0)) && decide (a.r = smod a.lo a.m)
theorem vaR_eq (a : Ab) (h1 : ¬ a.lo < -2147483648) (h2 : ¬ a.lo > a.hi) (h3 : ¬ a.hi > 2147483647) (h4 : ¬ a.mask < 0) (h5 : ¬ a.mask > 255) : validB a = vaR a := by
  obtain ⟨lo, hi, m, r, k⟩ := a
  dsimp only at h1 h2 h3 h4 h5
  unfold validB vaR badB
  dsimp only
  rw [decide_eq_false h1, decide_eq_false h2, decide_eq_false h3, decide_eq_false h4, decide_eq_false h5]
  simp only [Bool.false_or]
  by_cases e : lo = hi
  · rw [if_pos e, if_pos e]
    by_cases e1 : m < 1
    · rw [decide_eq_true e1, if_pos rfl, decide_eq_false (show ¬ m = 1 by omega), Bool.false_and]
    · rw [decide_eq_false e1, if_neg (by simp)]
  · rw [if_neg e, if_neg e]
    by_cases e1 : m < 1
    · rw [decide_eq_true e1, if_pos rfl, decide_eq_false (show ¬ 1 ≤ m by omega)]; simp
    · rw [decide_eq_false e1, if_neg (by simp), decide_eq_true (show 1 ≤ m by omega), Bool.true_and]
      by_cases e2 : m ≤ hi - lo
      · rw [decide_eq_true e2, Bool.true_and, Bool.true_and]
        have hm : 0 < m := by omega
        unfold abBy
        dsimp only
        rw [if_pos hm]
        by_cases e3 : (hi - lo).tmod m = 0
        · rw [e3, Int.sub_zero, if_neg e, decide_eq_true (rfl : (0 : Int) = 0), Bool.true_and]
          by_cases e4 : r = smod lo m
          · rw [decide_eq_true e4, decide_eq_true (by rw [e4])]
          · rw [decide_eq_false e4, decide_eq_false (fun h => e4 (congrArg Ab.r h))]
        · rw [decide_eq_false e3, Bool.false_and]
          refine decide_eq_false fun h => e3 ?_
          have := congrArg Ab.hi h
          dsimp only at this
          split at this
          · rename_i e5
            dsimp only at this
            omega
          · dsimp only at this; omega
      · rw [decide_eq_false e2]; simp
theorem validB_no (a : Ab) (h : a.lo < -2147483648 ∨ a.lo > a.hi ∨ a.hi > 2147483647 ∨ a.mask < 0 ∨ a.mask > 255) : validB a = false := by
  have : badB a.lo a.hi a.m a.mask = true := by
    unfold badB
    rcases h with h | h | h | h | h <;> simp [h]
  unfold validB
  rw [if_pos this]
theorem pless_pcmp (a b : Pr) : decide (pcmp a b < 0) = plessB a b := by
  unfold pcmp plessB
  by_cases h : a.a = b.a
  · rw [if_pos h]
    rw [decide_eq_false (show ¬ a.a < b.a by omega), decide_eq_true h, Bool.false_or, Bool.true_and]
    by_cases k : a.b < b.b
    · rw [decide_eq_true k, decide_eq_true (by omega)]
    · rw [decide_eq_false k, decide_eq_false (by omega)]
  · rw [if_neg h]
    rw [decide_eq_false h, Bool.false_and, Bool.or_false]
    by_cases k : a.a < b.a
    · rw [decide_eq_true k, decide_eq_true (by omega)]
    · rw [decide_eq_false k, decide_eq_false (by omega)]
end Go.Proofs.YtifeioddiddnoaaGreatDoor
namespace Go.Proofs.YtifeioddiddnoaaGreatDoor
open Go.Abs Go Go.RowKit
set_option maxRecDepth 20000
def hiA (l : List Hd) (id : Int) : A := match headF l id with
  | some y => .agg (y.cl ++ [.val (.bool true)])
  | none => .agg [i64 0, i64 0, i64 0, .ro 0 [], .ro 0 [], .val (.bool false)]
set_option maxHeartbeats 4000000 in
theorem headIn_fc (p : Pg) (hp : p.dc = dcM) (id : Int) (hn : p.heads.length ≤ 1000) : FC Tryz.prog ge 50 [.agg (pgC p), i64 id] [] (hiA p.heads id) [] NoP := by
  obtain ⟨dc, l, defs, threads⟩ := p
  dsimp only at hn
  obtain ⟨R, hR⟩ : ∃ R, R = hiA l id := ⟨_, rfl⟩
  rw [← hR]
  refine FC.of_AW tok Tryz.func50 (by kernel_rfl) rfl Tryz.ntmps50 [] rfl rfl rfl ?_; intro w0 X0 Y f0 hI0 hX0
  (repeat (first | refine K4 ?_ | refine L2 ?_ | refine RG.d ?_ | refine S1 ?_ | refine S2 ?_ | refine S4 ?_))
  refine AW.loopS (fun i : Nat => ⟨put 1 (some (i64 id)) (put 2 (some (.ptr 0 [] 0)) (put 4 (some (.ptr 1 [] 0)) (put 5 (some (i64 (i : Int))) noE))), hput 0 (.one ([gA1, gA2, gA3, gA4, i64 3, i64 3, i64 2, .ro l.length (flC Hd.cl l), .ro defs.length (flC Df.cl defs), .ro threads.length (ints .i64 threads)])) (hput 1 (.one ([i64 0, i64 0, i64 0, .val (.slice none 0 0), .val (.slice none 0 0), .val (.bool false)])) noH), 2⟩) (fun i => i ≤ l.length ∧ R = hiA (l.drop i) id) (fun i => l.length - i) 0 ⟨Nat.zero_le _, hR⟩ (Sub.of (by repeat (first | exact SubE.no _ | refine SubE.put rfl ?_)) (by repeat (first | exact SubH.no _ | refine SubH.put rfl ?_)) rfl) ?_
  rintro i ⟨hi, h1⟩
  (repeat (first | refine K4 ?_ | refine L1 ?_ | refine RG.d ?_ | refine S1 ?_ | refine S2 ?_))
  refine AW.condD rfl (fun k => ?_) (fun k => ?_)
  rotate_left
  · have k : ¬ (i : Int) < (l.length : Int) := k
    rw [List.drop_eq_nil_of_le (by omega)] at h1
    subst h1
    (repeat (first | refine K4 ?_ | refine L3 ?_ | refine RG.d ?_ | refine S1 ?_ | refine S2 ?_ | refine S5 ?_))
    refine AW.sub (Sub.frzH (ks := []) (c' := [i64 0, i64 0, i64 0, .ro 0 [], .ro 0 [], .val (.bool false)]) 1 rfl List.not_mem_nil (by repeat (first | exact Frzs.nil | refine Frzs.cons (Frz.wk (Frz.refl _) Wk.nil) ?_ | refine Frzs.cons (Frz.refl _) ?_))) ?_
    refine S6 ?_
    exact ⟨⟨_, rfl, rfl⟩, rfl, .nil _⟩
  have k : (i : Int) < (l.length : Int) := k
  obtain ⟨y, hy⟩ : ∃ y, l[i]? = some y := ⟨_, List.getElem?_eq_getElem (by omega)⟩
  have hat := flC_at Hd.cl_len l i y hy
  rw [drop_cons hy] at h1
  obtain ⟨y1, y2, y3, y4, y5⟩ := y
  simp only [Hd.cl, List.cons_append, List.nil_append] at hat
  (repeat (first | refine K4 ?_ | refine L1 ?_ | refine S1 ?_ | refine S2 ?_ | refine S3 ?_ | refine S4 ?_))
  refine RG.idx tok rfl rfl rfl rfl rfl rfl hat ⟨by omega, by omega⟩ rfl ?_
  (repeat (first | refine K4 ?_ | refine L1 ?_ | refine RG.d ?_))
  refine AW.condD rfl (fun k2 => ?_) (fun k2 => ?_)
  · have k2 : y1 = id := k2
    have h1 : R = .agg [i64 y1, i64 y2, i64 y3, .ro y4.length (flC Rg.cl y4), .ro y5.length (flC Rg.cl y5), .val (.bool true)] := by
      rw [h1]; unfold hiA headF; rw [List.find?_cons_of_pos (by simpa using k2)]; rfl
    subst h1
    (repeat (first | refine K4 ?_ | refine L1 ?_ | refine S1 ?_ | refine S2 ?_))
    refine RG.idx tok rfl rfl rfl rfl rfl rfl hat ⟨by omega, by omega⟩ rfl ?_
    (repeat (first | refine K4 ?_ | refine L1 ?_ | refine L3 ?_ | refine RG.d ?_ | refine S6 ?_))
    exact ⟨⟨_, rfl, rfl⟩, rfl, .nil _⟩
  · have k2 : ¬ y1 = id := k2
    have h1 : R = hiA (l.drop (i + 1)) id := by
      rw [h1]; unfold hiA headF; rw [List.find?_cons_of_neg (by simpa using k2)]
    (repeat (first | refine K2 ?_ | refine K4 ?_ | refine RG.d ?_ | refine S2 ?_ | refine S3 ?_))
    exact ⟨i + 1, ⟨by omega, h1⟩, by omega, Sub.down (by repeat (first | exact SubE.no _ | refine SubE.put rfl ?_)) (by repeat (first | exact SubH.no _ | refine SubH.put rfl ?_)) (by repeat (first | exact LtE.no _ | refine LtE.put rfl ?_)) (by repeat (first | exact LtH.no _ | refine LtH.put rfl rfl ?_)) rfl⟩
theorem within_fc (x m : Int) : FC Tryz.prog ge 52 [i64 x, i64 m] [] (.val (.bool (bitsB x m))) [] NoP := by
  unfold bitsB inM
  by_cases h : 0 ≤ x
  · rw [decide_eq_true h, Bool.true_and]
    refine FC.of_AW tok Tryz.func52 (by kernel_rfl) rfl Tryz.ntmps52 [] rfl rfl rfl ?_; intro w0 X0 Y f0 hI0 hX0
    refine S1 ?_; (repeat (first | refine K4 ?_ | refine RG.d ?_ | refine S2 ?_))
    repeat refine S1 ?_
    refine S2 ?_
    iterate 2 ((first | refine K4 ?_))
    refine RG.put 6 rfl (v' := .val (.bool true)) (congrArg (fun b => A.val (.bool b)) (decide_eq_true h)) ?_
    (repeat (first | refine K4 ?_ | refine RG.d ?_ | refine S6 ?_))
    exact ⟨⟨_, rfl, rfl⟩, rfl, .nil _⟩
  · rw [decide_eq_false h, Bool.false_and]
    refine FC.of_AW tok Tryz.func52 (by kernel_rfl) rfl Tryz.ntmps52 [] rfl rfl rfl ?_; intro w0 X0 Y f0 hI0 hX0
    refine S1 ?_; (repeat (first | refine K4 ?_ | refine RG.d ?_ | refine S2 ?_))
    repeat refine S1 ?_
    refine S2 ?_
    iterate 2 ((first | refine K4 ?_))
    refine RG.put 6 rfl (v' := .val (.bool false)) (congrArg (fun b => A.val (.bool b)) (decide_eq_false h)) ?_
    (repeat (first | refine K1 ?_ | refine K4 ?_ | refine RG.d ?_ | refine S6 ?_))
    exact ⟨⟨_, rfl, rfl⟩, rfl, .nil _⟩
end Go.Proofs.YtifeioddiddnoaaGreatDoor
namespace Go.Proofs.YtifeioddiddnoaaGreatDoor
open Go.Abs Go Go.RowKit
set_option maxRecDepth 20000
set_option maxHeartbeats 8000000 in
theorem rvalidA_fc (a : Ab) : FC Tryz.prog ge 51 [.agg a.cl] [] (.val (.bool (validB a))) [] NoP := by
  obtain ⟨R, hR⟩ : ∃ R, R = validB a := ⟨_, rfl⟩
  have no := validB_no a
  have ye := vaR_eq a
  rw [← hR] at no ye ⊢
  obtain ⟨lo, hi, m, r, k⟩ := a
  clear hR
  unfold vaR at ye
  dsimp only at no ye
  simp only [Ab.cl]
  refine FC.of_AW tok Tryz.func51 (by kernel_rfl) rfl Tryz.ntmps51 [] rfl rfl rfl ?_; intro w0 X0 Y f0 hI0 hX0
  (repeat (first | refine K4 ?_ | refine L1 ?_ | refine L2 ?_ | refine RG.d ?_ | refine S1 ?_ | refine S2 ?_))
  refine RG.split 6 rfl (fun h => ?_) (fun h1 => ?_)
  · have e : R = false := no (.inl h)
    subst e
    (repeat (first | refine K1 ?_ | refine K4 ?_ | refine RG.d ?_ | refine S1 ?_ | refine S2 ?_ | refine S6 ?_ | refine S7 ?_))
    exact ⟨⟨_, rfl, rfl⟩, rfl, .nil _⟩
  (repeat (first | refine K4 ?_ | refine L1 ?_))
  refine RG.split 13 rfl (fun h => ?_) (fun h2 => ?_)
  · have e : R = false := no (.inr (.inl h))
    subst e
    (repeat (first | refine K1 ?_ | refine K4 ?_ | refine RG.d ?_ | refine S1 ?_ | refine S2 ?_ | refine S6 ?_ | refine S7 ?_))
    exact ⟨⟨_, rfl, rfl⟩, rfl, .nil _⟩
  (repeat (first | refine K4 ?_ | refine L1 ?_))
  refine RG.split 18 rfl (fun h => ?_) (fun h3 => ?_)
  · have e : R = false := no (.inr (.inr (.inl h)))
    subst e
    (repeat (first | refine K1 ?_ | refine K4 ?_ | refine RG.d ?_ | refine S1 ?_ | refine S2 ?_ | refine S6 ?_ | refine S7 ?_))
    exact ⟨⟨_, rfl, rfl⟩, rfl, .nil _⟩
  (repeat (first | refine K4 ?_ | refine L1 ?_))
  refine RG.split 23 rfl (fun h => ?_) (fun h4 => ?_)
  · have e : R = false := no (.inr (.inr (.inr (.inl h))))
    subst e
    (repeat (first | refine K1 ?_ | refine K4 ?_ | refine RG.d ?_ | refine S1 ?_ | refine S2 ?_ | refine S6 ?_ | refine S7 ?_))
    exact ⟨⟨_, rfl, rfl⟩, rfl, .nil _⟩
  (repeat (first | refine K4 ?_ | refine L1 ?_ | refine RG.d ?_))
  refine AW.condD rfl (fun h => ?_) (fun h5 => ?_)
  · have e : R = false := no (.inr (.inr (.inr (.inr h))))
    subst e
    (repeat (first | refine K4 ?_ | refine RG.d ?_ | refine S1 ?_ | refine S2 ?_ | refine S6 ?_))
    exact ⟨⟨_, rfl, rfl⟩, rfl, .nil _⟩
  have h1 : ¬ lo < -2147483648 := h1
  have h2 : ¬ lo > hi := h2
  have h3 : ¬ hi > 2147483647 := h3
  have ye := ye h1 h2 h3 h4 h5
  (repeat (first | refine K4 ?_ | refine L1 ?_ | refine RG.d ?_ | refine S1 ?_ | refine S2 ?_ | refine S3 ?_))
  refine AW.condD rfl (fun h6 => ?_) (fun h6 => ?_)
  · have h6 : lo = hi := h6
    rw [if_pos h6] at ye
    (repeat (first | refine K4 ?_ | refine L1 ?_ | refine S1 ?_ | refine S2 ?_))
    refine RG.split 36 rfl (fun h7 => ?_) (fun h7 => ?_)
    · have h7 : m = 1 := h7
      rw [decide_eq_true h7, Bool.true_and] at ye
      subst ye
      (repeat (first | refine K4 ?_ | refine L1 ?_ | refine RG.d ?_ | refine S6 ?_))
      exact ⟨⟨_, rfl, rfl⟩, rfl, .nil _⟩
    · have h7 : ¬ m = 1 := h7
      rw [decide_eq_false h7, Bool.false_and] at ye
      subst ye
      (repeat (first | refine K1 ?_ | refine K4 ?_ | refine RG.d ?_ | refine S6 ?_))
      exact ⟨⟨_, rfl, rfl⟩, rfl, .nil _⟩
  have h6 : ¬ lo = hi := h6
  rw [if_neg h6] at ye
  (repeat (first | refine K4 ?_ | refine L1 ?_ | refine S1 ?_ | refine S2 ?_ | refine S3 ?_))
  refine RG.split 44 rfl (fun h7 => ?_) (fun h7 => ?_)
  rotate_left
  · have h7 : ¬ 1 ≤ m := h7
    rw [decide_eq_false h7] at ye
    simp only [Bool.false_and] at ye
    subst ye
    (repeat (first | refine K1 ?_ | refine K4 ?_ | refine RG.dd ?_ | refine S6 ?_))
    exact ⟨⟨_, rfl, rfl⟩, rfl, .nil _⟩
  have h7 : 1 ≤ m := h7
  rw [decide_eq_true h7, Bool.true_and] at ye
  (repeat (first | refine K2 ?_ | refine K4 ?_ | refine L1 ?_))
  refine RG.split 54 rfl (fun h8 => ?_) (fun h8 => ?_)
  rotate_left
  · have h8 : ¬ m ≤ hi - lo := h8
    rw [decide_eq_false h8] at ye
    simp only [Bool.false_and] at ye
    subst ye
    (repeat (first | refine K1 ?_ | refine K4 ?_ | refine RG.dd ?_ | refine S6 ?_))
    exact ⟨⟨_, rfl, rfl⟩, rfl, .nil _⟩
  have h8 : m ≤ hi - lo := h8
  rw [decide_eq_true h8, Bool.true_and] at ye
  have cm := rmod_fc lo m (by omega)
  (repeat (first | refine K2 ?_ | refine K4 ?_ | refine K5 ?_ | refine L1 ?_))
  refine RG.split 65 rfl (fun h9 => ?_) (fun h9 => ?_)
  rotate_left
  · have h9 : ¬ (hi - lo).tmod m = 0 := h9
    rw [decide_eq_false h9] at ye
    simp only [Bool.false_and] at ye
    subst ye
    (repeat (first | refine K1 ?_ | refine K4 ?_ | refine RG.dd ?_ | refine S6 ?_))
    exact ⟨⟨_, rfl, rfl⟩, rfl, .nil _⟩
  have h9 : (hi - lo).tmod m = 0 := h9
  rw [decide_eq_true h9, Bool.true_and] at ye
  obtain ⟨q, hq⟩ : ∃ q, q = smod lo m := ⟨_, rfl⟩
  rw [← hq] at cm ye
  subst ye
  (repeat (first | refine K4 ?_ | refine L1 ?_))
  refine RG.call rfl rfl rfl rfl (cm) [] rfl rfl rfl rfl (.nil _) (.nil _) (fun _ h => False.elim h) rfl (A.ren_free _ _ rfl) rfl ?_
  (repeat (first | refine K4 ?_ | refine RG.dd ?_ | refine S6 ?_))
  exact ⟨⟨_, rfl, rfl⟩, rfl, .nil _⟩
theorem pairs_no (x : Pr) (prev : Option Pr) (l : List Pr) (h : prGo true x prev = false) : pairsB true prev (x :: l) = false := by
  rw [pairsB, h]; exact pairsB_false _ _
theorem prGo_ok (x : Pr) (prev : Option Pr) : prGo true x prev = (prOkB x && (match prev with | none => true | some y => plessB y x)) := by
  unfold prGo
  rw [Bool.true_and]
  cases prev with
  | none => rfl
  | some y => dsimp only; rw [pless_pcmp]
set_option maxHeartbeats 16000000 in
theorem rright_fc (p : Pg) (hp : p.dc = dcM) (hn : p.heads.length ≤ 1000) (s : Sy) (hl : s.pairs.length ≤ 1000) : FC Tryz.prog ge 22 [.agg (pgC p), .agg s.cl] [] (i64 (eno (rightB p.heads s))) [] NoP := by
  have cH := headIn_fc p hp s.id hn
  unfold hiA at cH
  have cV := rvalidA_fc s.res
  have cW := fun x m => within_fc x m
  unfold rightB
  obtain ⟨hd, hhd⟩ : ∃ hd, hd = headF p.heads s.id := ⟨_, rfl⟩
  rw [← hhd] at cH ⊢
  obtain ⟨is, his⟩ : ∃ is, is = hd.isSome := ⟨_, rfl⟩
  have cI : ∃ (a b c : Int) (n1 n2 : Nat) (l1 l2 : List A), FC Tryz.prog ge 50 [.agg (pgC p), i64 s.id] [] (.agg [i64 a, i64 b, i64 c, .ro n1 l1, .ro n2 l2, .val (.bool is)]) [] NoP := by
    rw [his]
    cases hd with
    | some y => exact ⟨_, _, _, _, _, _, _, cH⟩
    | none => exact ⟨_, _, _, _, _, _, _, cH⟩
  rw [← his]
  clear his hhd
  obtain ⟨ha, hb, hc, n1, n2, l1, l2, cI⟩ := cI
  clear cH
  obtain ⟨x1, x2, x7, x8, x9, l, x11⟩ := s
  obtain ⟨vb, hvb⟩ : ∃ vb, vb = validB x2 := ⟨_, rfl⟩
  obtain ⟨F, hF⟩ : ∃ F, F = frontB is ⟨x1, x2, x7, x8, x9, l, x11⟩ := ⟨_, rfl⟩
  rw [← hF]
  unfold frontB at hF
  dsimp only at cI cV hF hl ⊢
  rw [← hvb] at cV hF
  clear hvb
  obtain ⟨R, hR⟩ : ∃ R, R = pairsB F none l := ⟨_, rfl⟩
  have no : F = false → R = false := fun h => by rw [hR, h]; exact pairsB_false _ _
  rw [← hR]
  obtain ⟨b1, hb1⟩ : ∃ b, b = bitsB x7 4294967294 := ⟨_, rfl⟩
  obtain ⟨b2, hb2⟩ : ∃ b, b = bitsB x8 7 := ⟨_, rfl⟩
  obtain ⟨b3, hb3⟩ : ∃ b, b = bitsB x9 7 := ⟨_, rfl⟩
  have c1 := cW x7 4294967294
  have c2 := cW x8 7
  have c3 := cW x9 7
  rw [← hb1] at c1 hF
  rw [← hb2] at c2 hF
  rw [← hb3] at c3 hF
  clear cW hb1 hb2 hb3
  obtain ⟨v1, v2, v3, v4, v5⟩ := x2
  simp only [Sy.cl, Ab.cl, List.cons_append, List.nil_append] at cV cI ⊢
  refine FC.of_AW tok Tryz.func22 (by kernel_rfl) rfl Tryz.ntmps22 [] rfl rfl rfl ?_; intro w0 X0 Y f0 hI0 hX0
  (repeat (first | refine K4 ?_ | refine L1 ?_ | refine L2 ?_ | refine RG.d ?_ | refine S1 ?_ | refine S2 ?_))
  refine RG.call rfl rfl rfl rfl (cI) [] rfl rfl rfl rfl (.nil _) (.nil _) (fun _ h => False.elim h) rfl (A.ren_free _ _ rfl) rfl ?_
  (repeat (first | refine K4 ?_))
  cases is with
  | false =>
    have e : R = false := no (by rw [hF]; rfl)
    subst e
    (repeat (first | refine K1 ?_ | refine K4 ?_ | refine RG.d ?_ | refine S1 ?_ | refine S2 ?_ | refine S6 ?_ | refine S7 ?_))
    exact ⟨⟨_, rfl, rfl⟩, rfl, .nil _⟩
  | true =>
  (repeat (first | refine K4 ?_ | refine L1 ?_))
  refine RG.call rfl rfl rfl rfl (cV) [] rfl rfl rfl rfl (.nil _) (.nil _) (fun _ h => False.elim h) rfl (A.ren_free _ _ rfl) rfl ?_
  (repeat (first | refine K4 ?_))
  cases vb with
  | false =>
    have e : R = false := no (by rw [hF]; simp)
    subst e
    (repeat (first | refine K1 ?_ | refine K4 ?_ | refine RG.d ?_ | refine S1 ?_ | refine S2 ?_ | refine S6 ?_ | refine S7 ?_))
    exact ⟨⟨_, rfl, rfl⟩, rfl, .nil _⟩
  | true =>
  (repeat (first | refine K4 ?_ | refine L1 ?_))
  refine RG.call rfl rfl rfl rfl (c1) [] rfl rfl rfl rfl (.nil _) (.nil _) (fun _ h => False.elim h) rfl (A.ren_free _ _ rfl) rfl ?_
  (repeat (first | refine K4 ?_))
  cases b1 with
  | false =>
    have e : R = false := no (by rw [hF]; simp)
    subst e
    (repeat (first | refine K1 ?_ | refine K4 ?_ | refine RG.d ?_ | refine S1 ?_ | refine S2 ?_ | refine S6 ?_ | refine S7 ?_))
    exact ⟨⟨_, rfl, rfl⟩, rfl, .nil _⟩
  | true =>
  (repeat (first | refine K3 ?_ | refine K4 ?_ | refine K5 ?_ | refine L1 ?_))
  refine RG.call rfl rfl rfl rfl (c2) [] rfl rfl rfl rfl (.nil _) (.nil _) (fun _ h => False.elim h) rfl (A.ren_free _ _ rfl) rfl ?_
  (repeat (first | refine K4 ?_))
  cases b2 with
  | false =>
    have e : R = false := no (by rw [hF]; simp)
    subst e
    (repeat (first | refine K1 ?_ | refine K4 ?_ | refine RG.d ?_ | refine S1 ?_ | refine S2 ?_ | refine S6 ?_ | refine S7 ?_))
    exact ⟨⟨_, rfl, rfl⟩, rfl, .nil _⟩
  | true =>
  (repeat (first | refine K3 ?_ | refine K4 ?_ | refine K5 ?_ | refine L1 ?_))
  refine RG.call rfl rfl rfl rfl (c3) [] rfl rfl rfl rfl (.nil _) (.nil _) (fun _ h => False.elim h) rfl (A.ren_free _ _ rfl) rfl ?_
  (repeat (first | refine K4 ?_))
  cases b3 with
  | false =>
    have e : R = false := no (by rw [hF]; simp)
    subst e
    (repeat (first | refine K1 ?_ | refine K4 ?_ | refine RG.d ?_ | refine S1 ?_ | refine S2 ?_ | refine S6 ?_ | refine S7 ?_))
    exact ⟨⟨_, rfl, rfl⟩, rfl, .nil _⟩
  | true =>
  (repeat (first | refine K4 ?_ | refine L1 ?_))
  refine RG.split 55 rfl (fun h => ?_) (fun h5 => ?_)
  · have h : (l.length : Int) > 56 := h
    have e : R = false := no (by rw [hF, decide_eq_false (show ¬ (l.length : Int) ≤ 56 by omega)]; simp)
    subst e
    (repeat (first | refine K1 ?_ | refine K4 ?_ | refine RG.d ?_ | refine S1 ?_ | refine S2 ?_ | refine S6 ?_ | refine S7 ?_))
    exact ⟨⟨_, rfl, rfl⟩, rfl, .nil _⟩
  have h5 : ¬ (l.length : Int) > 56 := h5
  (repeat (first | refine K4 ?_ | refine L1 ?_))
  refine RG.split 60 rfl (fun h => ?_) (fun h6 => ?_)
  · have h : x11 < 0 := h
    have e : R = false := no (by rw [hF, decide_eq_false (show ¬ 0 ≤ x11 by omega)]; simp)
    subst e
    (repeat (first | refine K1 ?_ | refine K4 ?_ | refine RG.d ?_ | refine S1 ?_ | refine S2 ?_ | refine S6 ?_ | refine S7 ?_))
    exact ⟨⟨_, rfl, rfl⟩, rfl, .nil _⟩
  have h6 : ¬ x11 < 0 := h6
  (repeat (first | refine K4 ?_ | refine L1 ?_ | refine RG.d ?_))
  refine AW.condD rfl (fun h => ?_) (fun h7 => ?_)
  · have h : x11 > 1099511627776 := h
    have e : R = false := no (by rw [hF, decide_eq_false (show ¬ x11 ≤ 1099511627776 by omega)]; simp)
    subst e
    (repeat (first | refine K4 ?_ | refine RG.d ?_ | refine S1 ?_ | refine S2 ?_ | refine S6 ?_))
    exact ⟨⟨_, rfl, rfl⟩, rfl, .nil _⟩
  have h7 : ¬ x11 > 1099511627776 := h7
  have hF2 : F = true := by
    rw [hF, decide_eq_true (show 0 ≤ x11 by omega), decide_eq_true (show x11 ≤ 1099511627776 by omega), decide_eq_true (show (l.length : Int) ≤ 56 by omega)]; rfl
  rw [hF2] at hR
  clear hF hF2 no cI cV c1 c2 c3
  (repeat (first | refine K4 ?_ | refine RG.d ?_ | refine S1 ?_ | refine S2 ?_ | refine S3 ?_ | refine S4 ?_))
  refine AW.loopS (fun q : Nat × Option Pr => ⟨put 2 (some (.ptr 0 [] 0)) (put 3 (some (.ptr 1 [] 0)) (put 5 (some (i64 (q.1 : Int))) noE)), hput 0 (.one (pgC p)) (hput 1 (.one ([i64 x1, i64 v1, i64 v2, i64 v3, i64 v4, i64 v5, i64 x7, i64 x8, i64 x9, rdP l, i64 x11])) noH), 2⟩) (fun q => q.1 ≤ l.length ∧ R = pairsB true q.2 (l.drop q.1) ∧ q.2 = (match q.1 with | 0 => none | j + 1 => l[j]?)) (fun q => l.length - q.1) (0, none) ⟨Nat.zero_le _, hR, rfl⟩ (Sub.of (by repeat (first | exact SubE.no _ | refine SubE.put rfl ?_)) (by repeat (first | exact SubH.no _ | refine SubH.put rfl ?_)) rfl) ?_
  rintro ⟨i, prev⟩ ⟨hi, h1, hp1⟩
  dsimp only at hi h1 hp1
  (repeat (first | refine K4 ?_ | refine L1 ?_ | refine RG.d ?_ | refine S1 ?_ | refine S2 ?_))
  refine AW.condD rfl (fun k => ?_) (fun k => ?_)
  rotate_left
  · have k : ¬ (i : Int) < (l.length : Int) := k
    rw [List.drop_eq_nil_of_le (by omega)] at h1
    have h1 : R = true := h1
    subst h1
    (repeat (first | refine K4 ?_ | refine RG.d ?_ | refine S1 ?_ | refine S2 ?_ | refine S5 ?_ | refine S6 ?_))
    exact ⟨⟨_, rfl, rfl⟩, rfl, .nil _⟩
  have k : (i : Int) < (l.length : Int) := k
  obtain ⟨x, hx⟩ : ∃ y, l[i]? = some y := ⟨_, List.getElem?_eq_getElem (by omega)⟩
  have hat := flC_at Pr.cl_len l i x hx
  rw [drop_cons hx] at h1
  have bad : prGo true x prev = false → R = false := fun h => by rw [h1]; exact pairs_no _ _ _ h
  have good : prGo true x prev = true → R = pairsB true (some x) (l.drop (i + 1)) := fun h => by rw [h1, pairsB, h]
  rw [prGo_ok] at bad good
  clear h1 hR
  obtain ⟨y1, y2, y3⟩ := x
  unfold prOkB lockB at bad good
  dsimp only at bad good
  simp only [Pr.cl, List.cons_append, List.nil_append] at hat
  (repeat (first | refine K4 ?_ | refine L1 ?_ | refine S1 ?_ | refine S2 ?_ | refine S3 ?_ | refine S4 ?_))
  refine RG.idx tok rfl rfl rfl rfl rfl rfl hat ⟨by omega, by omega⟩ rfl ?_
  (repeat (first | refine K4 ?_ | refine L1 ?_ | refine L2 ?_ | refine L3 ?_ | refine RG.d ?_ | refine S1 ?_ | refine S2 ?_))
  refine RG.split 80 rfl (fun h => ?_) (fun g1 => ?_)
  · have h : ¬ y3 = 0 := h
    have e : R = false := bad (by rw [decide_eq_false h]; simp)
    subst e
    (repeat (first | refine K1 ?_ | refine K4 ?_ | refine RG.d ?_ | refine RG.dd ?_ | refine S1 ?_ | refine S2 ?_ | refine S6 ?_ | refine S7 ?_))
    exact ⟨⟨_, rfl, rfl⟩, rfl, .nil _⟩
  (repeat (first | refine K4 ?_ | refine L1 ?_))
  refine RG.split 87 rfl (fun h => ?_) (fun g2 => ?_)
  · have h : y1 = y2 := h
    have e : R = false := bad (by rw [decide_eq_false (show ¬ y1 ≠ y2 from fun e => e h)]; simp)
    subst e
    (repeat (first | refine K1 ?_ | refine K4 ?_ | refine RG.d ?_ | refine RG.dd ?_ | refine S1 ?_ | refine S2 ?_ | refine S6 ?_ | refine S7 ?_))
    exact ⟨⟨_, rfl, rfl⟩, rfl, .nil _⟩
  (repeat (first | refine K4 ?_ | refine L1 ?_))
  refine RG.split 92 rfl (fun h => ?_) (fun g3 => ?_)
  · have h : y1 < 0 := h
    have e : R = false := bad (by rw [decide_eq_false (show ¬ 0 ≤ y1 by omega)]; simp)
    subst e
    (repeat (first | refine K1 ?_ | refine K4 ?_ | refine RG.d ?_ | refine RG.dd ?_ | refine S1 ?_ | refine S2 ?_ | refine S6 ?_ | refine S7 ?_))
    exact ⟨⟨_, rfl, rfl⟩, rfl, .nil _⟩
  (repeat (first | refine K4 ?_ | refine L1 ?_))
  refine RG.split 100 rfl (fun h => ?_) (fun g4 => ?_)
  · have h : y1 ≥ 3 := h
    have e : R = false := bad (by rw [decide_eq_false (show ¬ y1 < 3 by omega)]; simp)
    subst e
    (repeat (first | refine K1 ?_ | refine K4 ?_ | refine RG.d ?_ | refine RG.dd ?_ | refine S1 ?_ | refine S2 ?_ | refine S6 ?_ | refine S7 ?_))
    exact ⟨⟨_, rfl, rfl⟩, rfl, .nil _⟩
  (repeat (first | refine K4 ?_ | refine L1 ?_))
  refine RG.split 105 rfl (fun h => ?_) (fun g5 => ?_)
  · have h : y2 < 0 := h
    have e : R = false := bad (by rw [decide_eq_false (show ¬ 0 ≤ y2 by omega)]; simp)
    subst e
    (repeat (first | refine K1 ?_ | refine K4 ?_ | refine RG.d ?_ | refine RG.dd ?_ | refine S1 ?_ | refine S2 ?_ | refine S6 ?_ | refine S7 ?_))
    exact ⟨⟨_, rfl, rfl⟩, rfl, .nil _⟩
  (repeat (first | refine K4 ?_ | refine L1 ?_))
  refine RG.split 113 rfl (fun h => ?_) (fun g6 => ?_)
  · have h : y2 ≥ 3 := h
    have e : R = false := bad (by rw [decide_eq_false (show ¬ y2 < 3 by omega)]; simp)
    subst e
    (repeat (first | refine K1 ?_ | refine K4 ?_ | refine RG.d ?_ | refine RG.dd ?_ | refine S1 ?_ | refine S2 ?_ | refine S6 ?_ | refine S7 ?_))
    exact ⟨⟨_, rfl, rfl⟩, rfl, .nil _⟩
  have g1 : y3 = 0 := Decidable.byContradiction g1
  have g2 : y1 ≠ y2 := g2
  have g3 : ¬ y1 < 0 := g3
  have g4 : ¬ y1 ≥ 3 := g4
  have g5 : ¬ y2 < 0 := g5
  have g6 : ¬ y2 ≥ 3 := g6
  have ee : (decide (y3 = 0) && decide (y1 ≠ y2) && (decide (0 ≤ y1) && decide (y1 < 3)) && (decide (0 ≤ y2) && decide (y2 < 3))) = true := by
    rw [decide_eq_true g1, decide_eq_true g2, decide_eq_true (show 0 ≤ y1 by omega), decide_eq_true (show y1 < 3 by omega), decide_eq_true (show 0 ≤ y2 by omega), decide_eq_true (show y2 < 3 by omega)]; rfl
  rw [ee, Bool.true_and] at bad good
  clear ee
  (repeat (first | refine K4 ?_))
  cases i with
  | zero =>
    have hp1 : prev = none := hp1
    subst hp1
    have h1 := good rfl
    refine RG.put 116 rfl (v' := .val (.bool false)) (congrArg (fun b => A.val (.bool b)) (decide_eq_false (show ¬ ((0 : Nat) : Int) > 0 by omega))) ?_
    (repeat (first | refine K1 ?_ | refine K2 ?_ | refine K4 ?_ | refine RG.d ?_ | refine RG.dd ?_ | refine S2 ?_ | refine S3 ?_ | refine S8 ?_))
    exact ⟨(0 + 1, some ⟨y1, y2, y3⟩), ⟨by dsimp only; omega, h1, hx.symm⟩, by dsimp only; omega, Sub.down (by repeat (first | exact SubE.no _ | refine SubE.put rfl ?_)) (by repeat (first | exact SubH.no _ | refine SubH.put rfl ?_)) (by repeat (first | exact LtE.no _ | refine LtE.put rfl ?_)) (by repeat (first | exact LtH.no _ | refine LtH.put rfl rfl ?_)) rfl⟩
  | succ j =>
    obtain ⟨z, hz⟩ : ∃ y, l[j]? = some y := ⟨_, List.getElem?_eq_getElem (by omega)⟩
    have hp1 : prev = l[j]? := hp1
    rw [hz] at hp1
    subst hp1
    have hatz := flC_at Pr.cl_len l j z hz
    have co := less_fc z ⟨y1, y2, y3⟩
    dsimp only at bad good
    obtain ⟨cc, hcc⟩ : ∃ c, c = plessB z ⟨y1, y2, y3⟩ := ⟨_, rfl⟩
    rw [← hcc] at co bad good
    obtain ⟨z1, z2, z3⟩ := z
    simp only [Pr.cl, List.cons_append, List.nil_append] at hatz co
    refine RG.put 116 rfl (v' := .val (.bool true)) (congrArg (fun b => A.val (.bool b)) (decide_eq_true (show ((j + 1 : Nat) : Int) > 0 by omega))) ?_
    (repeat (first | refine K2 ?_ | refine K4 ?_ | refine L1 ?_))
    refine RG.put 120 rfl (v' := i64 (j : Int)) (congrArg i64 (show ((j + 1 : Nat) : Int) - 1 = (j : Int) by omega)) ?_
    refine RG.idx tok rfl rfl rfl rfl rfl rfl hatz ⟨by omega, by omega⟩ rfl ?_
    (repeat (first | refine L1 ?_))
    refine RG.call rfl rfl rfl rfl (co) [] rfl rfl rfl rfl (.nil _) (.nil _) (fun _ h => False.elim h) rfl (A.ren_free _ _ rfl) rfl ?_
    (repeat (first | refine K4 ?_ | refine RG.dd ?_))
    cases cc with
    | false =>
      have e : R = false := bad rfl
      subst e
      (repeat (first | refine K4 ?_ | refine RG.d ?_ | refine S1 ?_ | refine S2 ?_ | refine S6 ?_ | refine S7 ?_))
      exact ⟨⟨_, rfl, rfl⟩, rfl, .nil _⟩
    | true =>
      have h1 := good rfl
      (repeat (first | refine K2 ?_ | refine K4 ?_ | refine RG.d ?_ | refine S2 ?_ | refine S3 ?_ | refine S8 ?_))
      exact ⟨(j + 1 + 1, some ⟨y1, y2, y3⟩), ⟨by dsimp only; omega, h1, hx.symm⟩, by dsimp only; omega, Sub.down (by repeat (first | exact SubE.no _ | refine SubE.put rfl ?_)) (by repeat (first | exact SubH.no _ | refine SubH.put rfl ?_)) (by repeat (first | exact LtE.no _ | refine LtE.put rfl ?_)) (by repeat (first | exact LtH.no _ | refine LtH.put rfl rfl ?_)) rfl⟩
end Go.Proofs.YtifeioddiddnoaaGreatDoor
namespace Go.Proofs.YtifeioddiddnoaaGreatDoor
open Go.Abs Go Go.RowKit
set_option maxRecDepth 20000
def inW (b : Ab) (v : Int) : Bool := (decide (b.lo ≤ v) && decide (v ≤ b.hi)) && decide (smod (v - b.lo) b.m = 0)
def rlB (s t : Tr) : Bool := ((inW (nf t) s.lo && inW (nf t) s.hi) && ((decide (s.g = 0) || decide (t.g = 0)) || decide ((nf s).m.tmod (nf t).m = 0))) && inM s.mask t.mask
theorem nf_m {t : Tr} (h : t.ok) : ((nf t).m = 1 ∧ t.lo = t.hi ∧ t.g = 0) ∨ ((nf t).m = t.g ∧ 0 < t.g ∧ ¬ t.lo = t.hi) := by
  unfold nf
  by_cases e : t.lo = t.hi
  · rw [if_pos e]; exact .inl ⟨rfl, e, h.z.2 e⟩
  · rw [if_neg e]
    have := h.g
    have h0 : t.g ≠ 0 := fun k => e (h.z.1 k)
    exact .inr ⟨rfl, by omega, e⟩
theorem inW_nf {t : Tr} (h : t.ok) (v : Int) : inW (nf t) v = true ↔ t.lo ≤ v ∧ v ≤ t.hi ∧ t.g ∣ v - t.lo := by
  unfold inW
  rw [nf_lo, nf_hi]
  simp only [Bool.and_eq_true, decide_eq_true_eq]
  rcases nf_m h with ⟨e1, e2, e3⟩ | ⟨e1, e2, e3⟩
  · rw [e1, e3, smod_eq _ _ (by decide), Int.emod_one]
    constructor
    · rintro ⟨⟨a, b⟩, -⟩
      exact ⟨a, b, by rw [show v - t.lo = 0 by omega]; exact Int.dvd_refl 0⟩
    · rintro ⟨a, b, -⟩
      exact ⟨⟨a, b⟩, rfl⟩
  · rw [e1, smod_eq _ _ e2]
    constructor
    · rintro ⟨⟨a, b⟩, c⟩
      exact ⟨a, b, Int.dvd_of_emod_eq_zero c⟩
    · rintro ⟨a, b, c⟩
      exact ⟨⟨a, b⟩, Int.emod_eq_zero_of_dvd c⟩
theorem leqB_in {s t : Tr} (hs : s.bd) (ht : t.bd) (h : LeqT s t) : leqB s t = true := by
  rw [leqB_iff]
  congr 1
  have h1 := h.lo; have h2 := h.hi
  refine tr_ext ?_ ?_ ?_ ?_
  · show min s.lo t.lo = t.lo; omega
  · show max s.hi t.hi = t.hi; omega
  · refine eq_of_dvd (igcd_nonneg _ _) ht.toOk.g fun k => ?_
    rw [join_dvd]
    exact ⟨fun ⟨_, b, _⟩ => b, fun b => ⟨Int.dvd_trans b h.g, b, Int.dvd_trans b h.d⟩⟩
  · exact h.m
theorem mask_iff {s t : Tr} (hs : s.bd) (ht : t.bd) : inM s.mask t.mask = true ↔ ior s.mask t.mask = t.mask := by
  have a1 := hs.m0; have a2 := hs.m1; have b1 := ht.m0; have b2 := ht.m1
  obtain ⟨x, hx⟩ : ∃ x : Nat, s.mask = x := ⟨s.mask.toNat, by omega⟩
  obtain ⟨y, hy⟩ : ∃ x : Nat, t.mask = x := ⟨t.mask.toNat, by omega⟩
  rw [hx, hy, inM_nat (by omega) (by omega), subN_iff, ior_nat]
  constructor
  · intro h
    have : x ||| y = y := by
      rw [← h, Nat.or_comm]
      apply Nat.eq_of_testBit_eq
      intro i
      rw [Nat.testBit_or, Nat.testBit_and]
      cases x.testBit i <;> cases y.testBit i <;> rfl
    rw [this]
  · intro h
    have h : x ||| y = y := by exact_mod_cast h
    rw [← h]
    apply Nat.eq_of_testBit_eq
    intro i
    rw [Nat.testBit_and, Nat.testBit_or]
    cases x.testBit i <;> simp
theorem rlB_eq {s t : Tr} (hs : s.bd) (ht : t.bd) : rlB s t = leqB s t := by
  have key : rlB s t = true ↔ leqB s t = true := by
    unfold rlB
    simp only [Bool.and_eq_true, Bool.or_eq_true, decide_eq_true_eq, inW_nf ht.toOk, mask_iff hs ht]
    constructor
    · rintro ⟨⟨⟨⟨a1, a2, a3⟩, c1, c2, c3⟩, d⟩, e⟩
      refine leqB_in hs ht ⟨a1, c2, ?_, a3, e⟩
      have hz : s.lo = s.hi → s.g = 0 := hs.toOk.z.2
      rcases nf_m ht.toOk with ⟨e1, e2, e3⟩ | ⟨e1, e2, e3⟩
      · rw [hz (by have := hs.toOk.le; omega)]; exact Int.dvd_zero _
      · rcases nf_m hs.toOk with ⟨f1, f2, f3⟩ | ⟨f1, f2, f3⟩
        · rw [f3]; exact Int.dvd_zero _
        · rcases d with (d | d) | d
          · omega
          · omega
          · rw [f1, e1] at d
            exact Int.dvd_of_tmod_eq_zero d
    · intro h
      obtain ⟨a1, a2, a3, a4, a5⟩ := leqB_out hs ht h
      have le := hs.toOk.le
      have hd : t.g ∣ s.hi - t.lo := by
        have h1 := Int.dvd_trans a3 hs.toOk.d
        have := Int.dvd_add h1 a4
        rwa [show s.hi - s.lo + (s.lo - t.lo) = s.hi - t.lo by omega] at this
      refine ⟨⟨⟨⟨a1, by omega, a4⟩, by omega, a2, hd⟩, ?_⟩, a5⟩
      rcases nf_m ht.toOk with ⟨e1, e2, e3⟩ | ⟨e1, e2, e3⟩
      · exact .inl (.inr e3)
      · rcases nf_m hs.toOk with ⟨f1, f2, f3⟩ | ⟨f1, f2, f3⟩
        · exact .inl (.inl f3)
        · refine .inr ?_
          rw [f1, e1]
          exact Int.tmod_eq_zero_of_dvd a3
  cases h1 : rlB s t <;> cases h2 : leqB s t <;> simp_all
set_option maxHeartbeats 4000000 in
theorem rwithin_fc (b : Ab) (v : Int) (hm : 0 < b.m ∧ b.m ≤ 2199023255552) (h1 : -4294967296 ≤ b.lo ∧ b.lo ≤ 4294967296) (h2 : -4294967296 ≤ v ∧ v ≤ 4294967296) : FC Tryz.prog ge 83 [.agg b.cl, i64 v] [] (.val (.bool (inW b v))) [] NoP := by
  have cm := rmod_fc (v - b.lo) b.m hm
  unfold inW
  obtain ⟨lo, hi, m, r, k⟩ := b
  dsimp only at cm h1 ⊢
  obtain ⟨q, hq⟩ : ∃ q, q = smod (v - lo) m := ⟨_, rfl⟩
  rw [← hq] at cm ⊢
  obtain ⟨R, hR⟩ : ∃ R, R = ((decide (lo ≤ v) && decide (v ≤ hi)) && decide (q = 0)) := ⟨_, rfl⟩
  rw [← hR]
  simp only [Ab.cl]
  refine FC.of_AW tok Tryz.func83 (by kernel_rfl) rfl Tryz.ntmps83 [] rfl rfl rfl ?_; intro w0 X0 Y f0 hI0 hX0
  (repeat (first | refine K4 ?_ | refine L1 ?_ | refine L2 ?_ | refine RG.d ?_ | refine S1 ?_ | refine S2 ?_))
  refine RG.split 9 rfl (fun g1 => ?_) (fun g1 => ?_)
  rotate_left
  · have g1 : ¬ lo ≤ v := g1
    have e : R = false := by rw [hR, decide_eq_false g1]; simp
    subst e
    (repeat (first | refine K1 ?_ | refine K4 ?_ | refine RG.d ?_ | refine S6 ?_))
    exact ⟨⟨_, rfl, rfl⟩, rfl, .nil _⟩
  have g1 : lo ≤ v := g1
  (repeat (first | refine K4 ?_ | refine L1 ?_))
  refine RG.split 15 rfl (fun g2 => ?_) (fun g2 => ?_)
  rotate_left
  · have g2 : ¬ v ≤ hi := g2
    have e : R = false := by rw [hR, decide_eq_false g2]; simp
    subst e
    (repeat (first | refine K1 ?_ | refine K4 ?_ | refine RG.d ?_ | refine S6 ?_))
    exact ⟨⟨_, rfl, rfl⟩, rfl, .nil _⟩
  have g2 : v ≤ hi := g2
  have e : R = decide (q = 0) := by rw [hR, decide_eq_true g1, decide_eq_true g2]; rfl
  subst e
  (repeat (first | refine K2 ?_ | refine K4 ?_ | refine L1 ?_))
  refine RG.call rfl rfl rfl rfl (cm) [] rfl rfl rfl rfl (.nil _) (.nil _) (fun _ h => False.elim h) rfl (A.ren_free _ _ rfl) rfl ?_
  (repeat (first | refine K4 ?_ | refine RG.d ?_ | refine S6 ?_))
  exact ⟨⟨_, rfl, rfl⟩, rfl, .nil _⟩
set_option maxHeartbeats 8000000 in
theorem rleq_fc (s t : Tr) (hs : s.bd) (ht : t.bd) : FC Tryz.prog ge 55 [.agg (nf s).cl, .agg (nf t).cl] [] (.val (.bool (leqB s t))) [] NoP := by
  rw [← rlB_eq hs ht]
  have a1 := hs.lo31; have a2 := hs.hi31; have a3 := ht.lo31; have a4 := ht.hi31; have a5 := hs.toOk.le; have a6 := ht.toOk.le
  have a7 := hs.g32; have a8 := ht.g32
  have m1 : 0 < (nf t).m ∧ (nf t).m ≤ 4294967296 := by rcases nf_m ht.toOk with ⟨e1, e2, e3⟩ | ⟨e1, e2, e3⟩ <;> omega
  have m2 : 0 < (nf s).m ∧ (nf s).m ≤ 4294967296 := by rcases nf_m hs.toOk with ⟨e1, e2, e3⟩ | ⟨e1, e2, e3⟩ <;> omega
  have c1 := rwithin_fc (nf t) s.lo (by omega) (by rw [nf_lo]; omega) (by omega)
  have c2 := rwithin_fc (nf t) s.hi (by omega) (by rw [nf_lo]; omega) (by omega)
  have c3 := rstep_fc (nf s)
  have c4 := rstep_fc (nf t)
  rw [nf_step hs.toOk] at c3
  rw [nf_step ht.toOk] at c4
  unfold rlB
  obtain ⟨w1, hw1⟩ : ∃ b, b = inW (nf t) s.lo := ⟨_, rfl⟩
  obtain ⟨w2, hw2⟩ : ∃ b, b = inW (nf t) s.hi := ⟨_, rfl⟩
  rw [← hw1] at c1 ⊢
  rw [← hw2] at c2 ⊢
  obtain ⟨b, hb⟩ : ∃ b, b = inM s.mask t.mask := ⟨_, rfl⟩
  rw [← hb]
  rw [show s.mask = (nf s).mask from (nf_mask s).symm, show t.mask = (nf t).mask from (nf_mask t).symm] at hb
  rw [show s.lo = (nf s).lo from (nf_lo s).symm] at c1
  rw [show s.hi = (nf s).hi from nf_hi.symm] at c2
  clear hw1 hw2
  obtain ⟨u, hu⟩ : ∃ b, b = nf s := ⟨_, rfl⟩
  obtain ⟨v, hv⟩ : ∃ b, b = nf t := ⟨_, rfl⟩
  obtain ⟨sg, hsg⟩ : ∃ b, b = s.g := ⟨_, rfl⟩
  obtain ⟨tg, htg⟩ : ∃ b, b = t.g := ⟨_, rfl⟩
  rw [← hu] at c1 c2 c3 m2 hb ⊢
  rw [← hv] at c1 c2 c4 m1 hb ⊢
  rw [← hsg] at c3 ⊢
  rw [← htg] at c4 ⊢
  clear hu hv hsg htg a1 a2 a3 a4 a5 a6 a7 a8
  obtain ⟨u1, u2, u3, u4, u5⟩ := u
  obtain ⟨v1, v2, v3, v4, v5⟩ := v
  dsimp only at m1 m2 hb ⊢
  obtain ⟨R, hR⟩ : ∃ R, R = (((w1 && w2) && ((decide (sg = 0) || decide (tg = 0)) || decide (u3.tmod v3 = 0))) && b) := ⟨_, rfl⟩
  rw [← hR]
  simp only [Ab.cl] at c1 c2 c3 c4 ⊢
  refine FC.of_AW tok Tryz.func55 (by kernel_rfl) rfl Tryz.ntmps55 [] rfl rfl rfl ?_; intro w0 X0 Y f0 hI0 hX0
  (repeat (first | refine K4 ?_ | refine L1 ?_ | refine L2 ?_ | refine RG.d ?_ | refine S1 ?_ | refine S2 ?_))
  refine RG.call rfl rfl rfl rfl (c1) [] rfl rfl rfl rfl (.nil _) (.nil _) (fun _ h => False.elim h) rfl (A.ren_free _ _ rfl) rfl ?_
  (repeat (first | refine K4 ?_))
  cases w1 with
  | false =>
    have e : R = false := by rw [hR]; rfl
    subst e
    (repeat (first | refine K1 ?_ | refine K4 ?_ | refine RG.d ?_ | refine S6 ?_))
    exact ⟨⟨_, rfl, rfl⟩, rfl, .nil _⟩
  | true =>
  (repeat (first | refine K4 ?_ | refine L1 ?_))
  refine RG.call rfl rfl rfl rfl (c2) [] rfl rfl rfl rfl (.nil _) (.nil _) (fun _ h => False.elim h) rfl (A.ren_free _ _ rfl) rfl ?_
  (repeat (first | refine K4 ?_))
  cases w2 with
  | false =>
    have e : R = false := by rw [hR]; rfl
    subst e
    (repeat (first | refine K1 ?_ | refine K4 ?_ | refine RG.d ?_ | refine S6 ?_))
    exact ⟨⟨_, rfl, rfl⟩, rfl, .nil _⟩
  | true =>
  (repeat (first | refine L1 ?_))
  refine RG.call rfl rfl rfl rfl (c3) [] rfl rfl rfl rfl (.nil _) (.nil _) (fun _ h => False.elim h) rfl (A.ren_free _ _ rfl) rfl ?_
  (repeat (first | refine K4 ?_))
  refine RG.split 19 rfl (fun d1 => ?_) (fun d1 => ?_)
  · have d1 : sg = 0 := d1
    have e : R = b := by rw [hR, decide_eq_true d1]; simp
    rw [hb] at e
    subst e
    (repeat (first | refine K1 ?_ | refine K4 ?_ | refine L1 ?_ | refine RG.d ?_ | refine S6 ?_))
    exact ⟨⟨_, rfl, rfl⟩, rfl, .nil _⟩
  have d1 : ¬ sg = 0 := d1
  (repeat (first | refine L1 ?_))
  refine RG.call rfl rfl rfl rfl (c4) [] rfl rfl rfl rfl (.nil _) (.nil _) (fun _ h => False.elim h) rfl (A.ren_free _ _ rfl) rfl ?_
  (repeat (first | refine K4 ?_))
  refine RG.split 24 rfl (fun d2 => ?_) (fun d2 => ?_)
  · have d2 : tg = 0 := d2
    have e : R = b := by rw [hR, decide_eq_true d2]; simp
    rw [hb] at e
    subst e
    (repeat (first | refine K1 ?_ | refine K4 ?_ | refine L1 ?_ | refine RG.d ?_ | refine S6 ?_))
    exact ⟨⟨_, rfl, rfl⟩, rfl, .nil _⟩
  have d2 : ¬ tg = 0 := d2
  (repeat (first | refine K4 ?_ | refine K5 ?_ | refine L1 ?_))
  refine RG.split 33 rfl (fun d3 => ?_) (fun d3 => ?_)
  · have d3 : u3.tmod v3 = 0 := d3
    have e : R = b := by rw [hR, decide_eq_true d3]; simp
    rw [hb] at e
    subst e
    (repeat (first | refine K4 ?_ | refine L1 ?_ | refine RG.d ?_ | refine S6 ?_))
    exact ⟨⟨_, rfl, rfl⟩, rfl, .nil _⟩
  · have d3 : ¬ u3.tmod v3 = 0 := d3
    have e : R = false := by rw [hR, decide_eq_false d1, decide_eq_false d2, decide_eq_false d3]; rfl
    subst e
    (repeat (first | refine K1 ?_ | refine K4 ?_ | refine RG.d ?_ | refine S6 ?_))
    exact ⟨⟨_, rfl, rfl⟩, rfl, .nil _⟩
theorem hasP_any (x : Pr) : ∀ (l : List Pr) (i : Nat), decide (idxP x l i ≥ 0) = l.any (fun y => decide (y.a = x.a) && decide (y.b = x.b))
  | [], i => rfl
  | y :: l, i => by
    rw [idxP, List.any_cons]
    have hp : pcmp x y = 0 ↔ y.a = x.a ∧ y.b = x.b := by
      unfold pcmp
      split
      · omega
      · omega
    by_cases h : pcmp x y = 0
    · rw [if_pos h, decide_eq_true (hp.1 h).1, decide_eq_true (hp.1 h).2, decide_eq_true (by omega)]; rfl
    · rw [if_neg h, hasP_any x l (i + 1)]
      have : (decide (y.a = x.a) && decide (y.b = x.b)) = false := by
        rw [← Bool.decide_and]
        exact decide_eq_false fun k => h (hp.2 k)
      rw [this, Bool.false_or]
set_option maxHeartbeats 4000000 in
theorem rhas_fc (l : List Pr) (x : Pr) (hl : l.length ≤ 1000) : FC Tryz.prog ge 54 [rdP l, .agg x.cl] [] (.val (.bool (hasP l x))) [] NoP := by
  obtain ⟨R, hR⟩ : ∃ R, R = l.any (fun y => decide (y.a = x.a) && decide (y.b = x.b)) := ⟨_, rfl⟩
  rw [show hasP l x = R from (hasP_any x l 0).trans hR.symm]
  obtain ⟨x1, x2, x3⟩ := x
  dsimp only at hR
  simp only [Pr.cl]
  refine FC.of_AW tok Tryz.func54 (by kernel_rfl) rfl Tryz.ntmps54 [] rfl rfl rfl ?_; intro w0 X0 Y f0 hI0 hX0
  (repeat (first | refine K4 ?_ | refine L2 ?_ | refine RG.d ?_ | refine S1 ?_ | refine S2 ?_ | refine S4 ?_))
  refine AW.loopS (fun i : Nat => ⟨put 0 (some (rdP l)) (put 3 (some (.ptr 0 [] 0)) (put 5 (some (i64 (i : Int))) noE)), hput 0 (.one ([i64 x1, i64 x2, i64 x3])) noH, 1⟩) (fun i => i ≤ l.length ∧ R = (l.drop i).any (fun y => decide (y.a = x1) && decide (y.b = x2))) (fun i => l.length - i) 0 ⟨Nat.zero_le _, hR⟩ (Sub.of (by repeat (first | exact SubE.no _ | refine SubE.put rfl ?_)) (by repeat (first | exact SubH.no _ | refine SubH.put rfl ?_)) rfl) ?_
  rintro i ⟨hi, h1⟩
  (repeat (first | refine K4 ?_ | refine RG.d ?_ | refine S1 ?_ | refine S2 ?_))
  refine AW.condD rfl (fun k => ?_) (fun k => ?_)
  rotate_left
  · have k : ¬ (i : Int) < (l.length : Int) := k
    rw [List.drop_eq_nil_of_le (by omega)] at h1
    have h1 : R = false := h1
    subst h1
    (repeat (first | refine K4 ?_ | refine RG.d ?_ | refine S1 ?_ | refine S2 ?_ | refine S5 ?_ | refine S6 ?_))
    exact ⟨⟨_, rfl, rfl⟩, rfl, .nil _⟩
  have k : (i : Int) < (l.length : Int) := k
  obtain ⟨y, hy⟩ : ∃ y, l[i]? = some y := ⟨_, List.getElem?_eq_getElem (by omega)⟩
  have hat := flC_at Pr.cl_len l i y hy
  rw [drop_cons hy, List.any_cons] at h1
  obtain ⟨y1, y2, y3⟩ := y
  dsimp only at h1
  simp only [Pr.cl, List.cons_append, List.nil_append] at hat
  (repeat (first | refine K4 ?_ | refine S1 ?_ | refine S2 ?_ | refine S3 ?_ | refine S4 ?_))
  refine RG.idx tok rfl rfl rfl rfl rfl rfl hat ⟨by omega, by omega⟩ rfl ?_
  (repeat (first | refine K4 ?_ | refine L1 ?_))
  refine RG.split 20 rfl (fun g => ?_) (fun g => ?_)
  rotate_left
  · have g : ¬ y1 = x1 := g
    rw [decide_eq_false g, Bool.false_and, Bool.false_or] at h1
    (repeat (first | refine K1 ?_ | refine K2 ?_ | refine K4 ?_ | refine RG.d ?_ | refine RG.dd ?_ | refine S2 ?_ | refine S3 ?_ | refine S8 ?_))
    exact ⟨i + 1, ⟨by omega, h1⟩, by omega, Sub.down (by repeat (first | exact SubE.no _ | refine SubE.put rfl ?_)) (by repeat (first | exact SubH.no _ | refine SubH.put rfl ?_)) (by repeat (first | exact LtE.no _ | refine LtE.put rfl ?_)) (by repeat (first | exact LtH.no _ | refine LtH.put rfl rfl ?_)) rfl⟩
  have g : y1 = x1 := g
  rw [decide_eq_true g, Bool.true_and] at h1
  (repeat (first | refine K4 ?_))
  refine RG.idx tok rfl rfl rfl rfl rfl rfl hat ⟨by omega, by omega⟩ rfl ?_
  (repeat (first | refine K4 ?_ | refine L1 ?_ | refine RG.dd ?_))
  refine AW.condD rfl (fun g2 => ?_) (fun g2 => ?_)
  · have g2 : y2 = x2 := g2
    rw [decide_eq_true g2, Bool.true_or] at h1
    subst h1
    (repeat (first | refine K4 ?_ | refine RG.d ?_ | refine S1 ?_ | refine S2 ?_ | refine S6 ?_))
    exact ⟨⟨_, rfl, rfl⟩, rfl, .nil _⟩
  · have g2 : ¬ y2 = x2 := g2
    rw [decide_eq_false g2, Bool.false_or] at h1
    (repeat (first | refine K2 ?_ | refine K4 ?_ | refine RG.d ?_ | refine S2 ?_ | refine S3 ?_))
    exact ⟨i + 1, ⟨by omega, h1⟩, by omega, Sub.down (by repeat (first | exact SubE.no _ | refine SubE.put rfl ?_)) (by repeat (first | exact SubH.no _ | refine SubH.put rfl ?_)) (by repeat (first | exact LtE.no _ | refine LtE.put rfl ?_)) (by repeat (first | exact LtH.no _ | refine LtH.put rfl rfl ?_)) rfl⟩
set_option maxHeartbeats 16000000 in
theorem rleq14_fc (a b : Sy) (s t : Tr) (hs : s.bd) (ht : t.bd) (ha : a.res = nf s) (hb : b.res = nf t) (hla : a.pairs.length ≤ 1000) (hlb : b.pairs.length ≤ 1000) (pa : ∀ y, y ∈ a.pairs → y.bd) (pb : ∀ y, y ∈ b.pairs → y.bd) :
    FC Tryz.prog ge 23 [.agg a.cl, .agg b.cl] [] (.val (.bool (leqS a b (leqB s t)))) [] NoP := by
  have cS := rleq_fc s t hs ht
  rw [← ha, ← hb] at cS
  have cP := fun x (hx : x ∈ a.pairs) => rhas_fc b.pairs x hlb
  obtain ⟨q, hq⟩ : ∃ q, q = leqB s t := ⟨_, rfl⟩
  rw [← hq] at cS ⊢
  clear ha hb hq
  obtain ⟨x1, ⟨x2, x3, x4, x5, x6⟩, x7, x8, x9, l, x11⟩ := a
  obtain ⟨y1, ⟨y2, y3, y4, y5, y6⟩, y7, y8, y9, m, y11⟩ := b
  unfold leqS leqQ
  dsimp only at hla hlb cP ⊢
  simp only [Sy.cl, Ab.cl] at cS ⊢
  obtain ⟨b1, hb1⟩ : ∃ b, b = inM x7 y7 := ⟨_, rfl⟩
  obtain ⟨b2, hb2⟩ : ∃ b, b = inM x8 y8 := ⟨_, rfl⟩
  obtain ⟨b3, hb3⟩ : ∃ b, b = inM y9 x9 := ⟨_, rfl⟩
  rw [← hb1, ← hb2, ← hb3]
  obtain ⟨F, hF⟩ : ∃ F, F = (((((decide (x1 = y1) && q) && b1) && b2) && b3) && decide (x11 ≤ y11)) := ⟨_, rfl⟩
  rw [← hF]
  obtain ⟨R, hR⟩ : ∃ R, R = (l.all (hasP m) && F) := ⟨_, rfl⟩
  rw [← hR]
  refine FC.of_AW tok Tryz.func23 (by kernel_rfl) rfl Tryz.ntmps23 [] rfl rfl rfl ?_; intro w0 X0 Y f0 hI0 hX0
  (repeat (first | refine K4 ?_ | refine L2 ?_ | refine RG.d ?_ | refine S1 ?_ | refine S2 ?_ | refine S4 ?_))
  refine AW.loopS (fun i : Nat => ⟨put 2 (some (.ptr 0 [] 0)) (put 3 (some (.ptr 1 [] 0)) (put 5 (some (i64 (i : Int))) noE)), hput 0 (.one ([i64 x1, i64 x2, i64 x3, i64 x4, i64 x5, i64 x6, i64 x7, i64 x8, i64 x9, rdP l, i64 x11])) (hput 1 (.one ([i64 y1, i64 y2, i64 y3, i64 y4, i64 y5, i64 y6, i64 y7, i64 y8, i64 y9, rdP m, i64 y11])) noH), 2⟩) (fun i => i ≤ l.length ∧ R = ((l.drop i).all (hasP m) && F)) (fun i => l.length - i) 0 ⟨Nat.zero_le _, hR⟩ (Sub.of (by repeat (first | exact SubE.no _ | refine SubE.put rfl ?_)) (by repeat (first | exact SubH.no _ | refine SubH.put rfl ?_)) rfl) ?_
  rintro i ⟨hi, h1⟩
  (repeat (first | refine K4 ?_ | refine L1 ?_ | refine RG.d ?_ | refine S1 ?_ | refine S2 ?_))
  refine AW.condD rfl (fun k => ?_) (fun k => ?_)
  rotate_left
  · have k : ¬ (i : Int) < (l.length : Int) := k
    rw [List.drop_eq_nil_of_le (by omega)] at h1
    have h1 : R = F := by rw [h1]; exact Bool.true_and F
    subst h1
    clear hR
    refine S5 ?_
    repeat refine S1 ?_
    refine S2 ?_
    iterate 5 ((first | refine K4 ?_ | refine L1 ?_))
    (repeat (first | refine K4 ?_))
    refine RG.splitB 27 rfl (fun h27 => ?_) (fun h27 => ?_)
    rotate_left
    · (repeat (first | refine K1 ?_ | refine K4 ?_ | refine RG.d ?_))
      have e : R = false := by rw [hF, h27]; simp only [Bool.and_false, Bool.false_and]
      subst e
      (repeat (first | refine S6 ?_))
      exact ⟨⟨_, rfl, rfl⟩, rfl, .nil _⟩
    (repeat (first | refine RG.call rfl rfl rfl rfl (cS) [] rfl rfl rfl rfl (.nil _) (.nil _) (fun _ h => False.elim h) rfl (A.ren_free _ _ rfl) rfl ?_ | refine K4 ?_ | refine L1 ?_))
    refine RG.splitB 34 rfl (fun h34 => ?_) (fun h34 => ?_)
    rotate_left
    · (repeat (first | refine K1 ?_ | refine K4 ?_ | refine RG.d ?_))
      have e : R = false := by rw [hF, h34]; simp only [Bool.and_false, Bool.false_and]
      subst e
      (repeat (first | refine S6 ?_))
      exact ⟨⟨_, rfl, rfl⟩, rfl, .nil _⟩
    (repeat (first | refine K4 ?_ | refine L1 ?_))
    refine RG.put 42 rfl (v' := .val (.bool b1)) (by rw [hb1]; rfl) ?_
    (repeat (first | refine K1 ?_))
    refine RG.splitB 42 rfl (fun h42 => ?_) (fun h42 => ?_)
    rotate_left
    · (repeat (first | refine K1 ?_ | refine K4 ?_ | refine RG.d ?_))
      have e : R = false := by rw [hF, h42]; simp only [Bool.and_false, Bool.false_and]
      subst e
      (repeat (first | refine S6 ?_))
      exact ⟨⟨_, rfl, rfl⟩, rfl, .nil _⟩
    (repeat (first | refine K4 ?_ | refine L1 ?_))
    refine RG.put 50 rfl (v' := .val (.bool b2)) (by rw [hb2]; rfl) ?_
    (repeat (first | refine K1 ?_))
    refine RG.splitB 50 rfl (fun h50 => ?_) (fun h50 => ?_)
    rotate_left
    · (repeat (first | refine K1 ?_ | refine K4 ?_ | refine RG.d ?_))
      have e : R = false := by rw [hF, h50]; simp only [Bool.and_false, Bool.false_and]
      subst e
      (repeat (first | refine S6 ?_))
      exact ⟨⟨_, rfl, rfl⟩, rfl, .nil _⟩
    (repeat (first | refine K4 ?_ | refine L1 ?_))
    refine RG.put 58 rfl (v' := .val (.bool b3)) (by rw [hb3]; rfl) ?_
    (repeat (first | refine K1 ?_))
    refine RG.splitB 58 rfl (fun h58 => ?_) (fun h58 => ?_)
    rotate_left
    · (repeat (first | refine K1 ?_ | refine K4 ?_ | refine RG.d ?_))
      have e : R = false := by rw [hF, h58]; simp only [Bool.and_false, Bool.false_and]
      subst e
      (repeat (first | refine S6 ?_))
      exact ⟨⟨_, rfl, rfl⟩, rfl, .nil _⟩
    have e : R = decide (x11 ≤ y11) := by rw [hF, h27, h34, h42, h50, h58]; simp only [Bool.true_and]
    subst e
    (repeat (first | refine K4 ?_ | refine L1 ?_ | refine RG.d ?_ | refine S6 ?_))
    exact ⟨⟨_, rfl, rfl⟩, rfl, .nil _⟩
  have k : (i : Int) < (l.length : Int) := k
  obtain ⟨x, hx⟩ : ∃ y, l[i]? = some y := ⟨_, List.getElem?_eq_getElem (by omega)⟩
  have hat := flC_at Pr.cl_len l i x hx
  have c := cP x (List.mem_of_getElem? hx)
  rw [drop_cons hx, List.all_cons, Bool.and_assoc] at h1
  obtain ⟨h, hh⟩ : ∃ h, h = hasP m x := ⟨_, rfl⟩
  rw [← hh] at c h1
  obtain ⟨z1, z2, z3⟩ := x
  simp only [Pr.cl, List.cons_append, List.nil_append] at hat c
  (repeat (first | refine K4 ?_ | refine L1 ?_ | refine S1 ?_ | refine S2 ?_ | refine S3 ?_ | refine S4 ?_))
  refine RG.idx tok rfl rfl rfl rfl rfl rfl hat ⟨by omega, by omega⟩ rfl ?_
  (repeat (first | refine RG.call rfl rfl rfl rfl (c) [] rfl rfl rfl rfl (.nil _) (.nil _) (fun _ h => False.elim h) rfl (A.ren_free _ _ rfl) rfl ?_ | refine K4 ?_ | refine L1 ?_ | refine RG.dd ?_))
  refine AW.cond rfl (fun k2 => ?_) (fun k2 => ?_)
  · have k2 : h = false := by simpa using k2
    subst k2
    rw [Bool.false_and] at h1
    subst h1
    (repeat (first | refine K4 ?_ | refine RG.d ?_ | refine S1 ?_ | refine S2 ?_ | refine S6 ?_))
    exact ⟨⟨_, rfl, rfl⟩, rfl, .nil _⟩
  · have k2 : h = true := by simpa using k2
    subst k2
    rw [Bool.true_and] at h1
    (repeat (first | refine K2 ?_ | refine K4 ?_ | refine RG.d ?_ | refine S2 ?_ | refine S3 ?_))
    exact ⟨i + 1, ⟨by omega, h1⟩, by omega, Sub.down (by repeat (first | exact SubE.no _ | refine SubE.put rfl ?_)) (by repeat (first | exact SubH.no _ | refine SubH.put rfl ?_)) (by repeat (first | exact LtE.no _ | refine LtE.put rfl ?_)) (by repeat (first | exact LtH.no _ | refine LtH.put rfl rfl ?_)) rfl⟩
end Go.Proofs.YtifeioddiddnoaaGreatDoor
namespace Go.Proofs.YtifeioddiddnoaaGreatDoor
open Go.Abs Go Go.RowKit
set_option maxRecDepth 20000
def wpF (l m : List Pr) : List Pr := m.foldl (fun acc p => withP acc p.a p.b) l
def allWith : Bool := (List.range 64).all fun j => (List.range 64).all fun k => decide (wpF (prOf j) (prOf k) = prOf (j ||| k))
set_option maxRecDepth 100000 in
theorem allWith_true : allWith = true := by kernel_rfl
theorem wpF_or {j k : Nat} (hj : j < 64) (hk : k < 64) : wpF (prOf j) (prOf k) = prOf (j ||| k) := by
  have h := allWith_true
  unfold allWith at h
  exact of_decide_eq_true (List.all_eq_true.1 (List.all_eq_true.1 h j (List.mem_range.2 hj)) k (List.mem_range.2 hk))
theorem wpF_len : ∀ (m l : List Pr), (wpF l m).length + 1 ≤ (l.length + 1) * 2 ^ m.length
  | [], l => by simp [wpF]
  | x :: m, l => by
    have ih := wpF_len m (withP l x.a x.b)
    have h := withP_len l x.a x.b
    have e : wpF l (x :: m) = wpF (withP l x.a x.b) m := rfl
    rw [e, List.length_cons, Nat.pow_succ, Nat.mul_comm (2 ^ m.length) 2, ← Nat.mul_assoc]
    exact Nat.le_trans ih (Nat.mul_le_mul_right _ (by omega))
theorem wpF_snoc (l m : List Pr) (x : Pr) : wpF l (m ++ [x]) = withP (wpF l m) x.a x.b := by
  unfold wpF; rw [List.foldl_append]; rfl
set_option maxHeartbeats 16000000 in
theorem rjoin14_fc (m n : Nm) (hm : m.ok) (hn : n.ok) : FC Tryz.prog ge 24 [.agg m.sy.cl, .agg n.sy.cl] [] (.agg (m.join n).sy.cl) [] NoP := by
  have l1 := prOf_len m.k
  have l2 := prOf_len n.k
  have cJ := rjoin_fc m.t n.t hm.t hn.t
  have hW := wpF_or hm.k hn.k
  have eT := or_nat (and_lt hm.T (by decide)) (and_lt hn.T (by decide))
  have eL := or_nat (and_lt hm.L (by decide)) (and_lt hn.L (by decide))
  have eO := and_nat (and_lt hm.O (by decide)) (and_lt hn.O (by decide))
  have eC := max_int m.c n.c
  obtain ⟨t, T, L, O, k, c⟩ := m
  obtain ⟨t', T', L', O', k', c'⟩ := n
  unfold Nm.join Nm.sy
  dsimp only at eT eL eO eC cJ hW l1 l2 ⊢
  obtain ⟨J, hJ⟩ : ∃ J, J = nf (t.join t') := ⟨_, rfl⟩
  obtain ⟨u, hu⟩ : ∃ J, J = nf t := ⟨_, rfl⟩
  obtain ⟨v, hv⟩ : ∃ J, J = nf t' := ⟨_, rfl⟩
  obtain ⟨p1, hp1⟩ : ∃ J, J = prOf k := ⟨_, rfl⟩
  obtain ⟨p2, hp2⟩ : ∃ J, J = prOf k' := ⟨_, rfl⟩
  obtain ⟨p3, hp3⟩ : ∃ J, J = prOf (k ||| k') := ⟨_, rfl⟩
  rw [← hJ, ← hu, ← hv] at cJ
  rw [← hp1] at l1
  rw [← hp2] at l2
  rw [← hp1, ← hp2, ← hp3] at hW
  rw [← hJ, ← hu, ← hv, ← hp1, ← hp2, ← hp3]
  obtain ⟨Tx, hTx⟩ : ∃ J, J = (((T ||| T' : Nat)) : Int) := ⟨_, rfl⟩
  obtain ⟨Lx, hLx⟩ : ∃ J, J = (((L ||| L' : Nat)) : Int) := ⟨_, rfl⟩
  obtain ⟨Ox, hOx⟩ : ∃ J, J = (((O &&& O' : Nat)) : Int) := ⟨_, rfl⟩
  obtain ⟨Cx, hCx⟩ : ∃ J, J = (((max c c' : Nat)) : Int) := ⟨_, rfl⟩
  rw [← hTx] at eT ⊢
  rw [← hLx] at eL ⊢
  rw [← hOx] at eO ⊢
  rw [← hCx] at eC ⊢
  clear hTx hLx hOx hCx hJ hu hv hp1 hp2 hp3
  obtain ⟨u1, u2, u3, u4, u5⟩ := u
  obtain ⟨v1, v2, v3, v4, v5⟩ := v
  obtain ⟨J1, J2, J3, J4, J5⟩ := J
  simp only [Sy.cl, Ab.cl] at cJ ⊢
  refine FC.of_AW tok Tryz.func24 (by kernel_rfl) rfl Tryz.ntmps24 [] rfl rfl rfl ?_; intro w0 X0 Y f0 hI0 hX0
  (repeat (first | refine K4 ?_ | refine L1 ?_ | refine L2 ?_ | refine RG.d ?_ | refine S1 ?_ | refine S2 ?_))
  refine RG.call rfl rfl rfl rfl (cJ) [] rfl rfl rfl rfl (.nil _) (.nil _) (fun _ h => False.elim h) rfl (A.ren_free _ _ rfl) rfl ?_
  iterate 5 ((first | refine K4 ?_ | refine L1 ?_))
  refine RG.put 18 rfl (v' := i64 Tx) (congrArg i64 eT) ?_
  iterate 5 ((first | refine K4 ?_ | refine L1 ?_))
  refine RG.put 23 rfl (v' := i64 Lx) (congrArg i64 eL) ?_
  iterate 5 ((first | refine K4 ?_ | refine L1 ?_))
  refine RG.put 28 rfl (v' := i64 Ox) (congrArg i64 eO) ?_
  iterate 7 ((first | refine K4 ?_ | refine L1 ?_))
  refine RG.put 35 rfl (v' := i64 Cx) (congrArg i64 eC) ?_
  (repeat (first | refine K4 ?_ | refine L2 ?_ | refine L3 ?_ | refine RG.d ?_ | refine RG.dd ?_ | refine S1 ?_ | refine S2 ?_ | refine S4 ?_))
  refine AW.loopS (fun i : Nat => ⟨put 3 (some (.ptr 1 [] 0)) (put 4 (some (.ptr 2 [] 0)) (put 5 (some (.ptr 3 [] 0)) (put 6 (some (i64 (i : Int))) noE))), hput 1 (.one ([i64 11, i64 v1, i64 v2, i64 v3, i64 v4, i64 v5, i64 (T' : Int), i64 (L' : Int), i64 (O' : Int), rdP p2, i64 (c' : Int)])) (hput 2 (.one ([i64 0, i64 0, i64 0, i64 0, i64 0, i64 0, i64 0, i64 0, i64 0, .val (.slice none 0 0), i64 0])) (hput 3 (.one ([i64 11, i64 J1, i64 J2, i64 J3, i64 J4, i64 J5, i64 Tx, i64 Lx, i64 Ox, rdP (wpF p1 (p2.take i)), i64 Cx])) noH)), 4⟩) (fun i => i ≤ p2.length) (fun i => p2.length - i) 0 (Nat.zero_le _) (by
    rw [List.take_zero, show wpF p1 [] = p1 from rfl]
    exact Sub.of (by repeat (first | exact SubE.no _ | refine SubE.put rfl ?_)) (by repeat (first | exact SubH.no _ | refine SubH.put rfl ?_)) rfl) ?_
  intro i hi
  (repeat (first | refine K4 ?_ | refine L1 ?_ | refine RG.d ?_ | refine S1 ?_ | refine S2 ?_))
  refine AW.condD rfl (fun k2 => ?_) (fun k2 => ?_)
  rotate_left
  · have hi2 : i = p2.length := by
      have : ¬ (i : Int) < (p2.length : Int) := k2
      omega
    rw [hi2, List.take_length, hW]
    (repeat (first | refine L1 ?_ | refine L3 ?_ | refine RG.d ?_ | refine S1 ?_ | refine S2 ?_ | refine S5 ?_ | refine S6 ?_))
    exact ⟨⟨_, rfl, rfl⟩, rfl, .nil _⟩
  have k2 : (i : Int) < (p2.length : Int) := k2
  obtain ⟨y, hy⟩ : ∃ y, p2[i]? = some y := ⟨_, List.getElem?_eq_getElem (by omega)⟩
  have hat := flC_at Pr.cl_len p2 i y hy
  have hb := wpF_len (p2.take i) p1
  rw [List.length_take, Nat.min_eq_left (by omega)] at hb
  have hb2 : 2 ^ i ≤ 2 ^ 6 := Nat.pow_le_pow_right (by decide) (by omega)
  have hb3 : (p1.length + 1) * 2 ^ i ≤ 7 * 64 := Nat.mul_le_mul (by omega) hb2
  have cw := withP_fc (wpF p1 (p2.take i)) y.a y.b (by omega)
  rw [← wpF_snoc, show p2.take i ++ [y] = p2.take (i + 1) by rw [List.take_add_one, hy]; rfl] at cw
  obtain ⟨P, hP⟩ : ∃ P, P = wpF p1 (p2.take i) := ⟨_, rfl⟩
  obtain ⟨Q, hQ⟩ : ∃ P, P = wpF p1 (p2.take (i + 1)) := ⟨_, rfl⟩
  rw [← hP, ← hQ] at cw
  rw [← hP]
  clear hb hb2 hb3 hW
  obtain ⟨y1, y2, y3⟩ := y
  simp only [Pr.cl, List.cons_append, List.nil_append] at hat
  dsimp only at cw
  (repeat (first | refine K4 ?_ | refine L1 ?_ | refine S1 ?_ | refine S2 ?_ | refine S3 ?_ | refine S4 ?_))
  refine RG.idx tok rfl rfl rfl rfl rfl rfl hat ⟨by omega, by omega⟩ rfl ?_
  (repeat (first | refine K4 ?_ | refine L1 ?_))
  refine RG.idx tok rfl rfl rfl rfl rfl rfl hat ⟨by omega, by omega⟩ rfl ?_
  (repeat (first | refine K4 ?_ | refine L1 ?_))
  refine RG.call rfl rfl rfl rfl (cw) [] rfl rfl rfl rfl (.nil _) (.nil _) (fun _ h => False.elim h) rfl (A.ren_free _ _ rfl) rfl ?_
  (repeat (first | refine K2 ?_ | refine K4 ?_ | refine L3 ?_ | refine RG.d ?_ | refine RG.dd ?_ | refine S2 ?_))
  exact ⟨i + 1, by show i + 1 ≤ p2.length; omega, by show p2.length - (i + 1) < p2.length - i; omega, by
    rw [← hQ]
    exact Sub.down (by repeat (first | exact SubE.no _ | refine SubE.put rfl ?_)) (by repeat (first | exact SubH.no _ | refine SubH.put rfl ?_)) (by repeat (first | exact LtE.no _ | refine LtE.put rfl ?_)) (by repeat (first | exact LtH.no _ | refine LtH.put rfl rfl ?_)) rfl⟩
set_option maxHeartbeats 8000000 in
theorem topIn_fc (p : Pg) (hp : p.dc = dcM) (hn : p.heads.length ≤ 1000) (id : Int) (hi : (headF p.heads id).isSome = true) : FC Tryz.prog ge 21 [.agg (pgC p), i64 id] [] (.agg ((topS id).cl ++ [i64 0])) [] NoP := by
  have cH := headIn_fc p hp id hn
  unfold hiA at cH
  obtain ⟨y, hy⟩ := Option.isSome_iff_exists.1 hi
  rw [hy] at cH
  have cA := rall_fc 255
  unfold topS
  obtain ⟨J, hJ⟩ : ∃ J, J = nf (trAll 255) := ⟨_, rfl⟩
  rw [← hJ] at cA ⊢
  obtain ⟨J1, J2, J3, J4, J5⟩ := J
  obtain ⟨y1, y2, y3, y4, y5⟩ := y
  simp only [Ab.cl, Sy.cl, Hd.cl, List.cons_append, List.nil_append] at cA cH ⊢
  refine FC.of_AW tok Tryz.func21 (by kernel_rfl) rfl Tryz.ntmps21 [] rfl rfl rfl ?_; intro w0 X0 Y f0 hI0 hX0
  (repeat (first | refine K4 ?_ | refine L1 ?_ | refine L2 ?_ | refine RG.d ?_ | refine S1 ?_ | refine S2 ?_))
  refine RG.call rfl rfl rfl rfl (cH) [] rfl rfl rfl rfl (.nil _) (.nil _) (fun _ h => False.elim h) rfl (A.ren_free _ _ rfl) rfl ?_
  (repeat (first | refine RG.call rfl rfl rfl rfl (cA) [] rfl rfl rfl rfl (.nil _) (.nil _) (fun _ h => False.elim h) rfl (A.ren_free _ _ rfl) rfl ?_ | refine K3 ?_ | refine K4 ?_ | refine K5 ?_ | refine L1 ?_ | refine L2 ?_ | refine L3 ?_ | refine RG.d ?_ | refine RG.dd ?_ | refine S1 ?_ | refine S2 ?_ | refine S3 ?_ | refine S4 ?_ | refine S8 ?_))
  (repeat (first | refine RG.append tok rfl rfl rfl rfl rfl rfl rfl rfl rfl rfl rfl (by decide) rfl (by decide) (by decide) rfl rfl ?_ | refine K2 ?_ | refine K4 ?_ | refine L1 ?_ | refine L2 ?_ | refine L3 ?_ | refine RG.d ?_ | refine S1 ?_ | refine S2 ?_ | refine AW.rounds 5 ?_ | refine S3 ?_ | refine S4 ?_ | refine S5 ?_ | refine S7 ?_ | refine S8 ?_))
  refine AW.sub (Sub.frzH (ks := [14]) (c' := [i64 id, i64 J1, i64 J2, i64 J3, i64 J4, i64 J5, i64 4294967294, i64 7, i64 0, rdP prAll, i64 1099511627776, i64 0]) 1 rfl (by decide) (by repeat (first | exact Frzs.nil | refine Frzs.cons (Frz.refl _) ?_ | refine Frzs.cons (Frz.sl (c := flC Pr.cl prAll) (l := flC Pr.cl prAll) rfl (.head _) rfl rfl) ?_))) ?_
  refine S6 ?_
  exact ⟨⟨_, rfl, rfl⟩, rfl, .nil _⟩
set_option maxHeartbeats 4000000 in
theorem topInN_fc (p : Pg) (hp : p.dc = dcM) (hn : p.heads.length ≤ 1000) (id : Int) (hi : headF p.heads id = none) : FC Tryz.prog ge 21 [.agg (pgC p), i64 id] [] (.agg (zSum.cl ++ [i64 4])) [] NoP := by
  have cH := headIn_fc p hp id hn
  unfold hiA at cH
  rw [hi] at cH
  dsimp only at cH
  simp only [zSum, Sy.cl, Ab.cl, List.cons_append, List.nil_append]
  refine FC.of_AW tok Tryz.func21 (by kernel_rfl) rfl Tryz.ntmps21 [] rfl rfl rfl ?_; intro w0 X0 Y f0 hI0 hX0
  (repeat (first | refine K4 ?_ | refine L1 ?_ | refine L2 ?_ | refine RG.d ?_ | refine S1 ?_ | refine S2 ?_))
  refine RG.call rfl rfl rfl rfl (cH) [] rfl rfl rfl rfl (.nil _) (.nil _) (fun _ h => False.elim h) rfl (A.ren_free _ _ rfl) rfl ?_
  (repeat (first | refine K4 ?_ | refine L3 ?_ | refine RG.d ?_ | refine S1 ?_ | refine S2 ?_ | refine S7 ?_))
  refine AW.sub (Sub.frzH (ks := []) (c' := zSum.cl ++ [i64 4]) 1 rfl List.not_mem_nil (by repeat (first | exact Frzs.nil | refine Frzs.cons (Frz.wk (Frz.refl _) Wk.nil) ?_ | refine Frzs.cons (Frz.refl _) ?_))) ?_
  refine S6 ?_
  exact ⟨⟨_, rfl, rfl⟩, rfl, .nil _⟩
end Go.Proofs.YtifeioddiddnoaaGreatDoor
