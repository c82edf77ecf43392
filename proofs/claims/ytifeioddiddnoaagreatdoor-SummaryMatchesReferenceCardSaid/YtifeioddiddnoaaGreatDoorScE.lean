/- Summaries that are right. No conditions. -/
import Derived.Test.YtifeioddiddnoaaGreatDoorScD
import Derived.Test.YtifeioddiddnoaaGreatDoorScC
import Derived.Test.YtifeioddiddnoaaGreatDoorAbsE
set_option linter.unusedVariables false
set_option linter.unusedSimpArgs false
namespace Go.Proofs.YtifeioddiddnoaaGreatDoor
open Go.Abs Go Go.RowKit
set_option maxRecDepth 20000
theorem headW_fc (p : Pg) (hp : p.dc = dcM) (id : Int) (hn : p.heads.length ≤ 1000) : ∃ (a b c : Int) (n1 n2 : Nat) (l1 l2 : List A), FC Tryz.prog ge 34 [.agg (pgC p), i64 id] [] (.tup [.agg [i64 a, i64 b, i64 c, .ro n1 l1, .ro n2 l2], .val (.bool (headF p.heads id).isSome)]) [] NoP := by
  have c := headOf_fc p id hn
  rw [pgC_cl hp] at c
  unfold headA at c
  cases h : headF p.heads id with
  | some y =>
    rw [h] at c
    exact ⟨_, _, _, _, _, _, _, c⟩
  | none =>
    rw [h] at c
    refine ⟨0, 0, 0, 0, 0, [], [], c.wkR ?_⟩
    intro f X w v hv
    simp only [V] at hv ⊢
    obtain ⟨vs, rfl, h1⟩ := hv
    refine ⟨vs, rfl, ?_⟩
    obtain ⟨v, u, rfl, h2, h3⟩ := VL2 h1
    refine .cons ?_ (.cons h3 .nil)
    refine Wk.agg (l := zHdA) (l' := [i64 0, i64 0, i64 0, .ro 0 [], .ro 0 []]) ?_ _ _ _ _ h2
    exact .cons (Wk.refl _) (.cons (Wk.refl _) (.cons (Wk.refl _) (.cons Wk.nil (.cons Wk.nil .nil))))
def prOkB (x : Pr) : Bool := ((decide (x.site = 0) && decide (x.a ≠ x.b)) && lockB x.a 3) && lockB x.b 3
def prGo (b : Bool) (x : Pr) (prev : Option Pr) : Bool := (b && prOkB x) && (match prev with | none => true | some y => decide (pcmp y x < 0))
def pairsB : Bool → Option Pr → List Pr → Bool
  | b, _, [] => b
  | b, prev, x :: l => pairsB (prGo b x prev) (some x) l
theorem pairsB_false : ∀ (l : List Pr) (prev : Option Pr), pairsB false prev l = false
  | [], _ => rfl
  | x :: l, prev => by rw [pairsB]; exact pairsB_false l _
theorem lockB_bd {x : Int} (h : lockB x 3 = true) : 0 ≤ x ∧ x < 3 := by
  unfold lockB at h
  rw [Bool.and_eq_true] at h
  exact ⟨of_decide_eq_true h.1, of_decide_eq_true h.2⟩
def frontB (is : Bool) (s : Sy) : Bool := ((((((is && validB s.res) && bitsB s.throws 4294967294) && bitsB s.locks 7) && bitsB s.loads 7) && decide (0 ≤ s.cost)) && decide (s.cost ≤ 1099511627776)) && decide ((s.pairs.length : Int) ≤ 56)
def rightB (l : List Hd) (s : Sy) : Bool := pairsB (frontB (headF l s.id).isSome s) none s.pairs
def eno (b : Bool) : Int := if b then 0 else 60
set_option maxHeartbeats 16000000 in
theorem right_fc (p : Pg) (hp : p.dc = dcM) (hn : p.heads.length ≤ 1000) (s : Sy) (hl : s.pairs.length ≤ 1000) : FC Tryz.prog ge 10 [.agg (pgC p), .agg s.cl] [] (i64 (eno (rightB p.heads s))) [] NoP := by
  obtain ⟨ha, hb, hc, n1, n2, l1, l2, cH⟩ := headW_fc p hp s.id hn
  have cV := svalid_fc s.res
  have cW := fun x m => within1_fc x m
  have cL := fun x => lock1_fc p x
  unfold rightB
  obtain ⟨is, his⟩ : ∃ is, is = (headF p.heads s.id).isSome := ⟨_, rfl⟩
  rw [← his] at cH ⊢
  obtain ⟨x1, x2, x7, x8, x9, l, x11⟩ := s
  obtain ⟨vb, hvb⟩ : ∃ vb, vb = validB x2 := ⟨_, rfl⟩
  obtain ⟨F, hF⟩ : ∃ F, F = frontB is ⟨x1, x2, x7, x8, x9, l, x11⟩ := ⟨_, rfl⟩
  rw [← hF]
  unfold frontB at hF
  dsimp only at cH cV hF hl his ⊢
  rw [← hvb] at cV hF
  clear his hvb
  obtain ⟨R, hR⟩ : ∃ R, R = pairsB F none l := ⟨_, rfl⟩
  rw [← hR]
  obtain ⟨b1, hb1⟩ : ∃ b, b = bitsB x7 4294967294 := ⟨_, rfl⟩
  obtain ⟨b2, hb2⟩ : ∃ b, b = bitsB x8 7 := ⟨_, rfl⟩
  obtain ⟨b3, hb3⟩ : ∃ b, b = bitsB x9 7 := ⟨_, rfl⟩
  have c1 := cW x7 4294967294
  have c2 := cW x8 7
  have c3 := cW x9 7
  rw [← hb1] at c1 hF
  rw [← hb2] at c2 hF
  rw [← hb3] at c3 hF
  clear cW hb1 hb2 hb3
  obtain ⟨v1, v2, v3, v4, v5⟩ := x2
  simp only [Sy.cl, Ab.cl] at cV ⊢
  refine FC.of_AW tok Tryz.func10 (by kernel_rfl) rfl Tryz.ntmps10 [] rfl rfl rfl ?_; intro w0 X0 Y f0 hI0 hX0
  refine S1 ?_; (repeat (first | refine K4 ?_ | refine L2 ?_ | refine RG.d ?_ | refine S2 ?_))
  refine S1 ?_
  (repeat (first | refine RG.call rfl rfl rfl rfl (cH) [] rfl rfl rfl rfl (.nil _) (.nil _) (fun _ h => False.elim h) rfl (A.ren_free _ _ rfl) rfl ?_ | refine K4 ?_ | refine L1 ?_ | refine L2 ?_ | refine L3 ?_ | refine RG.d ?_ | refine S2 ?_))
  refine S1 ?_; (repeat (first | refine K4 ?_ | refine RG.d ?_ | refine S2 ?_)); refine S1 ?_; (repeat (first | refine K4 ?_ | refine RG.d ?_ | refine S2 ?_))
  refine AW.seqB 9 (fun b => b = F) ?_ ?_
  · refine S2 ?_
    iterate 2 ((first | refine K4 ?_))
    (repeat (first | refine RG.call rfl rfl rfl rfl (cV) [] rfl rfl rfl rfl (.nil _) (.nil _) (fun _ h => False.elim h) rfl (A.ren_free _ _ rfl) rfl ?_))
    refine RG.splitB 21 rfl (fun h21 => ?_) (fun h21 => ?_)
    rotate_left
    · (repeat (first | refine K1 ?_ | refine K4 ?_ | refine RG.dd ?_))
      exact ⟨false, by rw [hF, h21]; simp only [Bool.and_false, Bool.false_and], Sub.of (SubE.put rfl (by repeat (first | with_reducible exact SubE.refl _ | refine SubE.over rfl ?_))) (by first | exact SubH.refl _ | (refine SubH.same rfl ?_; exact SubH.refl _) | (refine SubH.same rfl ?_; refine SubH.same rfl ?_; exact SubH.refl _)) rfl⟩
    (repeat (first | refine RG.call rfl rfl rfl rfl (cV) [] rfl rfl rfl rfl (.nil _) (.nil _) (fun _ h => False.elim h) rfl (A.ren_free _ _ rfl) rfl ?_ | refine K4 ?_ | refine L1 ?_))
    refine RG.splitB 26 rfl (fun h26 => ?_) (fun h26 => ?_)
    rotate_left
    · (repeat (first | refine K1 ?_ | refine K4 ?_ | refine RG.dd ?_))
      exact ⟨false, by rw [hF, h26]; simp only [Bool.and_false, Bool.false_and], Sub.of (SubE.put rfl (by repeat (first | with_reducible exact SubE.refl _ | refine SubE.over rfl ?_))) (by first | exact SubH.refl _ | (refine SubH.same rfl ?_; exact SubH.refl _) | (refine SubH.same rfl ?_; refine SubH.same rfl ?_; exact SubH.refl _)) rfl⟩
    (repeat (first | refine RG.call rfl rfl rfl rfl (c1) [] rfl rfl rfl rfl (.nil _) (.nil _) (fun _ h => False.elim h) rfl (A.ren_free _ _ rfl) rfl ?_ | refine K4 ?_ | refine L1 ?_))
    refine RG.splitB 32 rfl (fun h32 => ?_) (fun h32 => ?_)
    rotate_left
    · (repeat (first | refine K1 ?_ | refine K4 ?_ | refine RG.dd ?_))
      exact ⟨false, by rw [hF, h32]; simp only [Bool.and_false, Bool.false_and], Sub.of (SubE.put rfl (by repeat (first | with_reducible exact SubE.refl _ | refine SubE.over rfl ?_))) (by first | exact SubH.refl _ | (refine SubH.same rfl ?_; exact SubH.refl _) | (refine SubH.same rfl ?_; refine SubH.same rfl ?_; exact SubH.refl _)) rfl⟩
    (repeat (first | refine RG.call rfl rfl rfl rfl (c2) [] rfl rfl rfl rfl (.nil _) (.nil _) (fun _ h => False.elim h) rfl (A.ren_free _ _ rfl) rfl ?_ | refine K4 ?_ | refine K5 ?_ | refine L1 ?_))
    refine RG.splitB 43 rfl (fun h43 => ?_) (fun h43 => ?_)
    rotate_left
    · (repeat (first | refine K1 ?_ | refine K4 ?_ | refine RG.dd ?_))
      exact ⟨false, by rw [hF, h43]; simp only [Bool.and_false, Bool.false_and], Sub.of (SubE.put rfl (by repeat (first | with_reducible exact SubE.refl _ | refine SubE.over rfl ?_))) (by first | exact SubH.refl _ | (refine SubH.same rfl ?_; exact SubH.refl _) | (refine SubH.same rfl ?_; refine SubH.same rfl ?_; exact SubH.refl _)) rfl⟩
    (repeat (first | refine RG.call rfl rfl rfl rfl (c3) [] rfl rfl rfl rfl (.nil _) (.nil _) (fun _ h => False.elim h) rfl (A.ren_free _ _ rfl) rfl ?_ | refine K4 ?_ | refine K5 ?_ | refine L1 ?_))
    refine RG.splitB 54 rfl (fun h54 => ?_) (fun h54 => ?_)
    rotate_left
    · (repeat (first | refine K1 ?_ | refine K4 ?_ | refine RG.dd ?_))
      exact ⟨false, by rw [hF, h54]; simp only [Bool.and_false, Bool.false_and], Sub.of (SubE.put rfl (by repeat (first | with_reducible exact SubE.refl _ | refine SubE.over rfl ?_))) (by first | exact SubH.refl _ | (refine SubH.same rfl ?_; exact SubH.refl _) | (refine SubH.same rfl ?_; refine SubH.same rfl ?_; exact SubH.refl _)) rfl⟩
    (repeat (first | refine K4 ?_ | refine L1 ?_))
    refine RG.splitB 59 rfl (fun h59 => ?_) (fun h59 => ?_)
    rotate_left
    · (repeat (first | refine K1 ?_ | refine K4 ?_ | refine RG.dd ?_))
      exact ⟨false, by rw [hF, h59]; simp only [Bool.and_false, Bool.false_and], Sub.of (SubE.put rfl (by repeat (first | with_reducible exact SubE.refl _ | refine SubE.over rfl ?_))) (by first | exact SubH.refl _ | (refine SubH.same rfl ?_; exact SubH.refl _) | (refine SubH.same rfl ?_; refine SubH.same rfl ?_; exact SubH.refl _)) rfl⟩
    (repeat (first | refine K4 ?_ | refine L1 ?_))
    refine RG.splitB 64 rfl (fun h64 => ?_) (fun h64 => ?_)
    rotate_left
    · (repeat (first | refine K1 ?_ | refine K4 ?_ | refine RG.dd ?_))
      exact ⟨false, by rw [hF, h64]; simp only [Bool.and_false, Bool.false_and], Sub.of (SubE.put rfl (by repeat (first | with_reducible exact SubE.refl _ | refine SubE.over rfl ?_))) (by first | exact SubH.refl _ | (refine SubH.same rfl ?_; exact SubH.refl _) | (refine SubH.same rfl ?_; refine SubH.same rfl ?_; exact SubH.refl _)) rfl⟩
    (repeat (first | refine K4 ?_ | refine L1 ?_ | refine RG.dd ?_))
    exact ⟨_, by rw [hF]; simp_all, Sub.of (SubE.put rfl (by repeat (first | with_reducible exact SubE.refl _ | refine SubE.over rfl ?_))) (by first | exact SubH.refl _ | (refine SubH.same rfl ?_; exact SubH.refl _) | (refine SubH.same rfl ?_; refine SubH.same rfl ?_; exact SubH.refl _)) rfl⟩
  intro b0 hb0
  subst hb0
  refine S1 ?_; (repeat (first | refine K1 ?_))
  clear cH cV c1 c2 c3 hF
  (repeat (first | refine K4 ?_ | refine L1 ?_ | refine RG.d ?_ | refine S1 ?_ | refine S2 ?_ | refine S4 ?_))
  refine AW.loopS (fun q : Nat × Bool × Option Pr => ⟨put 2 (some (.ptr 0 [] 0)) (put 3 (some (.ptr 1 [] 0)) (put 8 (some (.fn 36 [] [.ptr 0 [] 0])) (put 9 (some (.val (.bool q.2.1))) (put 71 (some (rdP l)) (put 72 (some (i64 (l.length : Int))) (put 73 (some (i64 (q.1 : Int))) noE)))))), hput 0 (.one (pgC p)) (hput 1 (.one ([i64 x1, i64 v1, i64 v2, i64 v3, i64 v4, i64 v5, i64 x7, i64 x8, i64 x9, rdP l, i64 x11])) noH), 2⟩) (fun q => q.1 ≤ l.length ∧ R = pairsB q.2.1 q.2.2 (l.drop q.1) ∧ q.2.2 = (match q.1 with | 0 => none | j + 1 => l[j]?) ∧ (q.2.1 = true → ∀ y, q.2.2 = some y → y.bd)) (fun q => l.length - q.1) (0, b0, none) ⟨Nat.zero_le _, hR, rfl, fun _ _ h => by cases h⟩ (Sub.down (by repeat (first | exact SubE.no _ | refine SubE.put rfl ?_)) (by repeat (first | exact SubH.no _ | refine SubH.put rfl ?_)) (by repeat (first | exact LtE.no _ | refine LtE.put rfl ?_)) (by repeat (first | exact LtH.no _ | refine LtH.put rfl rfl ?_)) rfl) ?_
  rintro ⟨i, b, prev⟩ ⟨hi, h1, hp1, hbd⟩
  dsimp only at hi h1 hp1 hbd ⊢
  (repeat (first | refine K4 ?_ | refine RG.d ?_ | refine S1 ?_ | refine S2 ?_))
  refine AW.condD rfl (fun k => ?_) (fun k => ?_)
  rotate_left
  · have k : ¬ (i : Int) < (l.length : Int) := k
    rw [List.drop_eq_nil_of_le (by omega)] at h1
    have h1 : R = b := h1
    subst h1
    (repeat (first | refine K4 ?_ | refine RG.d ?_ | refine S1 ?_ | refine S2 ?_ | refine S5 ?_))
    refine AW.cond rfl (fun k2 => ?_) (fun k2 => ?_)
    · have k2 : R = false := by simpa using k2
      subst k2
      (repeat (first | refine K4 ?_ | refine RG.d ?_ | refine S1 ?_ | refine S2 ?_ | refine S6 ?_))
      exact ⟨⟨_, rfl, rfl⟩, rfl, .nil _⟩
    · have k2 : R = true := by simpa using k2
      subst k2
      (repeat (first | refine K4 ?_ | refine RG.d ?_ | refine S1 ?_ | refine S2 ?_ | refine S3 ?_ | refine S6 ?_))
      exact ⟨⟨_, rfl, rfl⟩, rfl, .nil _⟩
  have k : (i : Int) < (l.length : Int) := k
  obtain ⟨x, hx⟩ : ∃ y, l[i]? = some y := ⟨_, List.getElem?_eq_getElem (by omega)⟩
  have hat := flC_at Pr.cl_len l i x hx
  rw [drop_cons hx, pairsB] at h1
  obtain ⟨y1, y2, y3⟩ := x
  simp only [Pr.cl, List.cons_append, List.nil_append] at hat
  have ca := cL y1
  have cb := cL y2
  obtain ⟨G, hG⟩ : ∃ G, G = prGo b ⟨y1, y2, y3⟩ prev := ⟨_, rfl⟩
  rw [← hG] at h1
  unfold prGo prOkB at hG
  dsimp only at hG
  refine S3 ?_
  repeat (first | refine S1 ?_ | refine S4 ?_)
  refine S2 ?_
  (first | refine K4 ?_)
  refine RG.idx tok rfl rfl rfl rfl rfl rfl hat ⟨by omega, by omega⟩ rfl ?_
  (repeat (first | refine K4 ?_ | refine L1 ?_ | refine L2 ?_ | refine L3 ?_ | refine RG.d ?_ | refine S2 ?_))
  (repeat (first | refine K1 ?_))
  refine RG.splitB 79 rfl (fun h79 => ?_) (fun h79 => ?_)
  rotate_left
  · (repeat (first | refine K1 ?_ | refine K2 ?_ | refine K4 ?_ | refine RG.d ?_ | refine RG.dd ?_ | refine S2 ?_))
    (repeat (first | refine K1 ?_))
    exact ⟨(i + 1, false, some ⟨y1, y2, y3⟩), ⟨by show i + 1 ≤ l.length; omega, by rw [h1, hG, h79]; simp only [Bool.and_false, Bool.false_and], hx.symm, fun e => by cases e⟩, by show l.length - (i + 1) < l.length - i; omega, Sub.down (by repeat (first | exact SubE.no _ | refine SubE.put rfl ?_)) (by repeat (first | exact SubH.no _ | refine SubH.put rfl ?_)) (by repeat (first | exact LtE.no _ | refine LtE.put rfl ?_)) (by repeat (first | exact LtH.no _ | refine LtH.put rfl rfl ?_)) rfl⟩
  (repeat (first | refine K4 ?_ | refine L1 ?_))
  refine RG.splitB 84 rfl (fun h84 => ?_) (fun h84 => ?_)
  rotate_left
  · (repeat (first | refine K1 ?_ | refine K2 ?_ | refine K4 ?_ | refine RG.d ?_ | refine RG.dd ?_ | refine S2 ?_))
    (repeat (first | refine K1 ?_))
    exact ⟨(i + 1, false, some ⟨y1, y2, y3⟩), ⟨by show i + 1 ≤ l.length; omega, by rw [h1, hG, h84]; simp only [Bool.and_false, Bool.false_and], hx.symm, fun e => by cases e⟩, by show l.length - (i + 1) < l.length - i; omega, Sub.down (by repeat (first | exact SubE.no _ | refine SubE.put rfl ?_)) (by repeat (first | exact SubH.no _ | refine SubH.put rfl ?_)) (by repeat (first | exact LtE.no _ | refine LtE.put rfl ?_)) (by repeat (first | exact LtH.no _ | refine LtH.put rfl rfl ?_)) rfl⟩
  (repeat (first | refine K4 ?_ | refine L1 ?_))
  refine RG.splitB 91 rfl (fun h91 => ?_) (fun h91 => ?_)
  rotate_left
  · (repeat (first | refine K1 ?_ | refine K2 ?_ | refine K4 ?_ | refine RG.d ?_ | refine RG.dd ?_ | refine S2 ?_))
    (repeat (first | refine K1 ?_))
    exact ⟨(i + 1, false, some ⟨y1, y2, y3⟩), ⟨by show i + 1 ≤ l.length; omega, by rw [h1, hG, h91]; simp only [Bool.and_false, Bool.false_and], hx.symm, fun e => by cases e⟩, by show l.length - (i + 1) < l.length - i; omega, Sub.down (by repeat (first | exact SubE.no _ | refine SubE.put rfl ?_)) (by repeat (first | exact SubH.no _ | refine SubH.put rfl ?_)) (by repeat (first | exact LtE.no _ | refine LtE.put rfl ?_)) (by repeat (first | exact LtH.no _ | refine LtH.put rfl rfl ?_)) rfl⟩
  (repeat (first | refine RG.call rfl rfl rfl rfl (ca) [0] rfl rfl rfl rfl (.cons rfl (.one rfl) (Reg.lt_one rfl) ⟨[], _, rfl⟩ (.nil _)) (.cons (.one rfl) (.nil _)) (fun _ h => by first | exact h | exact False.elim h) rfl rfl rfl ?_ | refine K4 ?_ | refine L1 ?_))
  refine RG.splitB 97 rfl (fun h97 => ?_) (fun h97 => ?_)
  rotate_left
  · (repeat (first | refine K1 ?_ | refine K2 ?_ | refine K4 ?_ | refine RG.d ?_ | refine RG.dd ?_ | refine S2 ?_))
    exact ⟨(i + 1, false, some ⟨y1, y2, y3⟩), ⟨by show i + 1 ≤ l.length; omega, by rw [h1, hG, h97]; simp only [Bool.and_false, Bool.false_and], hx.symm, fun e => by cases e⟩, by show l.length - (i + 1) < l.length - i; omega, Sub.down (by repeat (first | exact SubE.no _ | refine SubE.put rfl ?_)) (by repeat (first | exact SubH.no _ | refine SubH.put rfl ?_)) (by repeat (first | exact LtE.no _ | refine LtE.put rfl ?_)) (by repeat (first | exact LtH.no _ | refine LtH.put rfl rfl ?_)) rfl⟩
  (repeat (first | refine RG.call rfl rfl rfl rfl (cb) [0] rfl rfl rfl rfl (.cons rfl (.one rfl) (Reg.lt_one rfl) ⟨[], _, rfl⟩ (.nil _)) (.cons (.one rfl) (.nil _)) (fun _ h => by first | exact h | exact False.elim h) rfl rfl rfl ?_ | refine K4 ?_ | refine L1 ?_))
  refine RG.splitB 103 rfl (fun h103 => ?_) (fun h103 => ?_)
  rotate_left
  · (repeat (first | refine K1 ?_ | refine K2 ?_ | refine K4 ?_ | refine RG.d ?_ | refine RG.dd ?_ | refine S2 ?_))
    exact ⟨(i + 1, false, some ⟨y1, y2, y3⟩), ⟨by show i + 1 ≤ l.length; omega, by rw [h1, hG, h103]; simp only [Bool.and_false, Bool.false_and], hx.symm, fun e => by cases e⟩, by show l.length - (i + 1) < l.length - i; omega, Sub.down (by repeat (first | exact SubE.no _ | refine SubE.put rfl ?_)) (by repeat (first | exact SubH.no _ | refine SubH.put rfl ?_)) (by repeat (first | exact LtE.no _ | refine LtE.put rfl ?_)) (by repeat (first | exact LtH.no _ | refine LtH.put rfl rfl ?_)) rfl⟩
  subst h79
  have hxb : (⟨y1, y2, y3⟩ : Pr).bd := by
    have := lockB_bd h97
    have := lockB_bd h103
    exact ⟨by dsimp only; omega, by dsimp only; omega, by dsimp only; omega, by dsimp only; omega⟩
  rw [h84, h91, h97, h103] at hG
  simp only [Bool.and_self, Bool.true_and] at hG
  (repeat (first | refine K4 ?_))
  cases i with
  | zero =>
    subst hp1
    refine RG.put 106 rfl (v' := .val (.bool true)) (by rw [decide_eq_true (show ((0 : Nat) : Int) = 0 from rfl)]) ?_
    (repeat (first | refine K1 ?_ | refine K2 ?_ | refine K4 ?_ | refine RG.d ?_ | refine RG.dd ?_ | refine S2 ?_))
    exact ⟨(0 + 1, true, some ⟨y1, y2, y3⟩), ⟨by show 0 + 1 ≤ l.length; omega, by rw [h1, hG], hx.symm, fun _ y e => by cases e; exact hxb⟩, by show l.length - (0 + 1) < l.length - 0; omega, Sub.down (by repeat (first | exact SubE.no _ | refine SubE.put rfl ?_)) (by repeat (first | exact SubH.no _ | refine SubH.put rfl ?_)) (by repeat (first | exact LtE.no _ | refine LtE.put rfl ?_)) (by repeat (first | exact LtH.no _ | refine LtH.put rfl rfl ?_)) rfl⟩
  | succ j =>
    obtain ⟨z, hz⟩ : ∃ y, l[j]? = some y := ⟨_, List.getElem?_eq_getElem (by omega)⟩
    have hp1 : prev = l[j]? := hp1
    rw [hz] at hp1
    subst hp1
    have hzb := hbd rfl z rfl
    have co := order_fc z ⟨y1, y2, y3⟩ hzb hxb
    have hatz := flC_at Pr.cl_len l j z hz
    dsimp only at hG
    obtain ⟨cc, hcc⟩ : ∃ c, c = pcmp z ⟨y1, y2, y3⟩ := ⟨_, rfl⟩
    rw [← hcc] at co hG
    obtain ⟨z1, z2, z3⟩ := z
    simp only [Pr.cl, List.cons_append, List.nil_append] at hatz co
    refine RG.put 106 rfl (v' := .val (.bool false)) (by rw [decide_eq_false (show ¬ ((j + 1 : Nat) : Int) = 0 by omega)]) ?_
    (repeat (first | refine K2 ?_ | refine K4 ?_ | refine L1 ?_))
    refine RG.put 110 rfl (v' := i64 (j : Int)) (by rw [show ((j + 1 : Nat) : Int) - 1 = (j : Int) by omega]) ?_
    refine RG.idx tok rfl rfl rfl rfl rfl rfl hatz ⟨by omega, by omega⟩ rfl ?_
    (repeat (first | refine RG.call rfl rfl rfl rfl (co) [] rfl rfl rfl rfl (.nil _) (.nil _) (fun _ h => False.elim h) rfl (A.ren_free _ _ rfl) rfl ?_ | refine K2 ?_ | refine K4 ?_ | refine L1 ?_ | refine RG.d ?_ | refine RG.dd ?_ | refine S2 ?_))
    exact ⟨(j + 1 + 1, decide (cc < 0), some ⟨y1, y2, y3⟩), ⟨by show j + 1 + 1 ≤ l.length; omega, by rw [h1, hG], hx.symm, fun _ y e => by cases e; exact hxb⟩, by show l.length - (j + 1 + 1) < l.length - (j + 1); omega, Sub.down (by repeat (first | exact SubE.no _ | refine SubE.put rfl ?_)) (by repeat (first | exact SubH.no _ | refine SubH.put rfl ?_)) (by repeat (first | exact LtE.no _ | refine LtE.put rfl ?_)) (by repeat (first | exact LtH.no _ | refine LtH.put rfl rfl ?_)) rfl⟩
end Go.Proofs.YtifeioddiddnoaaGreatDoor
