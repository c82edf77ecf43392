/- Joins of summaries: the law, for what came in. No conditions. -/
import Derived.Test.YtifeioddiddnoaaGreatDoorSl28
import Derived.Test.YtifeioddiddnoaaGreatDoorScJ
set_option linter.unusedVariables false
set_option linter.unusedSimpArgs false
namespace Go.Proofs.YtifeioddiddnoaaGreatDoor
open Go.Abs Go Go.RowKit
def orHas : Bool := (List.range 64).all fun j => (List.range 64).all fun k => (prOf (j ||| k)).all fun x => hasP (prOf j) x || hasP (prOf k) x
set_option maxRecDepth 100000 in
theorem orHas_true : orHas = true := by kernel_rfl
theorem has_or {j k : Nat} (hj : j < 64) (hk : k < 64) {x : Pr} (hx : x ∈ prOf (j ||| k)) : hasP (prOf j) x = true ∨ hasP (prOf k) x = true := by
  have h := orHas_true
  unfold orHas at h
  have := List.all_eq_true.1 (List.all_eq_true.1 (List.all_eq_true.1 h j (List.mem_range.2 hj)) k (List.mem_range.2 hk)) x hx
  rwa [Bool.or_eq_true] at this
theorem sites_self : ∀ l : List Pr, sitesB l l = true
  | [] => rfl
  | x :: l => by
    have h : sitesB (x :: l) (x :: l) = (decide (x.site = x.site) && sitesB l l) := rfl
    rw [h, sites_self l, decide_eq_true rfl]; rfl
theorem same_self (s : Sy) : sameB s s = true := by
  unfold sameB
  rw [sites_self, decide_eq_true rfl]; rfl
theorem one_leq {m n : Nm} (hm : m.ok) (x : Pr) : leqS (oneS m.sy x) (wideS n.sy) (leqB m.t (trAll 255)) = hasP (prOf n.k) x := by
  have e : leqS (oneS m.sy x) (wideS n.sy) (leqB m.t (trAll 255)) = ((hasP (prOf n.k) x && true) && (((((true && leqB m.t (trAll 255)) && inM 0 0) && inM 0 0) && inM 0 3) && true)) := rfl
  have e1 : inM 0 0 = true := by decide
  have e2 : inM 0 3 = true := by decide
  rw [e, leqB_all hm.t hm.m8, e1, e2]
  simp only [Bool.and_true]
theorem one_fc {m n : Nm} (hm : m.ok) (hn : n.ok) {x : Pr} (hx : x.bd) : FC Tryz.prog gs 12 [.agg (oneS m.sy x).cl, .agg (wideS n.sy).cl] [] (.val (.bool (hasP (prOf n.k) x))) [] NoP := by
  have l2 := prOf_len n.k
  have c := leq_fc (oneS m.sy x) (wideS n.sy) m.t (trAll 255) hm.t (trAll_bd 255 (by decide)) rfl rfl (by show 1 ≤ 1000; omega) (by show (prOf n.k).length ≤ 1000; omega) (fun y hy => by obtain rfl : y = x := List.mem_singleton.1 hy; exact hx) (prOf_bd _ hn.k)
  rw [one_leq hm x] at c
  exact lift c
theorem joiC (L : List Int) (hL : ∀ x, x ∈ L → 0 ≤ x ∧ x ≤ 255) (hl : L.length ≤ 9223372036854775807) (f g : Nat → Nat) (hf : ∀ i, f i ≤ 65535) (hg : ∀ i, g i ≤ 65535) :
    JoiC (.agg (.ro L.length (ints .u8 L) :: (n8 f ++ n8 g))) (gMade L) (nmF f).sy (nmF g).sy ((nmF f).join (nmF g)).sy := by
  have ok := gMade_ok L hL hl
  have hn := heads_len ok
  have h11 := head11 L
  have of := nmF_ok f hf
  have og := nmF_ok g hg
  have oab := Nm.join_ok of og
  have m := lift (lmade_fc L hL hl f g hf hg ok.dc)
  rw [pgC_cl ok.dc, syF_nm, syF_nm] at m
  have l1 : (prOf (nmF f).k).length ≤ 1000 := by have := prOf_len (nmF f).k; omega
  have l2 : (prOf ((nmF f).join (nmF g)).k).length ≤ 1000 := by have := prOf_len ((nmF f).join (nmF g)).k; omega
  have s1 := lift (same_fc ((nmF f).join (nmF g)).sy ((nmF f).join (nmF g)).sy l2 l2)
  have s2 := lift (same_fc (nmF f).sy (nmF f).sy l1 l1)
  rw [same_self] at s1 s2
  have jba := joinN_fc og of
  rw [Nm.join_comm] at jba
  have jaa := joinN_fc of of
  rw [Nm.join_self of] at jaa
  exact {
    ex := examples_fc
    made := m
    jab := joinN_fc of og
    jba := jba
    wa := wide_fc _
    wb := wide_fc _
    le := fun i x hx => ⟨_, _, one_fc of of (prOf_bd _ oab.k _ (List.mem_of_getElem? hx)), one_fc of og (prOf_bd _ oab.k _ (List.mem_of_getElem? hx)), has_or of.k og.k (List.mem_of_getElem? hx)⟩
    same := s1
    jaa := jaa
    saa := s2
    right := rightN_fc _ ok.dc hn oab h11
    len := l2
    eT := (or_nat (and_lt of.T (by decide)) (and_lt og.T (by decide))).symm
    eL := (or_nat (and_lt of.L (by decide)) (and_lt og.L (by decide))).symm
    eO := (and_nat (and_lt of.O (by decide)) (and_lt og.O (by decide))).symm
    eC := (max_int _ _).symm }
theorem summaryJoins_true (d0 : Dd) (v0 : Value) (W : World) (hG : gs.p W) (h0 : Dd.Ty Tryz.prog 28 d0) (r0 : V noPl (fun _ => False) W d0.aw v0) :
    Says 5 #[v0] W := by
  obtain ⟨L, f, g, e0, hl, hL, hf, hg⟩ := nums_open h0
  rw [e0] at r0
  exact FC.calls (joins_w _ _ f g _ _ _ _ (joiC L hL hl f g hf hg)) (vs := [v0]) hG (.cons r0 .nil)
end Go.Proofs.YtifeioddiddnoaaGreatDoor
