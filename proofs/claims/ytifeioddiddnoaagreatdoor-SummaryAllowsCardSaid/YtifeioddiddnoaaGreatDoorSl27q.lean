/- What summaries allow: the law, for what came in. No conditions. -/
import Derived.Test.YtifeioddiddnoaaGreatDoorSl27
import Derived.Test.YtifeioddiddnoaaGreatDoorScJ
set_option linter.unusedVariables false
set_option linter.unusedSimpArgs false
namespace Go.Proofs.YtifeioddiddnoaaGreatDoor
open Go.Abs Go Go.RowKit
theorem nf_m1 {t : Tr} (h : t.bd) : 1 ≤ (nf t).m := by
  have h1 := h.toOk.g; have h2 := h.toOk.z
  unfold nf
  split
  · exact Int.le_refl 1
  · rename_i e
    show 1 ≤ t.g
    have : ¬ t.g = 0 := fun k => e (h2.1 k)
    omega
theorem nf_lims {t : Tr} (h : t.bd) : -2147483648 ≤ (nf t).lo ∧ (nf t).hi ≤ 2147483647 := by
  rw [nf_lo, nf_hi]
  exact ⟨h.lo31, h.hi31⟩
theorem allowsN_fc {m : Nm} (h : m.ok) (v w t : Int) : FC Tryz.prog gs 13 [.agg m.sy.cl, .agg [i64 v, i64 w, i64 t]] [] (.val (.bool (allowsB m.sy v w t))) [] NoP :=
  lift (allows_fc m.sy v w t (nf_lims h.t) (nf_m1 h.t))
theorem wfi8 {z : Int} (h : (Lit.int .i8 z).wf = true) : -128 ≤ z ∧ z ≤ 127 := by
  have h' := (Lit.wf_int_iff _ _).1 h
  have e0 : IntKind.i8.min = -128 := by decide
  have e1 : IntKind.i8.max = 127 := by decide
  omega
theorem word_open {d : Dd} (h : Dd.Ty Tryz.prog 55 d) : ∃ v w : Int, d.aw = .agg [i64 v, i64 w] ∧ (-9223372036854775808 ≤ v ∧ v ≤ 9223372036854775807) ∧ (-9223372036854775808 ≤ w ∧ w ≤ 9223372036854775807) := by
  obtain ⟨l, rfl, g1, g2⟩ := h.st_inv Tryz.underlying55
  obtain ⟨x, y, rfl⟩ : ∃ x y, l = [x, y] := by
    match l, g1 with
    | [x, y], _ => exact ⟨x, y, rfl⟩
  have hx : Dd.Ty Tryz.prog 3 x := g2 0 _ x rfl rfl
  have hy : Dd.Ty Tryz.prog 3 y := g2 1 _ y rfl rfl
  obtain ⟨v, rfl, wv⟩ := hx.int_inv Tryz.underlying3
  obtain ⟨w, rfl, ww⟩ := hy.int_inv Tryz.underlying3
  exact ⟨v, w, rfl, wf64 wv, wf64 ww⟩
theorem topN_fc2 (p : Pg) (hp : p.dc = dcM) (hn : p.heads.length ≤ 1000) (hh : (headF p.heads 11).isSome = true) : FC Tryz.prog gs 39 [.agg (pgC p), i64 11] [] (.tup [.agg Nm.top.sy.cl, i64 0]) [] NoP := lift (top_fc p hp hn 11 hh)
theorem allC (L : List Int) (hL : ∀ x, x ∈ L → 0 ≤ x ∧ x ≤ 255) (hl : L.length ≤ 9223372036854775807) (f g : Nat → Nat) (hf : ∀ i, f i ≤ 65535) (hg : ∀ i, g i ≤ 65535) (v w th : Int) (hw : -9223372036854775808 ≤ w ∧ w ≤ 9223372036854775807) :
    AllC (.agg (.ro L.length (ints .u8 L) :: (n8 f ++ n8 g))) (gMade L) (nmF f).sy (nmF g).sy ((nmF f).join (nmF g)).sy Nm.top.sy v w th ((nmF f).leq (nmF g)) (allowsB (nmF f).sy v w th) (allowsB (nmF g).sy v w th) (allowsB ((nmF f).join (nmF g)).sy v w th) (allowsB Nm.top.sy v w th) (hasB (nmF f).sy.res v w) := by
  have ok := gMade_ok L hL hl
  have hn := heads_len ok
  have h11 := head11 L
  have of := nmF_ok f hf
  have og := nmF_ok g hg
  have oab := Nm.join_ok of og
  have m := lift (lmade_fc L hL hl f g hf hg ok.dc)
  rw [pgC_cl ok.dc, syF_nm, syF_nm] at m
  exact {
    ex := examples_fc
    made := m
    top := top14_fc _ _ _ _ (topN_fc2 _ ok.dc hn h11)
    lab := leqN_fc of og
    la := allowsN_fc of v w th
    lb := allowsN_fc og v w th
    jab := joinN_fc of og
    lj := allowsN_fc oab v w th
    lt := allowsN_fc Nm.top_ok v w th
    has := lift (shas_fc (nmF f).sy.res v w (nf_lims of.t) (nf_m1 of.t))
    f1 := fun h ha => allows_mono of og h ha
    f2 := fun h => allows_join of og h
    f3 := fun h => by unfold allowsB; rw [if_pos h]
    f4 := fun h => by rw [h]; exact allows_top0 hw
    f5 := fun h => allows_topT h }
theorem summaryAllows_true (d0 : Dd) (v0 : Value) (d1 : Dd) (v1 : Value) (d2 : Dd) (v2 : Value) (W : World) (hG : gs.p W) (h0 : Dd.Ty Tryz.prog 28 d0) (r0 : V noPl (fun _ => False) W d0.aw v0) (h1 : Dd.Ty Tryz.prog 55 d1) (r1 : V noPl (fun _ => False) W d1.aw v1) (h2 : Dd.Ty Tryz.prog 56 d2) (r2 : V noPl (fun _ => False) W d2.aw v2) :
    Says 4 #[v0, v1, v2] W := by
  obtain ⟨L, f, g, e0, hl, hL, hf, hg⟩ := nums_open h0
  obtain ⟨v, w, e1, hv, hw⟩ := word_open h1
  obtain ⟨th, rfl, wt⟩ := h2.int_inv Tryz.underlying56
  rw [e0] at r0
  rw [e1] at r1
  exact FC.calls (allows_w _ _ f g _ _ _ _ _ v w th _ _ _ _ _ _ (wfi8 wt) (allC L hL hl f g hf hg v w th hw)) (vs := [v0, v1, v2]) hG (.cons r0 (.cons r1 (.cons r2 .nil)))
end Go.Proofs.YtifeioddiddnoaaGreatDoor
