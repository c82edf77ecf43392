/- The order of summaries: the law, for what came in. No conditions. -/
import Derived.Test.YtifeioddiddnoaaGreatDoorSl26
import Derived.Test.YtifeioddiddnoaaGreatDoorScJ
set_option linter.unusedVariables false
set_option linter.unusedSimpArgs false
namespace Go.Proofs.YtifeioddiddnoaaGreatDoor
open Go.Abs Go Go.RowKit
theorem topN_fc' (p : Pg) (hp : p.dc = dcM) (hn : p.heads.length ≤ 1000) (hh : (headF p.heads 11).isSome = true) : FC Tryz.prog gs 39 [.agg (pgC p), i64 11] [] (.tup [.agg Nm.top.sy.cl, i64 0]) [] NoP := lift (top_fc p hp hn 11 hh)
theorem ordC (L : List Int) (hL : ∀ x, x ∈ L → 0 ≤ x ∧ x ≤ 255) (hl : L.length ≤ 9223372036854775807) (f g h : Nat → Nat) (hf : ∀ i, f i ≤ 65535) (hg : ∀ i, g i ≤ 65535) (hh : ∀ i, h i ≤ 65535) :
    OrdC (.agg (.ro L.length (ints .u8 L) :: (n8 f ++ n8 g))) (.agg (n8 h)) (gMade L) (nmF f).sy (nmF g).sy (nmF h).sy ((nmF f).join (nmF g)).sy (((nmF f).join (nmF g)).join (nmF h)).sy Nm.top.sy ((nmF f).leq (nmF g)) ((nmF g).leq (nmF f)) (leqB (nmF f).t (nmF g).t) := by
  have ok := gMade_ok L hL hl
  have hn := heads_len ok
  have h11 := head11 L
  have of := nmF_ok f hf
  have og := nmF_ok g hg
  have oh := nmF_ok h hh
  have oab := Nm.join_ok of og
  have oabc := Nm.join_ok oab oh
  have m := lift (lmade_fc L hL hl f g hf hg ok.dc)
  rw [pgC_cl ok.dc, syF_nm, syF_nm] at m
  have sm := lift (someF_fc (gMade L) ok.dc 11 h hh)
  rw [pgC_cl ok.dc, syF_nm] at sm
  have lb := fun {x y : Nm} (hx : x.ok) (hy : y.ok) {b : Bool} (e : x.leq y = b) => e ▸ leqN_fc hx hy
  exact {
    ex := examples_fc
    made := m
    jab := joinN_fc of og
    some := sm
    jabc := joinN_fc oab oh
    top := top14_fc _ _ _ _ (topN_fc' _ ok.dc hn h11)
    right := rightN_fc _ ok.dc hn Nm.top_ok h11
    aa := lb of of (Nm.leq_self of)
    at_ := lb of Nm.top_ok (Nm.leq_top of)
    abct := lb oabc Nm.top_ok (Nm.leq_top oabc)
    ta := lb Nm.top_ok of (Nm.leq_top_not (hf 6))
    lab := leqN_fc of og
    lba := leqN_fc og of
    sp := lift (sleq_fc _ _ of.t og.t)
    eq := fun hu hv => by
      obtain ⟨a1, a2, a3, a4, a5, a6⟩ := Nm.leq_iff.1 hu
      obtain ⟨b1, b2, b3, b4, b5, b6⟩ := Nm.leq_iff.1 hv
      refine ⟨a2, ?_, ?_, ?_, ?_, ?_⟩
      · show (((nmF f).T : Nat) : Int) = ((nmF g).T : Nat); rw [subN_antisymm a3 b3]
      · show (((nmF f).L : Nat) : Int) = ((nmF g).L : Nat); rw [subN_antisymm a4 b4]
      · show (((nmF f).O : Nat) : Int) = ((nmF g).O : Nat); rw [subN_antisymm b5 a5]
      · show (((nmF f).c : Nat) : Int) = ((nmF g).c : Nat); omega
      · show (prOf (nmF f).k).length = (prOf (nmF g).k).length; rw [subN_antisymm a1 b1]
    l1 := lb of oab (Nm.leq_join of _)
    l2 := lb oab oabc (Nm.leq_join oab _)
    l3 := lb of oabc (by rw [Nm.join_assoc]; exact Nm.leq_join of _) }
theorem summaryOrder_true (d0 : Dd) (v0 : Value) (d1 : Dd) (v1 : Value) (W : World) (hG : gs.p W) (h0 : Dd.Ty Tryz.prog 28 d0) (r0 : V noPl (fun _ => False) W d0.aw v0) (h1 : Dd.Ty Tryz.prog 26 d1) (r1 : V noPl (fun _ => False) W d1.aw v1) :
    Says 6 #[v0, v1] W := by
  obtain ⟨L, f, g, e0, hl, hL, hf, hg⟩ := nums_open h0
  obtain ⟨h, -, e1, hh⟩ := n8_open h1
  rw [e0] at r0
  rw [e1] at r1
  exact FC.calls (order_w _ _ f g h _ _ _ _ _ _ _ _ _ _ (ordC L hL hl f g h hf hg hh)) (vs := [v0, v1]) hG (.cons r0 (.cons r1 .nil))
end Go.Proofs.YtifeioddiddnoaaGreatDoor
