/- Summaries that are not right: the law, for what came in. No conditions. -/
import Derived.Test.YtifeioddiddnoaaGreatDoorSl29
import Derived.Test.YtifeioddiddnoaaGreatDoorScJ
set_option linter.unusedVariables false
set_option linter.unusedSimpArgs false
namespace Go.Proofs.YtifeioddiddnoaaGreatDoor
open Go.Abs Go Go.RowKit
theorem head99 {L : List Int} (ok : PgOk (gMade L)) : headF (gMade L).heads 99 = none := by
  obtain ⟨n, h⟩ := gMade_ids L
  have hn : 1 + n ≤ 4 := by
    have h1 := congrArg List.length h
    rw [List.length_map, List.length_map, List.length_range', ok.hs, List.length_map] at h1
    have := ok.n
    omega
  unfold headF
  rw [List.find?_eq_none]
  intro x hx hh
  have hx2 : x.id ∈ (gMade L).heads.map Hd.id := List.mem_map_of_mem hx
  rw [h, List.mem_map] at hx2
  obtain ⟨j, hj, e⟩ := hx2
  rw [List.mem_range'] at hj
  obtain ⟨i, hi, rfl⟩ := hj
  have hh : x.id = 99 := by simpa using hh
  omega
theorem refC (L : List Int) (hL : ∀ x, x ∈ L → 0 ≤ x ∧ x ≤ 255) (hl : L.length ≤ 9223372036854775807) (f g : Nat → Nat) (hf : ∀ i, f i ≤ 65535) (hg : ∀ i, g i ≤ 65535) :
    RefC (.agg (.ro L.length (ints .u8 L) :: (n8 f ++ n8 g))) (gMade L) (nmF f).sy (nmF g).sy := by
  have ok := gMade_ok L hL hl
  have hn := heads_len ok
  have h11 := head11 L
  have h99 := head99 ok
  have of := nmF_ok f hf
  have m := lift (lmade_fc L hL hl f g hf hg ok.dc)
  rw [pgC_cl ok.dc, syF_nm, syF_nm] at m
  have hp := prOf_len (nmF f).k
  have l1 : ∀ n, (badS (nmF f).sy n).pairs.length ≤ 1000 := by
    intro n
    have e : (nmF f).sy.pairs = prOf (nmF f).k := rfl
    unfold badS
    split <;> first | (show (prOf (nmF f).k).length ≤ 1000; omega) | (show (prOf (nmF f).k ++ [_]).length ≤ 1000; rw [List.length_append]; simp only [List.length_cons, List.length_nil]; omega) | (show (twP (prOf (nmF f).k)).length ≤ 1000; unfold twP; split <;> simp only [List.length_append, List.length_cons, List.length_nil] <;> omega)
  exact {
    ex := examples_fc
    made := m
    right := rightN_fc _ ok.dc hn of h11
    bad := fun n => by
      have c := right_fc (gMade L) ok.dc hn (badS (nmF f).sy n) (l1 n)
      rw [bad_not of _ h99 n] at c
      exact lift c
    top := top14_fc _ _ _ _ (lift (topN_fc (gMade L) ok.dc hn 99 h99))
    len := hp }
theorem summaryRefuses_true (d0 : Dd) (v0 : Value) (d1 : Dd) (v1 : Value) (W : World) (hG : gs.p W) (h0 : Dd.Ty Tryz.prog 28 d0) (r0 : V noPl (fun _ => False) W d0.aw v0) (h1 : Dd.Ty Tryz.prog 5 d1) (r1 : V noPl (fun _ => False) W d1.aw v1) :
    Says 3 #[v0, v1] W := by
  obtain ⟨L, f, g, e0, hl, hL, hf, hg⟩ := nums_open h0
  obtain ⟨k, rfl, wk⟩ := h1.int_inv Tryz.underlying5
  rw [e0] at r0
  exact FC.calls (refuses_w _ _ f g _ _ _ k (wf8 wk) (refC L hL hl f g hf hg)) (vs := [v0, v1]) hG (.cons r0 (.cons r1 .nil))
end Go.Proofs.YtifeioddiddnoaaGreatDoor
