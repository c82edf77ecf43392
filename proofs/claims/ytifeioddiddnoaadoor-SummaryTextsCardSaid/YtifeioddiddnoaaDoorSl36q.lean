/- Texts of summaries: the law, for what came in. No conditions. -/
import Derived.Test.YtifeioddiddnoaaDoorSl36
set_option linter.unusedVariables false
set_option linter.unusedSimpArgs false
namespace Go.Proofs.YtifeioddiddnoaaDoor
open Go.Abs Go Go.RowKit
theorem txtC (L : List Int) (hL : ∀ x, x ∈ L → 0 ≤ x ∧ x ≤ 255) (hl : L.length ≤ 9223372036854775807) (f g : Nat → Nat) (hf : ∀ i, f i ≤ 65535) (hg : ∀ i, g i ≤ 65535) (odd : BA) (ho : odd.size ≤ 9223372036854775807) :
    TxtC (.agg (.ro L.length (ints .u8 L) :: (n8 f ++ n8 g))) (gMade L) (nmF f).sy (nmF g).sy (rdS odd).1 (txB (nmF f).sy) (txB (nmF g).sy) odd (sameB (nmF f).sy (nmF g).sy) (rdS odd).2 (Dg.words (nmF f).sy.w) := by
  have ok := gMade_ok L hL hl
  have of := nmF_ok f hf
  have og := nmF_ok g hg
  have m := lift (lmade_fc L hL hl f g hf hg ok.dc)
  rw [pgC_cl ok.dc, syF_nm, syF_nm] at m
  have l1 : (prOf (nmF f).k).length ≤ 1000 := by have := prOf_len (nmF f).k; omega
  have l2 : (prOf (nmF g).k).length ≤ 1000 := by have := prOf_len (nmF g).k; omega
  have s1 := lift (same_fc (nmF f).sy (nmF f).sy l1 l1)
  have s2 := lift (same_fc (nmF f).sy (nmF g).sy l1 l2)
  rw [same_refl] at s1
  have ga := nm_good of
  have gb := nm_good og
  have pa := parse14_fc (txB (nmF f).sy) (by have := ga.size; omega)
  rw [rdS_of ga] at pa
  exact {
    ex := examples_fc
    made := m
    ta := text_fc _ (nm_rng of)
    pa := pa
    saa := s1
    tb := text_fc _ (nm_rng og)
    sab := s2
    eq := (same_text ga gb).symm
    da := lift (digest_fc _ l1)
    db := fun h => by
      have c := lift (digest_fc (nmF g).sy l2)
      rw [← same_words h] at c
      exact c
    py := parse14_fc odd ho
    ty := by
      by_cases h : ∃ S, Good S odd
      · obtain ⟨S, hS⟩ := h
        rw [rdS_of hS]
        refine .inl ⟨rfl, ?_⟩
        have c := text_fc S hS.rng
        rw [hS.text] at c
        exact c
      · rw [rdS_no (fun S hS => h ⟨S, hS⟩)]
        exact .inr ⟨rfl, rfl⟩ }
theorem summaryTexts_true (d0 : Dd) (v0 : Value) (d1 : Dd) (v1 : Value) (d2 : Dd) (v2 : Value) (W : World) (hG : gs.p W) (h0 : Dd.Ty Tryd.prog 28 d0) (r0 : V noPl (fun _ => False) W d0.aw v0) (h1 : Dd.Ty Tryd.prog 25 d1) (r1 : V noPl (fun _ => False) W d1.aw v1) (h2 : Dd.Ty Tryd.prog 5 d2) (r2 : V noPl (fun _ => False) W d2.aw v2) :
    Says 3 #[v0, v1, v2] W := by
  obtain ⟨L, f, g, e0, hl, hL, hf, hg⟩ := nums_open h0
  rw [e0] at r0
  obtain ⟨k, rfl, w1⟩ := h1.int_inv Tryd.underlying25
  obtain ⟨k1, rfl, b1⟩ := wf16 w1
  obtain ⟨c, rfl, w2⟩ := h2.int_inv Tryd.underlying5
  have b2 := wf8 w2
  obtain ⟨c1, rfl⟩ : ∃ n : Nat, c = n := ⟨c.toNat, by omega⟩
  have ga := nm_good (nmF_ok f hf)
  have hp : 0 < (txB (nmF f).sy).size := by rw [txB_size]; exact textB_pos _
  have ho : (oddB (txB (nmF f).sy) (k1 % (txB (nmF f).sy).size) c1).size ≤ 9223372036854775807 := by
    have := ga.size
    have hm := Nat.mod_lt k1 hp
    unfold oddB
    rw [ByteArray.size_append, ByteArray.size_append, bsize _ _ _ (by omega), bsize _ _ _ (Nat.le_refl _), unb_size]
    simp only [List.length_cons, List.length_nil]
    omega
  exact FC.calls (texts_w _ _ f g k1 c1 b1 (by omega) _ _ _ _ _ _ hp ga.size _ _ _ (txtC L hL hl f g hf hg _ ho)) (vs := [v0, v1, v2]) hG (.cons r0 (.cons r1 (.cons r2 .nil)))
end Go.Proofs.YtifeioddiddnoaaDoor
