/- Summaries as in the reference: the law, for what came in. No conditions. -/
import Derived.Test.YtifeioddiddnoaaGreatDoorRpC
import Derived.Test.YtifeioddiddnoaaGreatDoorRpA
import Derived.Test.YtifeioddiddnoaaGreatDoorRpB
import Derived.Test.YtifeioddiddnoaaGreatDoorScJ
set_option linter.unusedVariables false
set_option linter.unusedSimpArgs false
namespace Go.Proofs.YtifeioddiddnoaaGreatDoor
open Go.Abs Go Go.RowKit
theorem low4 (k : Int) : ∃ m : Nat, m < 16 ∧ IntKind.i64.wrap ((BitVec.ofInt 64 k &&& BitVec.ofInt 64 15).toNat : Nat) = (m : Int) := by
  have h : (BitVec.ofInt 64 k &&& BitVec.ofInt 64 15).toNat ≤ 15 := by
    rw [BitVec.toNat_and]
    exact Nat.and_le_right
  obtain ⟨m, hm⟩ : ∃ m, m = (BitVec.ofInt 64 k &&& BitVec.ofInt 64 15).toNat := ⟨_, rfl⟩
  rw [← hm] at h ⊢
  exact ⟨m, by omega, wrap_i64 ⟨by omega, by omega⟩⟩
theorem chS_mem (s : Sy) (m : Nat) (z n : Int) (h : n ∈ (chS s m z).w) : n = z ∨ n = 1 ∨ n = 2 ∨ n ∈ s.w := by
  unfold chS at h
  split at h
  all_goals
    simp only [Sy.w, prW, List.flatMap_append, List.flatMap_cons, List.flatMap_nil, List.mem_append, List.mem_cons, List.not_mem_nil, or_false, List.append_nil] at h ⊢
    grind
theorem chS_len (s : Sy) (m : Nat) (z : Int) : (chS s m z).pairs.length ≤ s.pairs.length + 1 := by
  unfold chS
  split <;> simp
theorem chS_rng {s : Sy} (h : s.rng) (m : Nat) {z : Int} (hz : -9223372036854775808 ≤ z ∧ z ≤ 9223372036854775807) (hl : s.pairs.length ≤ 6) : (chS s m z).rng where
  w := fun n hn => by
    rcases chS_mem s m z n hn with rfl | rfl | rfl | hn
    · exact hz
    · omega
    · omega
    · exact h.w n hn
  n := by have := chS_len s m z; omega
theorem fdS_len : ∀ (l : List Sy) (id : Int), (∀ s, s ∈ l → s.pairs.length ≤ 1000) → (fdS l id).1.pairs.length ≤ 1000
  | [], _, _ => by show (0 : Nat) ≤ 1000; omega
  | y :: l, id, h => by
    rw [fdS_cons]
    split
    · exact h y (by simp)
    · exact fdS_len l id (fun s hs => h s (by simp [hs]))
theorem rdS_len (x : BA) : (rdS x).1.pairs.length ≤ 1000 := by
  by_cases h : ∃ S, Good S x
  · obtain ⟨S, hS⟩ := h
    rw [rdS_of hS]; exact hS.rng.n
  · rw [rdS_no (fun S hS => h ⟨S, hS⟩)]
    show (0 : Nat) ≤ 1000; omega
theorem sameT (s : Sy) (h : s.pairs.length ≤ 1000) : FC Tryz.prog gs 17 [.agg s.cl, .agg s.cl] [] (.val (.bool true)) [] NoP := by
  have c := lift (same_fc s s h h)
  rw [same_refl] at c
  exact c
theorem rleqN_fc {m n : Nm} (hm : m.ok) (hn : n.ok) : FC Tryz.prog gs 23 [.agg m.sy.cl, .agg n.sy.cl] [] (.val (.bool (m.leq n))) [] NoP := by
  have l1 := prOf_len m.k
  have l2 := prOf_len n.k
  have c := rleq14_fc m.sy n.sy m.t n.t hm.t hn.t rfl rfl (by show (prOf m.k).length ≤ 1000; omega) (by show (prOf n.k).length ≤ 1000; omega) (prOf_bd _ hm.k) (prOf_bd _ hn.k)
  rw [leqS_nm hm hn] at c
  exact lift c
theorem matC (L : List Int) (hL : ∀ x, x ∈ L → 0 ≤ x ∧ x ≤ 255) (hl : L.length ≤ 9223372036854775807) (f g : Nat → Nat) (hf : ∀ i, f i ≤ 65535) (hg : ∀ i, g i ≤ 65535) (k z : Int) (hz : -9223372036854775808 ≤ z ∧ z ≤ 9223372036854775807) (x : BA) (hx : x.size ≤ 9223372036854775807) :
    ∃ (o t : Sy) (e r : Int) (fR : Sy × Bool), MatC (.agg (.ro L.length (ints .u8 L) :: (n8 f ++ n8 g))) (gMade L) k z (nmF f).sy (nmF g).sy o t ((nmF f).join (nmF g)).sy (rdS x).1 e r (rdS x).2 ((nmF f).leq (nmF g)) (Dg.words (nmF f).sy.w) ⟨(textB o).toArray⟩ x fR := by
  have ok := gMade_ok L hL hl
  have hn := heads_len ok
  have h11 := head11 L
  have of := nmF_ok f hf
  have og := nmF_ok g hg
  have oab := Nm.join_ok of og
  have m := lift (lmade_fc L hL hl f g hf hg ok.dc)
  rw [pgC_cl ok.dc, syF_nm, syF_nm] at m
  have l6 : (nmF f).sy.pairs.length ≤ 6 := prOf_len (nmF f).k
  have l7 : (nmF g).sy.pairs.length ≤ 6 := prOf_len (nmF g).k
  have l8 : ((nmF f).join (nmF g)).sy.pairs.length ≤ 6 := prOf_len ((nmF f).join (nmF g)).k
  obtain ⟨mm, hmm, em⟩ := low4 k
  have ho := chS_len (nmF f).sy mm z
  have ro := chS_rng (nm_rng of) mm hz l6
  have tp : ∃ (t : Sy) (e : Int), FC Tryz.prog gs 11 [.agg (pgC (gMade L)), i64 z] [] (mdA (t, e)) [] NoP ∧ FC Tryz.prog gs 21 [.agg (pgC (gMade L)), i64 z] [] (mdA (t, e)) [] NoP ∧ t.pairs.length ≤ 1000 := by
    by_cases h : (headF (gMade L).heads z).isSome = true
    · exact ⟨topS z, 0, top14_fc _ _ _ _ (lift (top_fc _ ok.dc hn z h)), lift (topIn_fc _ ok.dc hn z h), by show prAll.length ≤ 1000; decide⟩
    · have h : headF (gMade L).heads z = none := by simpa using h
      exact ⟨zSum, 4, top14_fc _ _ _ _ (lift (topN_fc _ ok.dc hn z h)), lift (topInN_fc _ ok.dc hn z h), by show (0 : Nat) ≤ 1000; omega⟩
  obtain ⟨t, e, t1, t2, t3⟩ := tp
  refine ⟨chS (nmF f).sy mm z, t, e, eno (rightB (gMade L).heads (chS (nmF f).sy mm z)), fdS [(nmF f).sy, chS (nmF f).sy mm z, (nmF g).sy] z, ?_⟩
  have hfd : (fdS [(nmF f).sy, chS (nmF f).sy mm z, (nmF g).sy] z).1.pairs.length ≤ 1000 := fdS_len _ _ (fun s hs => by
    simp only [List.mem_cons, List.not_mem_nil, or_false] at hs
    rcases hs with rfl | rfl | rfl <;> omega)
  exact {
    ex := examples_fc
    made := m
    ch := changed_fc _ k z mm hmm em l6
    top := t1
    topR := t2
    ra := rightN_fc _ ok.dc hn of h11
    ro := lift (right_fc _ ok.dc hn _ (by omega))
    rro := lift (rright_fc _ ok.dc hn _ (by omega))
    st := sameT t t3
    la := leqN_fc of og
    rla := rleqN_fc of og
    ja := joinN_fc of og
    rja := lift (rjoin14_fc _ _ of og)
    sj := sameT _ (by omega)
    da := lift (digest_fc _ (by omega))
    rda := lift (rdigest_fc _ (by omega))
    tx := text_fc _ ro
    rtx := lift (rtext_fc _ ro)
    pa := parse14_fc x hx
    rpa := lift (rparse_fc x hx)
    fo := lift (lfind_fc _ z (by show 3 ≤ 1000; omega))
    rfo := lift (findIn_fc _ z (by show 3 ≤ 1000; omega))
    sy := sameT _ (rdS_len x)
    sf := sameT _ hfd }
theorem summaryMatches_true (d0 : Dd) (v0 : Value) (d1 : Dd) (v1 : Value) (d2 : Dd) (v2 : Value) (W : World) (hG : gs.p W) (h0 : Dd.Ty Tryz.prog 28 d0) (r0 : V noPl (fun _ => False) W d0.aw v0) (h1 : Dd.Ty Tryz.prog 70 d1) (r1 : V noPl (fun _ => False) W d1.aw v1) (h2 : Dd.Ty Tryz.prog 9 d2) (r2 : V noPl (fun _ => False) W d2.aw v2) :
    Says 7 #[v0, v1, v2] W := by
  obtain ⟨L, f, g, e0, hl, hL, hf, hg⟩ := nums_open h0
  rw [e0] at r0
  obtain ⟨l, rfl, g1, g2⟩ := h1.st_inv Tryz.underlying70
  obtain ⟨a, b, rfl⟩ : ∃ a b, l = [a, b] := by
    match l, g1 with
    | [a, b], _ => exact ⟨a, b, rfl⟩
  have ha : Dd.Ty Tryz.prog 3 a := g2 0 _ a rfl rfl
  have hb : Dd.Ty Tryz.prog 3 b := g2 1 _ b rfl rfl
  obtain ⟨k, rfl, -⟩ := ha.int_inv Tryz.underlying3
  obtain ⟨z, rfl, wz⟩ := hb.int_inv Tryz.underlying3
  have hz := wf64 wz
  obtain ⟨x, rfl, hx⟩ := h2.str_inv Tryz.underlying9
  have hx : x.size ≤ 9223372036854775807 := hx
  obtain ⟨o, t, e, r, fR, K⟩ := matC L hL hl f g hf hg k z hz x hx
  exact FC.calls (matches_w _ _ f g _ k z _ _ o t _ _ e r _ _ _ _ x fR K) (vs := [v0, v1, v2]) hG (.cons r0 (.cons r1 (.cons r2 .nil)))
end Go.Proofs.YtifeioddiddnoaaGreatDoor
