/- The words and bytes of programs, as the program writes them. No conditions. -/
import Derived.Test.YtmfccaidgaelcaaEc3
import Derived.Test.YtmfccaidgaelcaaEc44
set_option linter.unusedVariables false
set_option linter.unusedSimpArgs false
namespace Go.Proofs.Ytmfccaidgaelcaa
open Go.Abs Go Go.RowKit
theorem Qu.cl_len (x : Qu) : x.cl.length = 4 := rfl
theorem Df.cl_len (x : Df) : x.cl.length = 12 := rfl
theorem iw_eq (l : List Int) : fmW iw l = l := iw_fm l

set_option maxHeartbeats 4000000 in
theorem list_qu_fc (G : FuncId) (l : List Qu) (c : ∀ x, x ∈ l → FC Try.prog ge G [.agg x.cl] [] (rdi ((Qu.w) x)) [] NoP) (hB : 1 + (fmW (Qu.w) l).length ≤ BW) :
    FC Try.prog ge 100 [.ro l.length (flC (Qu.cl) l), .fn G [] []] [] (rdi ((l.length : Int) :: fmW (Qu.w) l)) [] NoP := by
  have hl : l.length ≤ BW := by have := fmW_len (w := Qu.w) (fun x => Qu.w_pos x) l; omega
  unfold BW at hB hl
  obtain ⟨W, hW⟩ : ∃ W, W = (l.length : Int) :: fmW (Qu.w) l := ⟨_, rfl⟩
  rw [← hW]
  refine FC.of_AW tok Try.func100 (by kernel_rfl) rfl Try.ntmps100 [] rfl rfl rfl ?_; intro w0 X0 Y f0 hI0 hX0
  refine S1 ?_; (repeat (first | refine K4 ?_ | refine RG.d ?_ | refine S2 ?_)); refine S1 ?_; (repeat (first | refine K4 ?_ | refine L2 ?_ | refine RG.d ?_ | refine S2 ?_))
  refine AW.seqJ (fun _ : Unit => ⟨put 5 (some (rdi W)) noE, noH, 0⟩) (fun _ => True) ?_ ?_
  · refine S1 ?_; (repeat (first | refine K4 ?_ | refine RG.d ?_ | refine S2 ?_ | refine S4 ?_))
    refine AW.loopS (fun p : Nat × List Int => ⟨put 1 (some (.fn G [] [])) (put 5 (some (.sl 0 [] 1 0 p.2.length)) (put 11 (some (.ro l.length (flC (Qu.cl) l))) (put 12 (some (i64 (l.length : Int))) (put 13 (some (i64 (p.1 : Int))) noE)))), hput 0 (.one (ints .i64 p.2)) noH, 1⟩)
      (fun p => p.1 ≤ l.length ∧ p.2 = (l.length : Int) :: fmW (Qu.w) (l.take p.1)) (fun p => l.length - p.1) (0, [(l.length : Int)]) ⟨Nat.zero_le _, by simp [fmW]⟩ (Sub.of (by repeat (first | exact SubE.no _ | refine SubE.put rfl ?_)) (by repeat (first | exact SubH.no _ | refine SubH.put rfl ?_)) rfl) ?_
    rintro ⟨i, U⟩ ⟨hi, hU⟩
    dsimp only at hi hU
    (repeat (first | refine K4 ?_ | refine RG.d ?_ | refine S1 ?_ | refine S2 ?_))
    refine AW.condD rfl (fun k => ?_) (fun k => ?_)
    rotate_left
    · have hi2 : i = l.length := by
        have : ¬ (i : Int) < (l.length : Int) := k
        omega
      rw [hi2, List.take_length, ← hW] at hU
      subst hU
      (repeat (first | refine S5 ?_))
      exact ⟨(), trivial, Sub.trans (Sub.frz (ks := [0]) 5 rfl (frzI rfl (by decide) rfl)) (Sub.down (by repeat (first | exact SubE.no _ | refine SubE.put rfl ?_)) (by repeat (first | exact SubH.no _ | refine SubH.put rfl ?_)) (by repeat (first | exact LtE.no _ | refine LtE.put rfl ?_)) (by repeat (first | exact LtH.no _ | refine LtH.put rfl rfl ?_)) rfl)⟩
    have hi2 : i < l.length := by
      have : (i : Int) < (l.length : Int) := k
      omega
    obtain ⟨x, hx⟩ : ∃ x, l[i]? = some x := ⟨_, List.getElem?_eq_getElem hi2⟩
    have hat := flC_at Qu.cl_len l i x hx
    have cx := c x (List.mem_of_getElem? hx)
    have hU2 := fmW_take (Qu.w) l i x hx
    have hlen := fmW_le (Qu.w) l (i + 1)
    rw [hU2, List.length_append] at hlen
    have hUl : U.length = 1 + (fmW (Qu.w) (l.take i)).length := by rw [hU, List.length_cons]; omega
    obtain ⟨u, hu⟩ : ∃ u, u = (Qu.w) x := ⟨_, rfl⟩
    rw [show (Qu.w) x = u from hu.symm] at cx hlen hU2
    obtain ⟨q1, r1, r2, r3⟩ := x; simp only [Qu.cl, List.cons_append, List.nil_append] at hat cx
    (repeat (first | refine S1 ?_ | refine S2 ?_ | refine S3 ?_ | refine S4 ?_))
    refine RG.idx tok rfl rfl rfl rfl rfl rfl hat ⟨by omega, by omega⟩ rfl ?_
    (repeat (first | refine K4 ?_ | refine L1 ?_ | refine L2 ?_ | refine L3 ?_ | refine RG.d ?_ | refine S2 ?_))
    refine RG.call rfl rfl rfl rfl (cx) [] rfl rfl rfl rfl (.nil _) (.nil _) (fun _ h => False.elim h) rfl (A.ren_free _ _ rfl) rfl ?_
    refine RG.append tok rfl rfl rfl rfl rfl rfl rfl rfl (n1 := U.length) (c := ints .i64 U) (ks := [0]) rfl (m := u.length) (l := ints .i64 u) (ks' := []) rfl (by rw [ints_length, Nat.mul_one]) (by rw [ints_length]; omega) (ints_cell _ _) (by omega) (by omega) rfl (c' := ints .i64 (U ++ u)) (by rw [ints_take _ _ _ rfl, ints_append]) ?_
    rw [show U.length + u.length = (U ++ u).length from List.length_append.symm]
    (repeat (first | refine K2 ?_ | refine K4 ?_ | refine RG.d ?_ | refine S2 ?_))
    refine ⟨(i + 1, U ++ u), ⟨by dsimp only; omega, by dsimp only; rw [hU2, hU]; rfl⟩, by dsimp only; omega, Sub.renB (fun a => a + 2) ?_ ?_ (fun a b h => by simpa using h) (fun a ha => ?_) (fun a ha => absurd ha (Nat.not_lt_zero _))⟩
    · exact SubEr.put rfl (SubEr.put rfl (SubEr.put rfl (SubEr.put rfl (SubEr.put rfl (SubEr.no _ _)))))
    · exact SubHr.put rfl (ints_free _ _ _) (SubHr.no _ _)
    · have ha : 1 ≤ a := ha
      show 3 ≤ a + 2
      omega
  intro _ _
  (repeat (first | refine K4 ?_ | refine RG.d ?_ | refine S1 ?_ | refine S2 ?_ | refine S6 ?_))
  exact ⟨⟨_, rfl, rfl⟩, rfl, .nil _⟩

set_option maxHeartbeats 4000000 in
theorem list_hd_fc (G : FuncId) (l : List Hd) (c : ∀ x, x ∈ l → FC Try.prog ge G [.agg x.cl] [] (rdi ((Hd.w) x)) [] NoP) (hB : 1 + (fmW (Hd.w) l).length ≤ BW) :
    FC Try.prog ge 101 [.ro l.length (flC (Hd.cl) l), .fn G [] []] [] (rdi ((l.length : Int) :: fmW (Hd.w) l)) [] NoP := by
  have hl : l.length ≤ BW := by have := fmW_len (w := Hd.w) (fun x => Hd.w_pos x) l; omega
  unfold BW at hB hl
  obtain ⟨W, hW⟩ : ∃ W, W = (l.length : Int) :: fmW (Hd.w) l := ⟨_, rfl⟩
  rw [← hW]
  refine FC.of_AW tok Try.func101 (by kernel_rfl) rfl Try.ntmps101 [] rfl rfl rfl ?_; intro w0 X0 Y f0 hI0 hX0
  refine S1 ?_; (repeat (first | refine K4 ?_ | refine RG.d ?_ | refine S2 ?_)); refine S1 ?_; (repeat (first | refine K4 ?_ | refine L2 ?_ | refine RG.d ?_ | refine S2 ?_))
  refine AW.seqJ (fun _ : Unit => ⟨put 5 (some (rdi W)) noE, noH, 0⟩) (fun _ => True) ?_ ?_
  · refine S1 ?_; (repeat (first | refine K4 ?_ | refine RG.d ?_ | refine S2 ?_ | refine S4 ?_))
    refine AW.loopS (fun p : Nat × List Int => ⟨put 1 (some (.fn G [] [])) (put 5 (some (.sl 0 [] 1 0 p.2.length)) (put 11 (some (.ro l.length (flC (Hd.cl) l))) (put 12 (some (i64 (l.length : Int))) (put 13 (some (i64 (p.1 : Int))) noE)))), hput 0 (.one (ints .i64 p.2)) noH, 1⟩)
      (fun p => p.1 ≤ l.length ∧ p.2 = (l.length : Int) :: fmW (Hd.w) (l.take p.1)) (fun p => l.length - p.1) (0, [(l.length : Int)]) ⟨Nat.zero_le _, by simp [fmW]⟩ (Sub.of (by repeat (first | exact SubE.no _ | refine SubE.put rfl ?_)) (by repeat (first | exact SubH.no _ | refine SubH.put rfl ?_)) rfl) ?_
    rintro ⟨i, U⟩ ⟨hi, hU⟩
    dsimp only at hi hU
    (repeat (first | refine K4 ?_ | refine RG.d ?_ | refine S1 ?_ | refine S2 ?_))
    refine AW.condD rfl (fun k => ?_) (fun k => ?_)
    rotate_left
    · have hi2 : i = l.length := by
        have : ¬ (i : Int) < (l.length : Int) := k
        omega
      rw [hi2, List.take_length, ← hW] at hU
      subst hU
      (repeat (first | refine S5 ?_))
      exact ⟨(), trivial, Sub.trans (Sub.frz (ks := [0]) 5 rfl (frzI rfl (by decide) rfl)) (Sub.down (by repeat (first | exact SubE.no _ | refine SubE.put rfl ?_)) (by repeat (first | exact SubH.no _ | refine SubH.put rfl ?_)) (by repeat (first | exact LtE.no _ | refine LtE.put rfl ?_)) (by repeat (first | exact LtH.no _ | refine LtH.put rfl rfl ?_)) rfl)⟩
    have hi2 : i < l.length := by
      have : (i : Int) < (l.length : Int) := k
      omega
    obtain ⟨x, hx⟩ : ∃ x, l[i]? = some x := ⟨_, List.getElem?_eq_getElem hi2⟩
    have hat := flC_at Hd.cl_len l i x hx
    have cx := c x (List.mem_of_getElem? hx)
    have hU2 := fmW_take (Hd.w) l i x hx
    have hlen := fmW_le (Hd.w) l (i + 1)
    rw [hU2, List.length_append] at hlen
    have hUl : U.length = 1 + (fmW (Hd.w) (l.take i)).length := by rw [hU, List.length_cons]; omega
    obtain ⟨u, hu⟩ : ∃ u, u = (Hd.w) x := ⟨_, rfl⟩
    rw [show (Hd.w) x = u from hu.symm] at cx hlen hU2
    obtain ⟨q1, q2, q3, r1, r2⟩ := x; simp only [Hd.cl, List.cons_append, List.nil_append] at hat cx
    (repeat (first | refine S1 ?_ | refine S2 ?_ | refine S3 ?_ | refine S4 ?_))
    refine RG.idx tok rfl rfl rfl rfl rfl rfl hat ⟨by omega, by omega⟩ rfl ?_
    (repeat (first | refine K4 ?_ | refine L1 ?_ | refine L2 ?_ | refine L3 ?_ | refine RG.d ?_ | refine S2 ?_))
    refine RG.call rfl rfl rfl rfl (cx) [] rfl rfl rfl rfl (.nil _) (.nil _) (fun _ h => False.elim h) rfl (A.ren_free _ _ rfl) rfl ?_
    refine RG.append tok rfl rfl rfl rfl rfl rfl rfl rfl (n1 := U.length) (c := ints .i64 U) (ks := [0]) rfl (m := u.length) (l := ints .i64 u) (ks' := []) rfl (by rw [ints_length, Nat.mul_one]) (by rw [ints_length]; omega) (ints_cell _ _) (by omega) (by omega) rfl (c' := ints .i64 (U ++ u)) (by rw [ints_take _ _ _ rfl, ints_append]) ?_
    rw [show U.length + u.length = (U ++ u).length from List.length_append.symm]
    (repeat (first | refine K2 ?_ | refine K4 ?_ | refine RG.d ?_ | refine S2 ?_))
    refine ⟨(i + 1, U ++ u), ⟨by dsimp only; omega, by dsimp only; rw [hU2, hU]; rfl⟩, by dsimp only; omega, Sub.renB (fun a => a + 2) ?_ ?_ (fun a b h => by simpa using h) (fun a ha => ?_) (fun a ha => absurd ha (Nat.not_lt_zero _))⟩
    · exact SubEr.put rfl (SubEr.put rfl (SubEr.put rfl (SubEr.put rfl (SubEr.put rfl (SubEr.no _ _)))))
    · exact SubHr.put rfl (ints_free _ _ _) (SubHr.no _ _)
    · have ha : 1 ≤ a := ha
      show 3 ≤ a + 2
      omega
  intro _ _
  (repeat (first | refine K4 ?_ | refine RG.d ?_ | refine S1 ?_ | refine S2 ?_ | refine S6 ?_))
  exact ⟨⟨_, rfl, rfl⟩, rfl, .nil _⟩

set_option maxHeartbeats 4000000 in
theorem list_df_fc (G : FuncId) (l : List Df) (c : ∀ x, x ∈ l → FC Try.prog ge G [.agg x.cl] [] (rdi ((Df.w) x)) [] NoP) (hB : 1 + (fmW (Df.w) l).length ≤ BW) :
    FC Try.prog ge 102 [.ro l.length (flC (Df.cl) l), .fn G [] []] [] (rdi ((l.length : Int) :: fmW (Df.w) l)) [] NoP := by
  have hl : l.length ≤ BW := by have := fmW_len (w := Df.w) (fun x => Df.w_pos x) l; omega
  unfold BW at hB hl
  obtain ⟨W, hW⟩ : ∃ W, W = (l.length : Int) :: fmW (Df.w) l := ⟨_, rfl⟩
  rw [← hW]
  refine FC.of_AW tok Try.func102 (by kernel_rfl) rfl Try.ntmps102 [] rfl rfl rfl ?_; intro w0 X0 Y f0 hI0 hX0
  refine S1 ?_; (repeat (first | refine K4 ?_ | refine RG.d ?_ | refine S2 ?_)); refine S1 ?_; (repeat (first | refine K4 ?_ | refine L2 ?_ | refine RG.d ?_ | refine S2 ?_))
  refine AW.seqJ (fun _ : Unit => ⟨put 5 (some (rdi W)) noE, noH, 0⟩) (fun _ => True) ?_ ?_
  · refine S1 ?_; (repeat (first | refine K4 ?_ | refine RG.d ?_ | refine S2 ?_ | refine S4 ?_))
    refine AW.loopS (fun p : Nat × List Int => ⟨put 1 (some (.fn G [] [])) (put 5 (some (.sl 0 [] 1 0 p.2.length)) (put 11 (some (.ro l.length (flC (Df.cl) l))) (put 12 (some (i64 (l.length : Int))) (put 13 (some (i64 (p.1 : Int))) noE)))), hput 0 (.one (ints .i64 p.2)) noH, 1⟩)
      (fun p => p.1 ≤ l.length ∧ p.2 = (l.length : Int) :: fmW (Df.w) (l.take p.1)) (fun p => l.length - p.1) (0, [(l.length : Int)]) ⟨Nat.zero_le _, by simp [fmW]⟩ (Sub.of (by repeat (first | exact SubE.no _ | refine SubE.put rfl ?_)) (by repeat (first | exact SubH.no _ | refine SubH.put rfl ?_)) rfl) ?_
    rintro ⟨i, U⟩ ⟨hi, hU⟩
    dsimp only at hi hU
    (repeat (first | refine K4 ?_ | refine RG.d ?_ | refine S1 ?_ | refine S2 ?_))
    refine AW.condD rfl (fun k => ?_) (fun k => ?_)
    rotate_left
    · have hi2 : i = l.length := by
        have : ¬ (i : Int) < (l.length : Int) := k
        omega
      rw [hi2, List.take_length, ← hW] at hU
      subst hU
      (repeat (first | refine S5 ?_))
      exact ⟨(), trivial, Sub.trans (Sub.frz (ks := [0]) 5 rfl (frzI rfl (by decide) rfl)) (Sub.down (by repeat (first | exact SubE.no _ | refine SubE.put rfl ?_)) (by repeat (first | exact SubH.no _ | refine SubH.put rfl ?_)) (by repeat (first | exact LtE.no _ | refine LtE.put rfl ?_)) (by repeat (first | exact LtH.no _ | refine LtH.put rfl rfl ?_)) rfl)⟩
    have hi2 : i < l.length := by
      have : (i : Int) < (l.length : Int) := k
      omega
    obtain ⟨x, hx⟩ : ∃ x, l[i]? = some x := ⟨_, List.getElem?_eq_getElem hi2⟩
    have hat := flC_at Df.cl_len l i x hx
    have cx := c x (List.mem_of_getElem? hx)
    have hU2 := fmW_take (Df.w) l i x hx
    have hlen := fmW_le (Df.w) l (i + 1)
    rw [hU2, List.length_append] at hlen
    have hUl : U.length = 1 + (fmW (Df.w) (l.take i)).length := by rw [hU, List.length_cons]; omega
    obtain ⟨u, hu⟩ : ∃ u, u = (Df.w) x := ⟨_, rfl⟩
    rw [show (Df.w) x = u from hu.symm] at cx hlen hU2
    obtain ⟨q1, q2, q3, q4, q5, r1, r2, r3, r4, r5, r6, r7⟩ := x; simp only [Df.cl, List.cons_append, List.nil_append] at hat cx
    (repeat (first | refine S1 ?_ | refine S2 ?_ | refine S3 ?_ | refine S4 ?_))
    refine RG.idx tok rfl rfl rfl rfl rfl rfl hat ⟨by omega, by omega⟩ rfl ?_
    (repeat (first | refine K4 ?_ | refine L1 ?_ | refine L2 ?_ | refine L3 ?_ | refine RG.d ?_ | refine S2 ?_))
    refine RG.call rfl rfl rfl rfl (cx) [] rfl rfl rfl rfl (.nil _) (.nil _) (fun _ h => False.elim h) rfl (A.ren_free _ _ rfl) rfl ?_
    refine RG.append tok rfl rfl rfl rfl rfl rfl rfl rfl (n1 := U.length) (c := ints .i64 U) (ks := [0]) rfl (m := u.length) (l := ints .i64 u) (ks' := []) rfl (by rw [ints_length, Nat.mul_one]) (by rw [ints_length]; omega) (ints_cell _ _) (by omega) (by omega) rfl (c' := ints .i64 (U ++ u)) (by rw [ints_take _ _ _ rfl, ints_append]) ?_
    rw [show U.length + u.length = (U ++ u).length from List.length_append.symm]
    (repeat (first | refine K2 ?_ | refine K4 ?_ | refine RG.d ?_ | refine S2 ?_))
    refine ⟨(i + 1, U ++ u), ⟨by dsimp only; omega, by dsimp only; rw [hU2, hU]; rfl⟩, by dsimp only; omega, Sub.renB (fun a => a + 2) ?_ ?_ (fun a b h => by simpa using h) (fun a ha => ?_) (fun a ha => absurd ha (Nat.not_lt_zero _))⟩
    · exact SubEr.put rfl (SubEr.put rfl (SubEr.put rfl (SubEr.put rfl (SubEr.put rfl (SubEr.no _ _)))))
    · exact SubHr.put rfl (ints_free _ _ _) (SubHr.no _ _)
    · have ha : 1 ≤ a := ha
      show 3 ≤ a + 2
      omega
  intro _ _
  (repeat (first | refine K4 ?_ | refine RG.d ?_ | refine S1 ?_ | refine S2 ?_ | refine S6 ?_))
  exact ⟨⟨_, rfl, rfl⟩, rfl, .nil _⟩

theorem queue_fc (q : Qu) : FC Try.prog ge 98 [.agg q.cl] [] (rdi q.w) [] NoP := by
  obtain ⟨cap, lo, hi, mask⟩ := q
  have c1 := span_fc ⟨lo, hi, mask⟩
  show FC _ _ _ [.agg [i64 cap, i64 lo, i64 hi, i64 mask]] _ (rdi [cap, lo, hi, mask]) _ _
  refine FC.of_AW tok Try.func98 (by kernel_rfl) rfl Try.ntmps98 [] rfl rfl rfl ?_; intro w0 X0 Y f0 hI0 hX0
  (repeat (first | refine K4 ?_ | refine L1 ?_ | refine L2 ?_ | refine RG.d ?_ | refine S1 ?_ | refine S2 ?_))
  refine RG.call rfl rfl rfl rfl (c1) [] rfl rfl rfl rfl (.nil _) (.nil _) (fun _ h => False.elim h) rfl (A.ren_free _ _ rfl) rfl ?_
  refine RG.append tok rfl rfl rfl rfl rfl rfl rfl rfl (n1 := 1) (c := [i64 cap]) (ks := [1]) rfl (m := 3) (l := [i64 lo, i64 hi, i64 mask]) (ks' := []) rfl rfl (Nat.le_refl 1) rfl (by decide) (by decide) rfl (c' := [i64 cap, i64 lo, i64 hi, i64 mask]) rfl ?_
  (repeat (first | refine K4 ?_ | refine RG.dd ?_))
  refine AW.sub (Sub.frz (ks := [2]) 2 rfl (frzI (xs := [cap, lo, hi, mask]) rfl (by decide) rfl)) ?_
  (repeat (first | refine S6 ?_))
  exact ⟨⟨_, rfl, rfl⟩, rfl, .nil _⟩
set_option maxHeartbeats 8000000 in
theorem hdw_fc (h : Hd) (hB : h.w.length ≤ BW) : FC Try.prog ge 99 [.agg h.cl] [] (rdi h.w) [] NoP := by
  obtain ⟨id, firm, part, params, given⟩ := h
  have hw : (Hd.mk id firm part params given).w = [[id, firm, part], (params.length : Int) :: fmW Rg.w params, (given.length : Int) :: fmW Rg.w given].flatten := by simp [Hd.w]
  have hB2 := hB
  rw [hw] at hB2
  simp only [List.flatten_cons, List.length_append, List.length_cons, List.flatten_nil, List.length_nil] at hB2
  have cc := concat_fc [[id, firm, part], (params.length : Int) :: fmW Rg.w params, (given.length : Int) :: fmW Rg.w given] (by simp) (by rw [← hw]; exact hB)
  rw [← hw] at cc
  have c2 := list_rg params (by omega)
  have c3 := list_rg given (by omega)
  obtain ⟨W, hW⟩ : ∃ W, W = (Hd.mk id firm part params given).w := ⟨_, rfl⟩
  rw [← hW] at cc ⊢
  unfold BW at hB2
  clear hB hw hW
  obtain ⟨w2, h2⟩ : ∃ w, w = (params.length : Int) :: fmW Rg.w params := ⟨_, rfl⟩
  obtain ⟨w3, h3⟩ : ∃ w, w = (given.length : Int) :: fmW Rg.w given := ⟨_, rfl⟩
  rw [← h2] at c2 cc
  rw [← h3] at c3 cc
  clear h2 h3
  simp only [Hd.cl]
  refine FC.of_AW tok Try.func99 (by kernel_rfl) rfl Try.ntmps99 [] rfl rfl rfl ?_; intro w0 X0 Y f0 hI0 hX0
  (repeat (first | refine RG.call rfl rfl rfl rfl (c2) [] rfl rfl rfl rfl (.nil _) (.nil _) (fun _ h => False.elim h) rfl (A.ren_free _ _ rfl) rfl ?_ | refine RG.call rfl rfl rfl rfl (c3) [] rfl rfl rfl rfl (.nil _) (.nil _) (fun _ h => False.elim h) rfl (A.ren_free _ _ rfl) rfl ?_ | refine K4 ?_ | refine L1 ?_ | refine L2 ?_ | refine RG.d ?_ | refine S1 ?_ | refine S2 ?_))
  refine RG.callG rfl rfl rfl rfl cc [] [1, 2] rfl rfl (.cons (FView.sl (l := [.sl 1 [] 1 0 3, rdi w2, rdi w3]) rfl (by decide) rfl (.cons (FView.sl (l := [i64 id, i64 firm, i64 part]) rfl (by decide) rfl (FViews.reflL _ _ _) rfl rfl) (FViews.reflL _ _ _)) rfl rfl) .nil) rfl rfl (.nil _) (.nil _) rfl (fun _ h => False.elim h) rfl (A.ren_free _ _ rfl) rfl ?_
  (repeat (first | refine K4 ?_ | refine RG.dd ?_ | refine S6 ?_))
  exact ⟨⟨_, rfl, rfl⟩, rfl, .nil _⟩
set_option maxHeartbeats 16000000 in
set_option maxRecDepth 10000 in
theorem prog_fc (p : Pg) (ok : p.ok) (hB : p.w.length ≤ BW) : FC Try.prog ge 54 [.agg p.cl] [] (rdi p.w) [] NoP := by
  obtain ⟨⟨globals, classes, queues, sinks, locks, parts, firms⟩, heads, defs, threads⟩ := p
  have hw : (Pg.mk ⟨globals, classes, queues, sinks, locks, parts, firms⟩ heads defs threads).w = [[2], (globals.length : Int) :: fmW Rg.w globals, (classes.length : Int) :: fmW Rg.w classes, (queues.length : Int) :: fmW Qu.w queues, (sinks.length : Int) :: sinks, [locks, parts, firms], (heads.length : Int) :: fmW Hd.w heads, (defs.length : Int) :: fmW Df.w defs, (threads.length : Int) :: threads].flatten := by simp [Pg.w, pgT]
  have hB2 := hB
  rw [hw] at hB2
  simp only [List.flatten_cons, List.length_append, List.length_cons, List.flatten_nil, List.length_nil] at hB2
  have cc := concat_fc [[2], (globals.length : Int) :: fmW Rg.w globals, (classes.length : Int) :: fmW Rg.w classes, (queues.length : Int) :: fmW Qu.w queues, (sinks.length : Int) :: sinks, [locks, parts, firms], (heads.length : Int) :: fmW Hd.w heads, (defs.length : Int) :: fmW Df.w defs, (threads.length : Int) :: threads] (by simp) (by rw [← hw]; exact hB)
  rw [← hw] at cc
  have c1 := list_rg globals (by omega)
  have c2 := list_rg classes (by omega)
  have c3 := list_qu_fc 98 queues (fun x _ => queue_fc x) (by omega)
  have c4 := list_int_fc 48 sinks (fun x _ => one_fc x) (by rw [iw_eq]; omega)
  rw [iw_eq, icl_eq] at c4
  have c5 := list_hd_fc 99 heads (fun x hx => hdw_fc x (by have := fmW_mem Hd.w heads x hx; omega)) (by omega)
  have c6 := list_df_fc 41 defs (fun x hx => def_fc x (ok x hx) (by have := fmW_mem Df.w defs x hx; omega)) (by omega)
  have c7 := list_int_fc 48 threads (fun x _ => one_fc x) (by rw [iw_eq]; omega)
  rw [iw_eq, icl_eq] at c7
  have c8 := one_fc 2
  obtain ⟨W, hW⟩ : ∃ W, W = (Pg.mk ⟨globals, classes, queues, sinks, locks, parts, firms⟩ heads defs threads).w := ⟨_, rfl⟩
  rw [← hW] at cc ⊢
  unfold BW at hB2
  clear hB hw hW ok
  obtain ⟨w1, h1⟩ : ∃ w, w = (globals.length : Int) :: fmW Rg.w globals := ⟨_, rfl⟩
  obtain ⟨w2, h2⟩ : ∃ w, w = (classes.length : Int) :: fmW Rg.w classes := ⟨_, rfl⟩
  obtain ⟨w3, h3⟩ : ∃ w, w = (queues.length : Int) :: fmW Qu.w queues := ⟨_, rfl⟩
  obtain ⟨w4, h4⟩ : ∃ w, w = (sinks.length : Int) :: sinks := ⟨_, rfl⟩
  obtain ⟨w5, h5⟩ : ∃ w, w = (heads.length : Int) :: fmW Hd.w heads := ⟨_, rfl⟩
  obtain ⟨w6, h6⟩ : ∃ w, w = (defs.length : Int) :: fmW Df.w defs := ⟨_, rfl⟩
  obtain ⟨w7, h7⟩ : ∃ w, w = (threads.length : Int) :: threads := ⟨_, rfl⟩
  rw [← h1] at c1 cc
  rw [← h2] at c2 cc
  rw [← h3] at c3 cc
  rw [← h4] at c4 cc
  rw [← h5] at c5 cc
  rw [← h6] at c6 cc
  rw [← h7] at c7 cc
  clear h1 h2 h3 h4 h5 h6 h7
  simp only [Pg.cl, Dc.cl, List.cons_append, List.nil_append]
  refine FC.of_AW tok Try.func54 (by kernel_rfl) rfl Try.ntmps54 [] rfl rfl rfl ?_; intro w0 X0 Y f0 hI0 hX0
  (repeat (first | refine RG.call rfl rfl rfl rfl (c1) [] rfl rfl rfl rfl (.nil _) (.nil _) (fun _ h => False.elim h) rfl (A.ren_free _ _ rfl) rfl ?_ | refine RG.call rfl rfl rfl rfl (c2) [] rfl rfl rfl rfl (.nil _) (.nil _) (fun _ h => False.elim h) rfl (A.ren_free _ _ rfl) rfl ?_ | refine RG.call rfl rfl rfl rfl (c3) [] rfl rfl rfl rfl (.nil _) (.nil _) (fun _ h => False.elim h) rfl (A.ren_free _ _ rfl) rfl ?_ | refine RG.call rfl rfl rfl rfl (c4) [] rfl rfl rfl rfl (.nil _) (.nil _) (fun _ h => False.elim h) rfl (A.ren_free _ _ rfl) rfl ?_ | refine RG.call rfl rfl rfl rfl (c5) [] rfl rfl rfl rfl (.nil _) (.nil _) (fun _ h => False.elim h) rfl (A.ren_free _ _ rfl) rfl ?_ | refine RG.call rfl rfl rfl rfl (c6) [] rfl rfl rfl rfl (.nil _) (.nil _) (fun _ h => False.elim h) rfl (A.ren_free _ _ rfl) rfl ?_ | refine RG.call rfl rfl rfl rfl (c7) [] rfl rfl rfl rfl (.nil _) (.nil _) (fun _ h => False.elim h) rfl (A.ren_free _ _ rfl) rfl ?_ | refine RG.call rfl rfl rfl rfl (c8) [] rfl rfl rfl rfl (.nil _) (.nil _) (fun _ h => False.elim h) rfl (A.ren_free _ _ rfl) rfl ?_ | refine K4 ?_ | refine L1 ?_ | refine L2 ?_ | refine L3 ?_ | refine RG.d ?_ | refine S1 ?_ | refine S2 ?_))
  refine RG.callG rfl rfl rfl rfl cc [] [2, 3] rfl rfl (.cons (FView.sl (l := [rdi [2], rdi w1, rdi w2, rdi w3, rdi w4, .sl 2 [] 1 0 3, rdi w5, rdi w6, rdi w7]) rfl (by decide) rfl (.cons (FView.refl _ _ _) (.cons (FView.refl _ _ _) (.cons (FView.refl _ _ _) (.cons (FView.refl _ _ _) (.cons (FView.refl _ _ _) (.cons (FView.sl (l := [i64 locks, i64 parts, i64 firms]) rfl (by decide) rfl (FViews.reflL _ _ _) rfl rfl) (FViews.reflL _ _ _))))))) rfl rfl) .nil) rfl rfl (.nil _) (.nil _) rfl (fun _ h => False.elim h) rfl (A.ren_free _ _ rfl) rfl ?_
  (repeat (first | refine K4 ?_ | refine RG.dd ?_ | refine S6 ?_))
  exact ⟨⟨_, rfl, rfl⟩, rfl, .nil _⟩
theorem bytesA_free (l : List Int) : (bytesA l).lt 0 = true := by
  unfold bytesA; split <;> rfl
theorem program_fc (p : Pg) (ok : p.ok) (hB : p.w.length ≤ 100000) : FC Try.prog ge 27 [.agg p.cl] [] (.tup [.ro (8 * p.w.length) (ints .u8 (bsL p.w)), i64 0]) [] NoP := by
  have c1 := prog_fc p ok (by unfold BW; omega)
  have c2 := bytes_fc p.w (by unfold BW; omega)
  unfold bytesA at c2
  rw [if_neg (by omega)] at c2
  obtain ⟨W, hW⟩ : ∃ W, W = p.w := ⟨_, rfl⟩
  rw [← hW] at c1 c2 ⊢
  obtain ⟨B, hB'⟩ : ∃ B, B = bsL W := ⟨_, rfl⟩
  obtain ⟨n, hn⟩ : ∃ n, n = 8 * W.length := ⟨_, rfl⟩
  rw [← hB', ← hn] at c2 ⊢
  obtain ⟨⟨globals, classes, queues, sinks, locks, parts, firms⟩, heads, defs, threads⟩ := p
  simp only [Pg.cl, Dc.cl, List.cons_append, List.nil_append] at c1 ⊢
  refine FC.of_AW tok Try.func27 (by kernel_rfl) rfl Try.ntmps27 [] rfl rfl rfl ?_; intro w0 X0 Y f0 hI0 hX0
  (repeat (first | refine RG.call rfl rfl rfl rfl (c1) [] rfl rfl rfl rfl (.nil _) (.nil _) (fun _ h => False.elim h) rfl (A.ren_free _ _ rfl) rfl ?_ | refine RG.call rfl rfl rfl rfl (c2) [] rfl rfl rfl rfl (.nil _) (.nil _) (fun _ h => False.elim h) rfl (A.ren_free _ _ rfl) rfl ?_ | refine K4 ?_ | refine L1 ?_ | refine L2 ?_ | refine RG.d ?_ | refine S1 ?_ | refine S2 ?_))
  (repeat (first | refine S6 ?_))
  exact ⟨⟨_, rfl, rfl⟩, rfl, .nil _⟩
set_option maxHeartbeats 8000000 in
theorem Made_fc (L : List Int) (hL : ∀ x, x ∈ L → 0 ≤ x ∧ x ≤ 255) (hl : L.length ≤ 9223372036854775807) : FC Try.prog ge 26 [.agg [.ro L.length (ints .u8 L)]] [] (.agg (gMade L).cl) [] NoP := by
  have c := made_fc L hL hl
  obtain ⟨p, hp⟩ : ∃ p, p = gMade L := ⟨_, rfl⟩
  rw [← hp] at c ⊢
  obtain ⟨⟨globals, classes, queues, sinks, locks, parts, firms⟩, heads, defs, threads⟩ := p
  simp only [Pg.cl, Dc.cl, List.cons_append, List.nil_append] at c ⊢
  refine FC.of_AW tok Try.func26 (by kernel_rfl) rfl Try.ntmps26 [] rfl rfl rfl ?_; intro w0 X0 Y f0 hI0 hX0
  (repeat (first | refine L1 ?_ | refine L2 ?_ | refine RG.d ?_ | refine S1 ?_ | refine S2 ?_))
  refine RG.call rfl rfl rfl rfl (c) [] rfl rfl rfl rfl (.nil _) (.nil _) (fun _ h => False.elim h) rfl (A.ren_free _ _ rfl) rfl ?_
  (repeat (first | refine L3 ?_ | refine RG.d ?_ | refine S6 ?_))
  exact ⟨⟨_, rfl, rfl⟩, rfl, .nil _⟩
end Go.Proofs.Ytmfccaidgaelcaa
