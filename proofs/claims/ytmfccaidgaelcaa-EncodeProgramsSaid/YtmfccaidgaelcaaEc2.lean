/- The words of expressions, conditions, statements, as the program writes them. No conditions. -/
import Derived.Test.YtmfccaidgaelcaaEc1
import Derived.Test.YtmfccaidgaelcaaAbsE
set_option linter.unusedVariables false
set_option linter.unusedSimpArgs false
namespace Go.Proofs.Ytmfccaidgaelcaa
open Go.Abs Go Go.RowKit
theorem fmW_mem {α : Type} (w : α → List Int) : ∀ (l : List α) (x : α), x ∈ l → (w x).length ≤ (fmW w l).length
  | [], x, h => by cases h
  | y :: l, x, h => by
    rw [fmW, List.length_append]
    rcases List.mem_cons.1 h with rfl | h
    · omega
    · have := fmW_mem w l x h; omega
set_option maxHeartbeats 4000000 in
theorem ex_fc : ∀ (e : Ex), e.w.length ≤ BW → FC Try.prog ge 72 [.agg e.cl] [] (rdi e.w) [] NoP
  | .mk op n v a, hB => by
    simp only [Ex.w, exW_eq, List.length_cons] at hB
    have cl := list_ex_fc 72 a (fun x hx => ex_fc x (by have := fmW_mem Ex.w a x hx; unfold BW at *; omega)) (by unfold BW at *; omega)
    simp only [Ex.w, Ex.cl, exC_eq, exW_eq]
    unfold BW at hB
    obtain ⟨u, hu⟩ : ∃ u, u = (a.length : Int) :: fmW Ex.w a := ⟨_, rfl⟩
    have ul : u.length = (fmW Ex.w a).length + 1 := by rw [hu, List.length_cons]
    rw [← hu] at cl ⊢
    refine FC.of_AW tok Try.func72 (by kernel_rfl) rfl Try.ntmps72 [] rfl rfl rfl ?_; intro w0 X0 Y f0 hI0 hX0
    (repeat (first | refine K4 ?_ | refine L1 ?_ | refine L2 ?_ | refine RG.d ?_ | refine S1 ?_ | refine S2 ?_))
    refine RG.call rfl rfl rfl rfl (cl) [] rfl rfl rfl rfl (.nil _) (.nil _) (fun _ h => False.elim h) rfl (A.ren_free _ _ rfl) rfl ?_
    refine RG.append tok rfl rfl rfl rfl rfl rfl rfl rfl (n1 := 3) (c := [i64 op, i64 n, i64 v]) (ks := [1]) rfl (m := u.length) (l := ints .i64 u) (ks' := []) rfl (by rw [ints_length, Nat.mul_one]) (Nat.le_refl 3) (ints_cell _ _) (by omega) (by omega) rfl (c' := ints .i64 (op :: n :: v :: u)) rfl ?_
    (repeat (first | refine K4 ?_ | refine RG.dd ?_))
    refine AW.sub (Sub.frz (ks := [2]) 2 rfl (frzI (xs := op :: n :: v :: u) rfl (by decide) (by simp only [List.length_cons]; omega))) ?_
    (repeat (first | refine S6 ?_))
    exact ⟨⟨_, rfl, rfl⟩, rfl, .nil _⟩
termination_by e => SizeOf.sizeOf e
decreasing_by
  have := List.sizeOf_lt_of_mem hx
  simp_wf
  omega
theorem list_ex (l : List Ex) (hB : 1 + (fmW Ex.w l).length ≤ BW) : FC Try.prog ge 74 [.ro l.length (flC Ex.cl l), .fn 72 [] []] [] (rdi ((l.length : Int) :: fmW Ex.w l)) [] NoP :=
  list_ex_fc _ l (fun x hx => ex_fc x (by have := fmW_mem Ex.w l x hx; omega)) hB
set_option maxHeartbeats 4000000 in
theorem co_fc : ∀ (e : Co), e.w.length ≤ BW → FC Try.prog ge 73 [.agg e.cl] [] (rdi e.w) [] NoP
  | .mk op a c, hB => by
    simp only [Co.w, exW_eq, coW_eq, List.length_cons, List.length_append] at hB
    have cl := list_co_fc 73 c (fun x hx => co_fc x (by have := fmW_mem Co.w c x hx; unfold BW at *; omega)) (by unfold BW at *; omega)
    have ca := list_ex a (by unfold BW at *; omega)
    simp only [Co.w, Co.cl, exC_eq, exW_eq, coC_eq, coW_eq]
    unfold BW at hB
    obtain ⟨u, hu⟩ : ∃ u, u = (a.length : Int) :: fmW Ex.w a := ⟨_, rfl⟩
    have ul : u.length = (fmW Ex.w a).length + 1 := by rw [hu, List.length_cons]
    obtain ⟨w, hw⟩ : ∃ w, w = (c.length : Int) :: fmW Co.w c := ⟨_, rfl⟩
    have wl : w.length = (fmW Co.w c).length + 1 := by rw [hw, List.length_cons]
    rw [← List.cons_append, ← hu, ← hw]
    rw [← hu] at ca
    rw [← hw] at cl
    refine FC.of_AW tok Try.func73 (by kernel_rfl) rfl Try.ntmps73 [] rfl rfl rfl ?_; intro w0 X0 Y f0 hI0 hX0
    (repeat (first | refine K4 ?_ | refine L1 ?_ | refine L2 ?_ | refine RG.d ?_ | refine S1 ?_ | refine S2 ?_))
    refine RG.call rfl rfl rfl rfl (ca) [] rfl rfl rfl rfl (.nil _) (.nil _) (fun _ h => False.elim h) rfl (A.ren_free _ _ rfl) rfl ?_
    refine RG.append tok rfl rfl rfl rfl rfl rfl rfl rfl (n1 := 1) (c := [i64 op]) (ks := [1]) rfl (m := u.length) (l := ints .i64 u) (ks' := []) rfl (by rw [ints_length, Nat.mul_one]) (Nat.le_refl 1) (ints_cell _ _) (by omega) (by omega) rfl (c' := ints .i64 (op :: u)) rfl ?_
    (repeat (first | refine K4 ?_ | refine L1 ?_))
    refine RG.call rfl rfl rfl rfl (cl) [] rfl rfl rfl rfl (.nil _) (.nil _) (fun _ h => False.elim h) rfl (A.ren_free _ _ rfl) rfl ?_
    refine RG.append tok rfl rfl rfl rfl rfl rfl rfl rfl (n1 := 1 + u.length) (c := ints .i64 (op :: u)) (ks := [2]) rfl (m := w.length) (l := ints .i64 w) (ks' := []) rfl (by rw [ints_length, Nat.mul_one]) (by rw [ints_length, List.length_cons]; omega) (ints_cell _ _) (by omega) (by omega) rfl (c' := ints .i64 (op :: (u ++ w))) (by rw [ints_take _ _ _ (by rw [List.length_cons]; omega), ← ints_append]; rfl) ?_
    (repeat (first | refine K4 ?_ | refine RG.dd ?_))
    refine AW.sub (Sub.frz (ks := [3]) 2 rfl (frzI (xs := op :: (u ++ w)) rfl (by decide) (by simp only [List.length_cons, List.length_append]; omega))) ?_
    (repeat (first | refine S6 ?_))
    exact ⟨⟨_, rfl, rfl⟩, rfl, .nil _⟩
termination_by e => SizeOf.sizeOf e
decreasing_by
  have := List.sizeOf_lt_of_mem hx
  simp_wf
  omega
def rcl (x : List Int) : List A := [rdi x]
theorem flat_take (l : List (List Int)) (i : Nat) (x : List Int) (h : l[i]? = some x) : (l.take (i + 1)).flatten = (l.take i).flatten ++ x := by
  induction l generalizing i with
  | nil => simp at h
  | cons y l ih =>
    cases i with
    | zero => simp only [List.getElem?_cons_zero, Option.some.injEq] at h; subst h; simp
    | succ i => simp only [List.take_succ_cons, List.flatten_cons]; rw [ih i (by simpa using h), List.append_assoc]
theorem flat_le (l : List (List Int)) (i : Nat) : (l.take i).flatten.length ≤ l.flatten.length := by
  have h := congrArg (fun x => x.flatten.length) (List.take_append_drop i l)
  simp only [List.flatten_append, List.length_append] at h
  omega
set_option maxRecDepth 10000 in
set_option maxHeartbeats 4000000 in
theorem concat_fc (l : List (List Int)) (hl : l.length ≤ 100) (hB : l.flatten.length ≤ BW) : FC Try.prog ge 66 [.ro l.length (flC rcl l)] [] (rdi l.flatten) [] NoP := by
  unfold BW at hB
  obtain ⟨W, hW⟩ : ∃ W, W = l.flatten := ⟨_, rfl⟩
  rw [← hW]
  refine FC.of_AW tok Try.func66 (by kernel_rfl) rfl Try.ntmps66 [] rfl rfl rfl ?_; intro w0 X0 Y f0 hI0 hX0
  refine S1 ?_; (repeat (first | refine K4 ?_ | refine RG.d ?_ | refine S2 ?_)); refine S1 ?_; (repeat (first | refine K4 ?_ | refine RG.d ?_ | refine S2 ?_))
  refine AW.sub (Sub.nil 3 1 rfl) ?_
  refine AW.seqJ (fun _ : Unit => ⟨put 3 (some (rdi W)) noE, noH, 0⟩) (fun _ => True) ?_ ?_
  · refine S1 ?_; (repeat (first | refine K4 ?_ | refine RG.d ?_ | refine S2 ?_ | refine S4 ?_))
    refine AW.loopS (fun p : Nat × List Int => ⟨put 3 (some (.sl 0 [] 1 0 p.2.length)) (put 6 (some (.ro l.length (flC rcl l))) (put 7 (some (i64 (l.length : Int))) (put 8 (some (i64 (p.1 : Int))) noE))), hput 0 (.one (ints .i64 p.2)) noH, 1⟩)
      (fun p => p.1 ≤ l.length ∧ p.2 = (l.take p.1).flatten) (fun p => l.length - p.1) (0, []) ⟨Nat.zero_le _, by simp⟩ (Sub.of (by repeat (first | exact SubE.no _ | refine SubE.put rfl ?_)) (by repeat (first | exact SubH.no _ | refine SubH.put rfl ?_)) rfl) ?_
    rintro ⟨i, U⟩ ⟨hi, hU⟩
    dsimp only at hi hU
    (repeat (first | refine K4 ?_ | refine RG.d ?_ | refine S1 ?_ | refine S2 ?_))
    refine AW.condD rfl (fun k => ?_) (fun k => ?_)
    rotate_left
    · have hi2 : i = l.length := by
        have : ¬ (i : Int) < (l.length : Int) := k
        omega
      rw [hi2, List.take_length, ← hW] at hU
      subst hU
      (repeat (first | refine S5 ?_))
      exact ⟨(), trivial, Sub.trans (Sub.frz (ks := [0]) 3 rfl (frzI rfl (by decide) rfl)) (Sub.down (by repeat (first | exact SubE.no _ | refine SubE.put rfl ?_)) (by repeat (first | exact SubH.no _ | refine SubH.put rfl ?_)) (by repeat (first | exact LtE.no _ | refine LtE.put rfl ?_)) (by repeat (first | exact LtH.no _ | refine LtH.put rfl rfl ?_)) rfl)⟩
    have hi2 : i < l.length := by
      have : (i : Int) < (l.length : Int) := k
      omega
    obtain ⟨x, hx⟩ : ∃ x, l[i]? = some x := ⟨_, List.getElem?_eq_getElem hi2⟩
    have hat := flC_at (cl := rcl) (st := 1) (fun _ => rfl) l i x hx
    have hU2 := flat_take l i x hx
    have hlen := flat_le l (i + 1)
    rw [hU2, ← hU, List.length_append] at hlen
    simp only [rcl, List.cons_append, List.nil_append] at hat
    (repeat (first | refine S1 ?_ | refine S2 ?_ | refine S3 ?_ | refine S4 ?_))
    refine RG.idx tok rfl rfl rfl rfl rfl rfl hat ⟨by omega, by omega⟩ rfl ?_
    (repeat (first | refine K4 ?_ | refine L1 ?_ | refine RG.d ?_ | refine S2 ?_))
    refine RG.append tok rfl rfl rfl rfl rfl rfl rfl rfl (n1 := U.length) (c := ints .i64 U) (ks := [0]) rfl (m := x.length) (l := ints .i64 x) (ks' := []) rfl (by rw [ints_length, Nat.mul_one]) (by rw [ints_length]; omega) (ints_cell _ _) (by omega) (by omega) rfl (c' := ints .i64 (U ++ x)) (by rw [ints_take _ _ _ rfl, ints_append]) ?_
    rw [show U.length + x.length = (U ++ x).length from List.length_append.symm]
    (repeat (first | refine K2 ?_ | refine K4 ?_ | refine RG.d ?_ | refine S2 ?_))
    refine ⟨(i + 1, U ++ x), ⟨by dsimp only; omega, by dsimp only; rw [hU2, hU]⟩, by dsimp only; omega, Sub.renB (fun a => a + 1) ?_ ?_ (fun a b h => by simpa using h) (fun a ha => ?_) (fun a ha => absurd ha (Nat.not_lt_zero _))⟩
    · exact SubEr.put rfl (SubEr.put rfl (SubEr.put rfl (SubEr.put rfl (SubEr.no _ _))))
    · exact SubHr.put rfl (ints_free _ _ _) (SubHr.no _ _)
    · have ha : 1 ≤ a := ha
      show 2 ≤ a + 1
      omega
  intro _ _
  (repeat (first | refine K4 ?_ | refine RG.d ?_ | refine S1 ?_ | refine S2 ?_ | refine S6 ?_))
  exact ⟨⟨_, rfl, rfl⟩, rfl, .nil _⟩
theorem list_int (l : List Int) (hB : 1 + l.length ≤ BW) : FC Try.prog ge 75 [rdi l, .fn 48 [] []] [] (rdi ((l.length : Int) :: l)) [] NoP := by
  have h := list_int_fc 48 l (fun x _ => one_fc x) (by rw [iw_fm]; exact hB)
  rw [iw_fm] at h
  have e : flC icl l = ints .i64 l := by
    induction l with
    | nil => rfl
    | cons x l ih => rw [flC, ih (by simp only [List.length_cons] at hB; omega) (by have := list_int_fc 48 l (fun x _ => one_fc x) (by rw [iw_fm]; simp only [List.length_cons] at hB; omega); rw [iw_fm] at this; exact this)]; rfl
  rw [e] at h
  exact h
theorem sm_flat (x : Sm) : ∃ l : List (List Int), l.length = 8 ∧ l.flatten = x.w := by
  obtain ⟨site, op, n, m, v, a, b, c, args, ptrs, body, els⟩ := x
  exact ⟨[[site, op, n, m, v], a.w, b.w, c.w, (args.length : Int) :: fmW Ex.w args, (ptrs.length : Int) :: ptrs, (body.length : Int) :: fmW Sm.w body, (els.length : Int) :: fmW Sm.w els], rfl, by simp [Sm.w, exW_eq, smW_eq]⟩
set_option maxHeartbeats 8000000 in
set_option maxRecDepth 10000 in
theorem sm_fc : ∀ (e : Sm), e.w.length ≤ BW → FC Try.prog ge 42 [.agg e.cl] [] (rdi e.w) [] NoP
  | .mk site op n m v a b c args ptrs body els, hB => by
    have hw : (Sm.mk site op n m v a b c args ptrs body els).w = [[site, op, n, m, v], a.w, b.w, c.w, (args.length : Int) :: fmW Ex.w args, (ptrs.length : Int) :: ptrs, (body.length : Int) :: fmW Sm.w body, (els.length : Int) :: fmW Sm.w els].flatten := by simp [Sm.w, exW_eq, smW_eq]
    have hB2 := hB
    rw [hw] at hB2
    simp only [List.flatten_cons, List.length_append, List.length_cons, List.flatten_nil, List.length_nil] at hB2
    have cc := concat_fc [[site, op, n, m, v], a.w, b.w, c.w, (args.length : Int) :: fmW Ex.w args, (ptrs.length : Int) :: ptrs, (body.length : Int) :: fmW Sm.w body, (els.length : Int) :: fmW Sm.w els] (by simp) (by rw [← hw]; exact hB)
    rw [← hw] at cc
    have c1 := ex_fc a (by omega)
    have c2 := ex_fc b (by omega)
    have c3 := co_fc c (by omega)
    have c4 := list_ex args (by omega)
    have c5 := list_int ptrs (by omega)
    have c6 := list_sm_fc 42 body (fun x hx => sm_fc x (by have := fmW_mem Sm.w body x hx; omega)) (by omega)
    have c7 := list_sm_fc 42 els (fun x hx => sm_fc x (by have := fmW_mem Sm.w els x hx; omega)) (by omega)
    obtain ⟨W, hW⟩ : ∃ W, W = (Sm.mk site op n m v a b c args ptrs body els).w := ⟨_, rfl⟩
    rw [← hW] at cc ⊢
    clear hB hB2 hw hW
    obtain ⟨wa, hwa⟩ : ∃ w, w = a.w := ⟨_, rfl⟩
    obtain ⟨wb, hwb⟩ : ∃ w, w = b.w := ⟨_, rfl⟩
    obtain ⟨wc, hwc⟩ : ∃ w, w = c.w := ⟨_, rfl⟩
    rw [← hwa] at c1 cc
    rw [← hwb] at c2 cc
    rw [← hwc] at c3 cc
    clear hwa hwb hwc
    obtain ⟨w4, h4⟩ : ∃ w, w = (args.length : Int) :: fmW Ex.w args := ⟨_, rfl⟩
    obtain ⟨w5, h5⟩ : ∃ w, w = (ptrs.length : Int) :: ptrs := ⟨_, rfl⟩
    obtain ⟨w6, h6⟩ : ∃ w, w = (body.length : Int) :: fmW Sm.w body := ⟨_, rfl⟩
    obtain ⟨w7, h7⟩ : ∃ w, w = (els.length : Int) :: fmW Sm.w els := ⟨_, rfl⟩
    rw [← h4] at c4 cc
    rw [← h5] at c5 cc
    rw [← h6] at c6 cc
    rw [← h7] at c7 cc
    clear h4 h5 h6 h7
    rw [show args.length = args.length from rfl] at *
    obtain ⟨a1, a2, a3, a4⟩ := a
    obtain ⟨b1, b2, b3, b4⟩ := b
    obtain ⟨d1, d2, d3⟩ := c
    simp only [Sm.cl, Ex.cl, Co.cl, exC_eq, coC_eq, smC_eq, List.cons_append, List.nil_append] at c1 c2 c3 ⊢
    refine FC.of_AW tok Try.func42 (by kernel_rfl) rfl Try.ntmps42 [] rfl rfl rfl ?_; intro w0 X0 Y f0 hI0 hX0
    (repeat (first | refine RG.call rfl rfl rfl rfl (c1) [] rfl rfl rfl rfl (.nil _) (.nil _) (fun _ h => False.elim h) rfl (A.ren_free _ _ rfl) rfl ?_ | refine RG.call rfl rfl rfl rfl (c2) [] rfl rfl rfl rfl (.nil _) (.nil _) (fun _ h => False.elim h) rfl (A.ren_free _ _ rfl) rfl ?_ | refine RG.call rfl rfl rfl rfl (c3) [] rfl rfl rfl rfl (.nil _) (.nil _) (fun _ h => False.elim h) rfl (A.ren_free _ _ rfl) rfl ?_ | refine RG.call rfl rfl rfl rfl (c4) [] rfl rfl rfl rfl (.nil _) (.nil _) (fun _ h => False.elim h) rfl (A.ren_free _ _ rfl) rfl ?_ | refine RG.call rfl rfl rfl rfl (c5) [] rfl rfl rfl rfl (.nil _) (.nil _) (fun _ h => False.elim h) rfl (A.ren_free _ _ rfl) rfl ?_ | refine RG.call rfl rfl rfl rfl (c6) [] rfl rfl rfl rfl (.nil _) (.nil _) (fun _ h => False.elim h) rfl (A.ren_free _ _ rfl) rfl ?_ | refine RG.call rfl rfl rfl rfl (c7) [] rfl rfl rfl rfl (.nil _) (.nil _) (fun _ h => False.elim h) rfl (A.ren_free _ _ rfl) rfl ?_ | refine K4 ?_ | refine L1 ?_ | refine L2 ?_ | refine RG.d ?_ | refine S1 ?_ | refine S2 ?_))
    refine RG.callG rfl rfl rfl rfl cc [] [1, 2] rfl rfl (.cons (FView.sl (l := [.sl 1 [] 1 0 5, rdi wa, rdi wb, rdi wc, rdi w4, rdi w5, rdi w6, rdi w7]) rfl (by decide) rfl (.cons (FView.sl (l := [i64 site, i64 op, i64 n, i64 m, i64 v]) rfl (by decide) rfl (FViews.reflL _ _ _) rfl rfl) (FViews.reflL _ _ _)) rfl rfl) .nil) rfl rfl (.nil _) (.nil _) rfl (fun _ h => False.elim h) rfl (A.ren_free _ _ rfl) rfl ?_
    (repeat (first | refine K4 ?_ | refine RG.dd ?_ | refine S6 ?_))
    exact ⟨⟨_, rfl, rfl⟩, rfl, .nil _⟩
termination_by e => SizeOf.sizeOf e
decreasing_by
  all_goals
    have := List.sizeOf_lt_of_mem hx
    simp_wf
    omega
theorem list_sm (l : List Sm) (hB : 1 + (fmW Sm.w l).length ≤ BW) : FC Try.prog ge 71 [.ro l.length (flC Sm.cl l), .fn 42 [] []] [] (rdi ((l.length : Int) :: fmW Sm.w l)) [] NoP :=
  list_sm_fc _ l (fun x hx => sm_fc x (by have := fmW_mem Sm.w l x hx; omega)) hB
end Go.Proofs.Ytmfccaidgaelcaa
