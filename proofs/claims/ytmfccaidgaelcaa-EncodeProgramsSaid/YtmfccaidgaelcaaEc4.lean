/- The words of trees, as the reference writes them. No conditions. -/
import Derived.Test.YtmfccaidgaelcaaEc3
import Derived.Test.YtmfccaidgaelcaaAbsE
set_option linter.unusedVariables false
set_option linter.unusedSimpArgs false
namespace Go.Proofs.Ytmfccaidgaelcaa
open Go.Abs Go Go.RowKit
/-- Numbers of objects behind a round: 0 stays, 1 is the new one. -/
def sig4 (k : Nat) : Nat := if k = 0 then 0 else k + 3
def sig2 (k : Nat) : Nat := if k = 0 then 0 else k + 1
theorem sig4_inj : ∀ a b, sig4 a = sig4 b → a = b := by intro a b h; unfold sig4 at h; split at h <;> split at h <;> omega
theorem sig2_inj : ∀ a b, sig2 a = sig2 b → a = b := by intro a b h; unfold sig2 at h; split at h <;> split at h <;> omega
theorem sig4_hi (a : Nat) (ha : 2 ≤ a) : 5 ≤ sig4 a := by unfold sig4; split <;> omega
theorem sig2_hi (a : Nat) (ha : 2 ≤ a) : 3 ≤ sig2 a := by unfold sig2; split <;> omega
set_option maxHeartbeats 4000000 in
theorem rints_fc (l : List Int) (hB : 1 + l.length ≤ BW) : FC Try.prog ge 39 [rdi l] [] (rdi ((l.length : Int) :: l)) [] NoP := by
  unfold BW at hB
  refine FC.of_AW tok Try.func39 (by kernel_rfl) rfl Try.ntmps39 [] rfl rfl rfl ?_; intro w0 X0 Y f0 hI0 hX0
  (repeat (first | refine K4 ?_ | refine L2 ?_ | refine RG.d ?_ | refine S1 ?_ | refine S2 ?_))
  refine RG.append tok rfl rfl rfl rfl rfl rfl rfl rfl (n1 := 1) (c := ints .i64 [(l.length : Int)]) (ks := [0]) rfl (m := l.length) (l := ints .i64 l) (ks' := []) rfl (by rw [ints_length, Nat.mul_one] <;> rfl) (by simp [ints_length, List.length_append] <;> omega) (ints_cell _ _) (by omega) (by omega) rfl (c' := ints .i64 ([(l.length : Int)] ++ l)) (by rw [ints_take _ _ _ (by simp [List.length_append] <;> omega), ← ints_append]) ?_
  (repeat (first | refine K4 ?_ | refine RG.d ?_))
  refine AW.sub (Sub.frz (ks := [1]) 2 rfl (frzI (xs := [(l.length : Int)] ++ l) rfl (by decide) (by simp only [List.length_cons, List.length_append, List.length_nil]))) ?_
  (repeat (first | refine S6 ?_))
  exact ⟨⟨_, rfl, rfl⟩, rfl, .nil _⟩

set_option maxHeartbeats 4000000 in
theorem rexs_fc (l : List Ex) (c : ∀ x, x ∈ l → FC Try.prog ge 36 [.agg x.cl] [] (rdi (Ex.w x)) [] NoP) (hB : 1 + (fmW Ex.w l).length ≤ BW) :
    FC Try.prog ge 38 [.ro l.length (flC Ex.cl l)] [] (rdi ((l.length : Int) :: fmW Ex.w l)) [] NoP := by
  have hl : l.length ≤ BW := by have := fmW_len (w := Ex.w) (fun x => Ex.w_pos x) l; omega
  unfold BW at hB hl
  obtain ⟨W, hW⟩ : ∃ W, W = (l.length : Int) :: fmW Ex.w l := ⟨_, rfl⟩
  rw [← hW]
  refine FC.of_AW tok Try.func38 (by kernel_rfl) rfl Try.ntmps38 [] rfl rfl rfl ?_; intro w0 X0 Y f0 hI0 hX0
  refine S1 ?_; (repeat (first | refine K4 ?_ | refine RG.d ?_ | refine S2 ?_)); refine S1 ?_; (repeat (first | refine K4 ?_ | refine L2 ?_ | refine RG.d ?_ | refine S2 ?_))
  refine AW.seqJ (fun _ : Unit => ⟨put 3 (some (rdi W)) noE, noH, 0⟩) (fun _ => True) ?_ ?_
  · refine S1 ?_; (repeat (first | refine K4 ?_ | refine RG.d ?_ | refine S2 ?_ | refine S4 ?_))
    refine AW.loopS (fun p : Nat × List Int => ⟨put 0 (some (.ro l.length (flC Ex.cl l))) (put 3 (some (.sl 0 [] 1 0 p.2.length)) (put 4 (some (i64 (p.1 : Int))) noE)), hput 0 (.one (ints .i64 p.2)) noH, 1⟩)
      (fun p => p.1 ≤ l.length ∧ p.2 = (l.length : Int) :: fmW Ex.w (l.take p.1)) (fun p => l.length - p.1) (0, [(l.length : Int)]) ⟨Nat.zero_le _, by simp [fmW]⟩ (Sub.of (by repeat (first | exact SubE.no _ | refine SubE.put rfl ?_)) (by repeat (first | exact SubH.no _ | refine SubH.put rfl ?_)) rfl) ?_
    rintro ⟨i, U⟩ ⟨hi, hU⟩
    dsimp only at hi hU
    (repeat (first | refine K4 ?_ | refine RG.d ?_ | refine S1 ?_ | refine S2 ?_))
    refine AW.condD rfl (fun k => ?_) (fun k => ?_)
    rotate_left
    · have hi2 : i = l.length := by
        have : ¬ (i : Int) < (l.length : Int) := k
        omega
      rw [hi2, List.take_length, ← hW] at hU
      subst hU
      (repeat (first | refine S5 ?_))
      exact ⟨(), trivial, Sub.trans (Sub.frz (ks := [0]) 3 rfl (frzI rfl (by decide) rfl)) (Sub.down (by repeat (first | exact SubE.no _ | refine SubE.put rfl ?_)) (by repeat (first | exact SubH.no _ | refine SubH.put rfl ?_)) (by repeat (first | exact LtE.no _ | refine LtE.put rfl ?_)) (by repeat (first | exact LtH.no _ | refine LtH.put rfl rfl ?_)) rfl)⟩
    have hi2 : i < l.length := by
      have : (i : Int) < (l.length : Int) := k
      omega
    obtain ⟨x, hx⟩ : ∃ x, l[i]? = some x := ⟨_, List.getElem?_eq_getElem hi2⟩
    have hat := flC_at Ex.cl_len l i x hx
    have hU2 := fmW_take Ex.w l i x hx
    have hlen := fmW_le Ex.w l (i + 1)
    rw [hU2, List.length_append] at hlen
    have hUl : U.length = 1 + (fmW Ex.w (l.take i)).length := by rw [hU, List.length_cons]; omega
    have cx := c x (List.mem_of_getElem? hx)
    obtain ⟨u, hu⟩ : ∃ u, u = Ex.w x := ⟨_, rfl⟩
    rw [show Ex.w x = u from hu.symm] at cx hlen hU2
    obtain ⟨op, n, v, a⟩ := x; simp only [Ex.cl, List.cons_append, List.nil_append] at hat cx
    (repeat (first | refine K4 ?_ | refine S1 ?_ | refine S2 ?_ | refine S3 ?_ | refine S4 ?_))
    refine RG.idx tok rfl rfl rfl rfl rfl rfl hat ⟨by omega, by omega⟩ rfl ?_
    (repeat (first | refine L1 ?_))
    refine RG.call rfl rfl rfl rfl (cx) [] rfl rfl rfl rfl (.nil _) (.nil _) (fun _ h => False.elim h) rfl (A.ren_free _ _ rfl) rfl ?_
    refine RG.append tok rfl rfl rfl rfl rfl rfl rfl rfl (n1 := U.length) (c := ints .i64 U) (ks := [0]) rfl (m := u.length) (l := ints .i64 u) (ks' := []) rfl (by rw [ints_length, Nat.mul_one] <;> rfl) (by simp [ints_length, List.length_append] <;> omega) (ints_cell _ _) (by omega) (by omega) rfl (c' := ints .i64 (U ++ u)) (by rw [ints_take _ _ _ (by simp [List.length_append] <;> omega), ← ints_append]) ?_
    rw [show U.length + u.length = (U ++ u).length from List.length_append.symm]
    (repeat (first | refine K2 ?_ | refine K4 ?_ | refine RG.d ?_ | refine S2 ?_))
    refine ⟨(i + 1, U ++ u), ⟨by dsimp only; omega, by dsimp only; rw [hU2, hU]; rfl⟩, by dsimp only; omega, Sub.renB (fun a => a + 1) ?_ ?_ (fun a b h => by simpa using h) (fun a ha => ?_) (fun a ha => absurd ha (Nat.not_lt_zero _))⟩
    · exact SubEr.put rfl (SubEr.put rfl (SubEr.put rfl (SubEr.no _ _)))
    · exact SubHr.put rfl (ints_free _ _ _) (SubHr.no _ _)
    · have ha : 1 ≤ a := ha
      show 2 ≤ a + 1
      omega
  intro _ _
  (repeat (first | refine K4 ?_ | refine RG.d ?_ | refine S1 ?_ | refine S2 ?_ | refine S6 ?_))
  exact ⟨⟨_, rfl, rfl⟩, rfl, .nil _⟩

set_option maxHeartbeats 4000000 in
theorem rex_fc : ∀ (e : Ex), e.w.length ≤ BW → FC Try.prog ge 36 [.agg e.cl] [] (rdi e.w) [] NoP
  | .mk op n v a, hB => by
    simp only [Ex.w, exW_eq, List.length_cons] at hB
    have cl := rexs_fc a (fun x hx => rex_fc x (by have := fmW_mem Ex.w a x hx; unfold BW at *; omega)) (by unfold BW at *; omega)
    simp only [Ex.w, Ex.cl, exC_eq, exW_eq]
    unfold BW at hB
    obtain ⟨u, hu⟩ : ∃ u, u = (a.length : Int) :: fmW Ex.w a := ⟨_, rfl⟩
    have ul : u.length = (fmW Ex.w a).length + 1 := by rw [hu, List.length_cons]
    rw [← hu] at cl ⊢
    refine FC.of_AW tok Try.func36 (by kernel_rfl) rfl Try.ntmps36 [] rfl rfl rfl ?_; intro w0 X0 Y f0 hI0 hX0
    (repeat (first | refine K4 ?_ | refine L1 ?_ | refine L2 ?_ | refine RG.d ?_ | refine S1 ?_ | refine S2 ?_))
    refine RG.call rfl rfl rfl rfl (cl) [] rfl rfl rfl rfl (.nil _) (.nil _) (fun _ h => False.elim h) rfl (A.ren_free _ _ rfl) rfl ?_
    refine RG.append tok rfl rfl rfl rfl rfl rfl rfl rfl (n1 := 3) (c := ints .i64 [op, n, v]) (ks := [1]) rfl (m := u.length) (l := ints .i64 u) (ks' := []) rfl (by rw [ints_length, Nat.mul_one] <;> rfl) (by simp [ints_length, List.length_append] <;> omega) (ints_cell _ _) (by omega) (by omega) rfl (c' := ints .i64 ([op, n, v] ++ u)) (by rw [ints_take _ _ _ (by simp [List.length_append] <;> omega), ← ints_append]) ?_
    (repeat (first | refine K4 ?_ | refine RG.dd ?_))
    refine AW.sub (Sub.frz (ks := [2]) 2 rfl (frzI (xs := [op, n, v] ++ u) rfl (by decide) (by simp only [List.length_cons, List.length_append, List.length_nil]))) ?_
    (repeat (first | refine S6 ?_))
    exact ⟨⟨_, rfl, rfl⟩, rfl, .nil _⟩
termination_by e => SizeOf.sizeOf e
decreasing_by
  have := List.sizeOf_lt_of_mem hx
  simp_wf
  omega
theorem rexs (l : List Ex) (hB : 1 + (fmW Ex.w l).length ≤ BW) : FC Try.prog ge 38 [.ro l.length (flC Ex.cl l)] [] (rdi ((l.length : Int) :: fmW Ex.w l)) [] NoP :=
  rexs_fc l (fun x hx => rex_fc x (by have := fmW_mem Ex.w l x hx; omega)) hB
set_option maxHeartbeats 8000000 in
theorem rco_fc : ∀ (e : Co), e.w.length ≤ BW → FC Try.prog ge 37 [.agg e.cl] [] (rdi e.w) [] NoP
  | .mk op a l, hB => by
    simp only [Co.w, exW_eq, coW_eq, List.length_cons, List.length_append] at hB
    have hl : l.length ≤ BW := by have := fmW_len (w := Co.w) (fun x => Co.w_pos x) l; unfold BW at *; omega
    have c : ∀ x, x ∈ l → FC Try.prog ge 37 [.agg x.cl] [] (rdi x.w) [] NoP := fun x hx => rco_fc x (by have := fmW_mem Co.w l x hx; unfold BW at *; omega)
    have ca := rexs a (by unfold BW at *; omega)
    simp only [Co.w, Co.cl, exC_eq, exW_eq, coC_eq, coW_eq]
    unfold BW at hB hl
    obtain ⟨u, hu⟩ : ∃ u, u = (a.length : Int) :: fmW Ex.w a := ⟨_, rfl⟩
    have ul : u.length = (fmW Ex.w a).length + 1 := by rw [hu, List.length_cons]
    obtain ⟨B, hBB⟩ : ∃ B, B = [op] ++ u ++ [(l.length : Int)] := ⟨_, rfl⟩
    have hBl : B.length = u.length + 2 := by rw [hBB]; simp only [List.length_cons, List.length_append, List.length_nil]; omega
    rw [show op :: (a.length : Int) :: (fmW Ex.w a ++ (l.length : Int) :: fmW Co.w l) = B ++ fmW Co.w l by rw [hBB, hu]; simp]
    rw [← hu] at ca
    obtain ⟨W, hW⟩ : ∃ W, W = B ++ fmW Co.w l := ⟨_, rfl⟩
    rw [← hW]
    refine FC.of_AW tok Try.func37 (by kernel_rfl) rfl Try.ntmps37 [] rfl rfl rfl ?_; intro w0 X0 Y f0 hI0 hX0
    refine S1 ?_
    (repeat (first | refine K4 ?_ | refine L2 ?_ | refine RG.d ?_ | refine S2 ?_))
    refine S1 ?_
    (repeat (first | refine K4 ?_ | refine L1 ?_ | refine L2 ?_ | refine S2 ?_))
    refine RG.call rfl rfl rfl rfl (ca) [] rfl rfl rfl rfl (.nil _) (.nil _) (fun _ h => False.elim h) rfl (A.ren_free _ _ rfl) rfl ?_
    refine RG.append tok rfl rfl rfl rfl rfl rfl rfl rfl (n1 := 1) (c := ints .i64 [op]) (ks := [1]) rfl (m := u.length) (l := ints .i64 u) (ks' := []) rfl (by rw [ints_length, Nat.mul_one] <;> rfl) (by simp [ints_length, List.length_append] <;> omega) (ints_cell _ _) (by omega) (by omega) rfl (c' := ints .i64 ([op] ++ u)) (by rw [ints_take _ _ _ (by simp [List.length_append] <;> omega), ← ints_append]) ?_
    (repeat (first | refine K4 ?_ | refine L1 ?_ | refine L2 ?_))
    refine RG.append tok rfl rfl rfl rfl rfl rfl rfl rfl (n1 := (1 + u.length)) (c := ints .i64 ([op] ++ u)) (ks := [2]) rfl (m := 1) (l := ints .i64 [(l.length : Int)]) (ks' := [3]) rfl (by rw [ints_length, Nat.mul_one] <;> rfl) (by simp [ints_length, List.length_append] <;> omega) (ints_cell _ _) (by omega) (by omega) rfl (c' := ints .i64 (([op] ++ u) ++ [(l.length : Int)])) (by rw [ints_take _ _ _ (by simp [List.length_append] <;> omega), ← ints_append]) ?_
    rw [← hBB, show 1 + u.length + 1 = B.length by omega]
    (repeat (first | refine K4 ?_ | refine RG.dd ?_))
    refine AW.seqJ (fun _ : Unit => ⟨put 3 (some (rdi W)) noE, noH, 0⟩) (fun _ => True) ?_ ?_
    · refine S1 ?_; (repeat (first | refine K4 ?_ | refine RG.d ?_ | refine S2 ?_ | refine S4 ?_))
      refine AW.loopS (fun p : Nat × List Int => ⟨put 1 (some (.ptr 0 [] 0)) (put 3 (some (.sl 1 [] 1 0 p.2.length)) (put 4 (some (i64 (p.1 : Int))) noE)), hput 0 (.one ([i64 op, .ro a.length (flC Ex.cl a), .ro l.length (flC Co.cl l)])) (hput 1 (.one (ints .i64 p.2)) noH), 2⟩)
        (fun p => p.1 ≤ l.length ∧ p.2 = B ++ fmW Co.w (l.take p.1)) (fun p => l.length - p.1) (0, B) ⟨Nat.zero_le _, by simp [fmW]⟩ (Sub.renB sig4 ?_ ?_ ?_ ?_ ?_) ?_
      · exact SubEr.put rfl (SubEr.put rfl (SubEr.put rfl (SubEr.no _ _)))
      · exact SubHr.put rfl rfl (SubHr.put rfl (ints_free _ _ _) (SubHr.no _ _))
      · exact sig4_inj
      · intro a ha
        exact sig4_hi a ha
      · intro a ha
        exact absurd ha (Nat.not_lt_zero _)
      rintro ⟨i, U⟩ ⟨hi, hU⟩
      dsimp only at hi hU
      (repeat (first | refine K4 ?_ | refine L1 ?_ | refine RG.d ?_ | refine S1 ?_ | refine S2 ?_))
      refine AW.condD rfl (fun k => ?_) (fun k => ?_)
      rotate_left
      · have hi2 : i = l.length := by
          have : ¬ (i : Int) < (l.length : Int) := k
          omega
        rw [hi2, List.take_length, ← hW] at hU
        subst hU
        (repeat (first | refine S5 ?_))
        exact ⟨(), trivial, Sub.trans (Sub.frz (ks := [1]) 3 rfl (frzI rfl (by decide) rfl)) (Sub.down (by repeat (first | exact SubE.no _ | refine SubE.put rfl ?_)) (by repeat (first | exact SubH.no _ | refine SubH.put rfl ?_)) (by repeat (first | exact LtE.no _ | refine LtE.put rfl ?_)) (by repeat (first | exact LtH.no _ | refine LtH.put rfl rfl ?_)) rfl)⟩
      have hi2 : i < l.length := by
        have : (i : Int) < (l.length : Int) := k
        omega
      obtain ⟨x, hx⟩ : ∃ x, l[i]? = some x := ⟨_, List.getElem?_eq_getElem hi2⟩
      have hat := flC_at Co.cl_len l i x hx
      have hU2 := fmW_take Co.w l i x hx
      have hlen := fmW_le Co.w l (i + 1)
      rw [hU2, List.length_append] at hlen
      have hUl : U.length = B.length + (fmW Co.w (l.take i)).length := by rw [hU, List.length_append]
      have cx := c x (List.mem_of_getElem? hx)
      obtain ⟨z, hz⟩ : ∃ u, u = Co.w x := ⟨_, rfl⟩
      rw [show Co.w x = z from hz.symm] at cx hlen hU2
      obtain ⟨q1, q2, q3⟩ := x
      simp only [Co.cl, List.cons_append, List.nil_append] at hat cx
      (repeat (first | refine K4 ?_ | refine L1 ?_ | refine S1 ?_ | refine S2 ?_ | refine S3 ?_ | refine S4 ?_))
      refine RG.idx tok rfl rfl rfl rfl rfl rfl hat ⟨by omega, by omega⟩ rfl ?_
      (repeat (first | refine L1 ?_))
      refine RG.call rfl rfl rfl rfl (cx) [] rfl rfl rfl rfl (.nil _) (.nil _) (fun _ h => False.elim h) rfl (A.ren_free _ _ rfl) rfl ?_
      refine RG.append tok rfl rfl rfl rfl rfl rfl rfl rfl (n1 := U.length) (c := ints .i64 U) (ks := [1]) rfl (m := z.length) (l := ints .i64 z) (ks' := []) rfl (by rw [ints_length, Nat.mul_one] <;> rfl) (by simp [ints_length, List.length_append] <;> omega) (ints_cell _ _) (by omega) (by omega) rfl (c' := ints .i64 (U ++ z)) (by rw [ints_take _ _ _ (by simp [List.length_append] <;> omega), ← ints_append]) ?_
      rw [show U.length + z.length = (U ++ z).length from List.length_append.symm]
      (repeat (first | refine K2 ?_ | refine K4 ?_ | refine RG.d ?_ | refine S2 ?_))
      refine ⟨(i + 1, U ++ z), ⟨by dsimp only; omega, by dsimp only; rw [hU2, hU, List.append_assoc]⟩, by dsimp only; omega, Sub.renB sig2 ?_ ?_ ?_ ?_ ?_⟩
      · exact SubEr.put rfl (SubEr.put rfl (SubEr.put rfl (SubEr.no _ _)))
      · exact SubHr.put rfl rfl (SubHr.put rfl (ints_free _ _ _) (SubHr.no _ _))
      · exact sig2_inj
      · intro a ha
        exact sig2_hi a ha
      · intro a ha
        exact absurd ha (Nat.not_lt_zero _)
    intro _ _
    (repeat (first | refine K4 ?_ | refine RG.d ?_ | refine S1 ?_ | refine S2 ?_ | refine S6 ?_))
    exact ⟨⟨_, rfl, rfl⟩, rfl, .nil _⟩
termination_by e => SizeOf.sizeOf e
decreasing_by
  have := List.sizeOf_lt_of_mem hx
  simp_wf
  omega

set_option maxHeartbeats 4000000 in
theorem rsms_fc (l : List Sm) (c : ∀ x, x ∈ l → FC Try.prog ge 15 [.agg x.cl] [] (rdi (Sm.w x)) [] NoP) (hB : 1 + (fmW Sm.w l).length ≤ BW) :
    FC Try.prog ge 40 [.ro l.length (flC Sm.cl l)] [] (rdi ((l.length : Int) :: fmW Sm.w l)) [] NoP := by
  have hl : l.length ≤ BW := by have := fmW_len (w := Sm.w) (fun x => Sm.w_pos x) l; omega
  unfold BW at hB hl
  obtain ⟨W, hW⟩ : ∃ W, W = (l.length : Int) :: fmW Sm.w l := ⟨_, rfl⟩
  rw [← hW]
  refine FC.of_AW tok Try.func40 (by kernel_rfl) rfl Try.ntmps40 [] rfl rfl rfl ?_; intro w0 X0 Y f0 hI0 hX0
  refine S1 ?_; (repeat (first | refine K4 ?_ | refine RG.d ?_ | refine S2 ?_)); refine S1 ?_; (repeat (first | refine K4 ?_ | refine L2 ?_ | refine RG.d ?_ | refine S2 ?_))
  refine AW.seqJ (fun _ : Unit => ⟨put 3 (some (rdi W)) noE, noH, 0⟩) (fun _ => True) ?_ ?_
  · refine S1 ?_; (repeat (first | refine K4 ?_ | refine RG.d ?_ | refine S2 ?_ | refine S4 ?_))
    refine AW.loopS (fun p : Nat × List Int => ⟨put 0 (some (.ro l.length (flC Sm.cl l))) (put 3 (some (.sl 0 [] 1 0 p.2.length)) (put 4 (some (i64 (p.1 : Int))) noE)), hput 0 (.one (ints .i64 p.2)) noH, 1⟩)
      (fun p => p.1 ≤ l.length ∧ p.2 = (l.length : Int) :: fmW Sm.w (l.take p.1)) (fun p => l.length - p.1) (0, [(l.length : Int)]) ⟨Nat.zero_le _, by simp [fmW]⟩ (Sub.of (by repeat (first | exact SubE.no _ | refine SubE.put rfl ?_)) (by repeat (first | exact SubH.no _ | refine SubH.put rfl ?_)) rfl) ?_
    rintro ⟨i, U⟩ ⟨hi, hU⟩
    dsimp only at hi hU
    (repeat (first | refine K4 ?_ | refine RG.d ?_ | refine S1 ?_ | refine S2 ?_))
    refine AW.condD rfl (fun k => ?_) (fun k => ?_)
    rotate_left
    · have hi2 : i = l.length := by
        have : ¬ (i : Int) < (l.length : Int) := k
        omega
      rw [hi2, List.take_length, ← hW] at hU
      subst hU
      (repeat (first | refine S5 ?_))
      exact ⟨(), trivial, Sub.trans (Sub.frz (ks := [0]) 3 rfl (frzI rfl (by decide) rfl)) (Sub.down (by repeat (first | exact SubE.no _ | refine SubE.put rfl ?_)) (by repeat (first | exact SubH.no _ | refine SubH.put rfl ?_)) (by repeat (first | exact LtE.no _ | refine LtE.put rfl ?_)) (by repeat (first | exact LtH.no _ | refine LtH.put rfl rfl ?_)) rfl)⟩
    have hi2 : i < l.length := by
      have : (i : Int) < (l.length : Int) := k
      omega
    obtain ⟨x, hx⟩ : ∃ x, l[i]? = some x := ⟨_, List.getElem?_eq_getElem hi2⟩
    have hat := flC_at Sm.cl_len l i x hx
    have hU2 := fmW_take Sm.w l i x hx
    have hlen := fmW_le Sm.w l (i + 1)
    rw [hU2, List.length_append] at hlen
    have hUl : U.length = 1 + (fmW Sm.w (l.take i)).length := by rw [hU, List.length_cons]; omega
    have cx := c x (List.mem_of_getElem? hx)
    obtain ⟨u, hu⟩ : ∃ u, u = Sm.w x := ⟨_, rfl⟩
    rw [show Sm.w x = u from hu.symm] at cx hlen hU2
    obtain ⟨site, op, n, m, v, ⟨x1, x2, x3, x4⟩, ⟨y1, y2, y3, y4⟩, ⟨c1, c2, c3⟩, args, ptrs, body, els⟩ := x; simp only [Sm.cl, Ex.cl, Co.cl, List.cons_append, List.nil_append] at hat cx
    (repeat (first | refine K4 ?_ | refine S1 ?_ | refine S2 ?_ | refine S3 ?_ | refine S4 ?_))
    refine RG.idx tok rfl rfl rfl rfl rfl rfl hat ⟨by omega, by omega⟩ rfl ?_
    (repeat (first | refine L1 ?_))
    refine RG.call rfl rfl rfl rfl (cx) [] rfl rfl rfl rfl (.nil _) (.nil _) (fun _ h => False.elim h) rfl (A.ren_free _ _ rfl) rfl ?_
    refine RG.append tok rfl rfl rfl rfl rfl rfl rfl rfl (n1 := U.length) (c := ints .i64 U) (ks := [0]) rfl (m := u.length) (l := ints .i64 u) (ks' := []) rfl (by rw [ints_length, Nat.mul_one] <;> rfl) (by simp [ints_length, List.length_append] <;> omega) (ints_cell _ _) (by omega) (by omega) rfl (c' := ints .i64 (U ++ u)) (by rw [ints_take _ _ _ (by simp [List.length_append] <;> omega), ← ints_append]) ?_
    rw [show U.length + u.length = (U ++ u).length from List.length_append.symm]
    (repeat (first | refine K2 ?_ | refine K4 ?_ | refine RG.d ?_ | refine S2 ?_))
    refine ⟨(i + 1, U ++ u), ⟨by dsimp only; omega, by dsimp only; rw [hU2, hU]; rfl⟩, by dsimp only; omega, Sub.renB (fun a => a + 1) ?_ ?_ (fun a b h => by simpa using h) (fun a ha => ?_) (fun a ha => absurd ha (Nat.not_lt_zero _))⟩
    · exact SubEr.put rfl (SubEr.put rfl (SubEr.put rfl (SubEr.no _ _)))
    · exact SubHr.put rfl (ints_free _ _ _) (SubHr.no _ _)
    · have ha : 1 ≤ a := ha
      show 2 ≤ a + 1
      omega
  intro _ _
  (repeat (first | refine K4 ?_ | refine RG.d ?_ | refine S1 ?_ | refine S2 ?_ | refine S6 ?_))
  exact ⟨⟨_, rfl, rfl⟩, rfl, .nil _⟩

set_option maxHeartbeats 4000000 in
theorem rranges_fc (l : List Rg) (hB : 1 + (fmW Rg.w l).length ≤ BW) :
    FC Try.prog ge 63 [.ro l.length (flC Rg.cl l)] [] (rdi ((l.length : Int) :: fmW Rg.w l)) [] NoP := by
  have hl : l.length ≤ BW := by have := fmW_len (w := Rg.w) (fun x => Rg.w_pos x) l; omega
  unfold BW at hB hl
  obtain ⟨W, hW⟩ : ∃ W, W = (l.length : Int) :: fmW Rg.w l := ⟨_, rfl⟩
  rw [← hW]
  refine FC.of_AW tok Try.func63 (by kernel_rfl) rfl Try.ntmps63 [] rfl rfl rfl ?_; intro w0 X0 Y f0 hI0 hX0
  refine S1 ?_; (repeat (first | refine K4 ?_ | refine RG.d ?_ | refine S2 ?_)); refine S1 ?_; (repeat (first | refine K4 ?_ | refine L2 ?_ | refine RG.d ?_ | refine S2 ?_))
  refine AW.seqJ (fun _ : Unit => ⟨put 3 (some (rdi W)) noE, noH, 0⟩) (fun _ => True) ?_ ?_
  · refine S1 ?_; (repeat (first | refine K4 ?_ | refine RG.d ?_ | refine S2 ?_ | refine S4 ?_))
    refine AW.loopS (fun p : Nat × List Int => ⟨put 0 (some (.ro l.length (flC Rg.cl l))) (put 3 (some (.sl 0 [] 1 0 p.2.length)) (put 4 (some (i64 (p.1 : Int))) noE)), hput 0 (.one (ints .i64 p.2)) noH, 1⟩)
      (fun p => p.1 ≤ l.length ∧ p.2 = (l.length : Int) :: fmW Rg.w (l.take p.1)) (fun p => l.length - p.1) (0, [(l.length : Int)]) ⟨Nat.zero_le _, by simp [fmW]⟩ (Sub.of (by repeat (first | exact SubE.no _ | refine SubE.put rfl ?_)) (by repeat (first | exact SubH.no _ | refine SubH.put rfl ?_)) rfl) ?_
    rintro ⟨i, U⟩ ⟨hi, hU⟩
    dsimp only at hi hU
    (repeat (first | refine K4 ?_ | refine RG.d ?_ | refine S1 ?_ | refine S2 ?_))
    refine AW.condD rfl (fun k => ?_) (fun k => ?_)
    rotate_left
    · have hi2 : i = l.length := by
        have : ¬ (i : Int) < (l.length : Int) := k
        omega
      rw [hi2, List.take_length, ← hW] at hU
      subst hU
      (repeat (first | refine S5 ?_))
      exact ⟨(), trivial, Sub.trans (Sub.frz (ks := [0]) 3 rfl (frzI rfl (by decide) rfl)) (Sub.down (by repeat (first | exact SubE.no _ | refine SubE.put rfl ?_)) (by repeat (first | exact SubH.no _ | refine SubH.put rfl ?_)) (by repeat (first | exact LtE.no _ | refine LtE.put rfl ?_)) (by repeat (first | exact LtH.no _ | refine LtH.put rfl rfl ?_)) rfl)⟩
    have hi2 : i < l.length := by
      have : (i : Int) < (l.length : Int) := k
      omega
    obtain ⟨x, hx⟩ : ∃ x, l[i]? = some x := ⟨_, List.getElem?_eq_getElem hi2⟩
    have hat := flC_at Rg.cl_len l i x hx
    have hU2 := fmW_take Rg.w l i x hx
    have hlen := fmW_le Rg.w l (i + 1)
    rw [hU2, List.length_append] at hlen
    have hUl : U.length = 1 + (fmW Rg.w (l.take i)).length := by rw [hU, List.length_cons]; omega
    simp only [Rg.w, List.length_cons, List.length_nil] at hlen
    simp only [Rg.cl, List.cons_append, List.nil_append] at hat
    (repeat (first | refine K4 ?_ | refine S1 ?_ | refine S2 ?_ | refine S3 ?_ | refine S4 ?_))
    refine RG.idx tok rfl rfl rfl rfl rfl rfl hat ⟨by omega, by omega⟩ rfl ?_
    (repeat (first | refine K4 ?_ | refine L1 ?_))
    refine RG.idx tok rfl rfl rfl rfl rfl rfl hat ⟨by omega, by omega⟩ rfl ?_
    (repeat (first | refine K4 ?_ | refine L1 ?_))
    refine RG.idx tok rfl rfl rfl rfl rfl rfl hat ⟨by omega, by omega⟩ rfl ?_
    (repeat (first | refine K4 ?_ | refine L1 ?_ | refine L2 ?_))
    refine RG.append tok rfl rfl rfl rfl rfl rfl rfl rfl (n1 := U.length) (c := ints .i64 U) (ks := [0]) rfl (m := 3) (l := ints .i64 [x.lo, x.hi, x.mask]) (ks' := [1]) rfl (by rw [ints_length, Nat.mul_one] <;> rfl) (by simp [ints_length, List.length_append] <;> omega) (ints_cell _ _) (by omega) (by omega) rfl (c' := ints .i64 (U ++ [x.lo, x.hi, x.mask])) (by rw [ints_take _ _ _ (by simp [List.length_append] <;> omega), ← ints_append]) ?_
    rw [show U.length + 3 = (U ++ [x.lo, x.hi, x.mask]).length by simp only [List.length_append, List.length_cons, List.length_nil]]
    (repeat (first | refine K2 ?_ | refine K4 ?_ | refine RG.d ?_ | refine RG.dd ?_ | refine S2 ?_))
    refine ⟨(i + 1, U ++ [x.lo, x.hi, x.mask]), ⟨by dsimp only; omega, by dsimp only; rw [hU2, hU]; rfl⟩, by dsimp only; omega, Sub.renB (fun a => a + 2) ?_ ?_ (fun a b h => by simpa using h) (fun a ha => ?_) (fun a ha => absurd ha (Nat.not_lt_zero _))⟩
    · exact SubEr.put rfl (SubEr.put rfl (SubEr.put rfl (SubEr.no _ _)))
    · exact SubHr.put rfl (ints_free _ _ _) (SubHr.no _ _)
    · have ha : 1 ≤ a := ha
      show 3 ≤ a + 2
      omega
  intro _ _
  (repeat (first | refine K4 ?_ | refine RG.d ?_ | refine S1 ?_ | refine S2 ?_ | refine S6 ?_))
  exact ⟨⟨_, rfl, rfl⟩, rfl, .nil _⟩
end Go.Proofs.Ytmfccaidgaelcaa
