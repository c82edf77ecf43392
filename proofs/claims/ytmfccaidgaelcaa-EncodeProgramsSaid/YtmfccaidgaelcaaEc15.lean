/- The fixed calls. No conditions. -/
import Derived.Test.YtmfccaidgaelcaaEc14
import Derived.Test.YtmfccaidgaelcaaAbsE
set_option linter.unusedVariables false
set_option linter.unusedSimpArgs false
namespace Go.Proofs.Ytmfccaidgaelcaa
open Go.Abs Go Go.RowKit
def xmW : List Int := [9, 16, 0, 2, 0, 0, 0, 0, 0, 0, 0, 0, 0, 0, 0, 0, 0, 0, 0, 0]
def xmH : List Int := [1, 7, 8, 1, 120, 0, 0, 0, 0, 0, 0, 0, 0]
theorem exDf_w : exDf.w = xmH ++ [1] ++ xmW := by decide
theorem exDf_cl : exDf.cl = [i64 7, i64 8, .val (.string ⟨#[120]⟩), i64 0, i64 0, .ro 0 [], .ro 0 [], i64 0, i64 0, .ro 0 [], i64 0, .ro 1 exSm.cl] := by kernel_rfl
theorem exLeaves : leavesP exDf = [Dg.words (xmH ++ [0]), Dg.words xmW] := by
  unfold leavesP
  rw [show exDf.hd.w = xmH ++ [0] by decide, show exDf.body = [exSm] from rfl, List.map_cons, show exSm.w = xmW by decide, List.map_nil]
set_option maxHeartbeats 4000000 in
theorem examples_fc : FC Try.prog ge 10 [] [] (.val (.bool true)) [] NoP := by
  have cW := lwritten_fc exDf exDf_ok (by rw [exDf_w]; decide)
  rw [exDf_cl] at cW
  have cR := lread_fc exDf.w [] (by decide) (by rw [exDf_w]; intro x hx; revert x; decide) (by rw [exDf_w]; decide)
  rw [rdAll_w exDf exDf_ok (by rw [exDf_w]; decide), btA_nil] at cR
  simp only [readA, exDf_cl, List.cons_append, List.nil_append] at cR
  have cN := (lread_fc [] [] (by decide) (by intro x hx; cases hx) (by decide)).wk (.cons Wk.nil .nil)
  rw [show rdAll [] [] = none from rfl] at cN
  simp only [readA, zdef, List.map_cons, List.map_nil, List.cons_append, List.nil_append] at cN
  have cL := leaves_fc exDf exDf_ok (by rw [exDf_w]; decide)
  rw [exDf_cl, exLeaves] at cL
  have cB := rbytes_fc exDf.w (by rw [exDf_w]; decide)
  rw [exDf_w] at cB cR cW
  refine FC.of_AW tok Try.func10 (by kernel_rfl) rfl Try.ntmps10 [] rfl rfl rfl ?_; intro w0 X0 Y f0 hI0 hX0
  refine S1 ?_; (repeat (first | refine K4 ?_ | refine RG.d ?_ | refine S2 ?_)); refine S1 ?_; (repeat (first | refine K4 ?_ | refine L2 ?_ | refine L3 ?_ | refine RG.d ?_ | refine S2 ?_)); refine S1 ?_; (repeat (first | refine K4 ?_ | refine L2 ?_ | refine RG.d ?_ | refine S2 ?_)); refine S1 ?_; (repeat (first | refine K4 ?_ | refine L1 ?_ | refine L2 ?_ | refine L3 ?_ | refine RG.d ?_ | refine S2 ?_))
  refine AW.seqJ (fun _ : Unit => ⟨put 2 (some (rdi xmW)) (put 3 (some (.ptr 3 [] 0)) (put 4 (some (rdi xmH)) noE)), hput 3 (.one (exDf.cl)) noH, 5⟩) (fun _ => True) ?_ ?_
  · (repeat (first | refine K4 ?_ | refine L2 ?_ | refine RG.d ?_ | refine S2 ?_))
    refine ⟨(), trivial, Sub.trans (Sub.frz (ks := [1]) 2 rfl (frzI (xs := xmW) rfl (by decide) rfl)) ?_⟩
    refine Sub.trans (Sub.frz (ks := [4]) 4 rfl (frzI (xs := xmH) rfl (by decide) rfl)) ?_
    refine Sub.trans (Sub.frzH (ks := [2]) 3 rfl (by decide) (c' := exDf.cl) ?_) ?_
    · rw [exDf_cl]
      refine .cons (Frz.refl _) (.cons (Frz.refl _) (.cons (Frz.refl _) (.cons (Frz.refl _) (.cons (Frz.refl _) (.cons Frz.nil (.cons Frz.nil (.cons (Frz.refl _) (.cons (Frz.refl _) (.cons Frz.nil (.cons (Frz.refl _) (.cons ?_ .nil)))))))))))
      refine (Frz.sl (c := [i64 9, i64 16, i64 0, i64 2, i64 0, i64 0, i64 0, i64 0, .val (.slice none 0 0), i64 0, i64 0, i64 0, .val (.slice none 0 0), i64 0, .val (.slice none 0 0), .val (.slice none 0 0), .val (.slice none 0 0), .val (.slice none 0 0), .val (.slice none 0 0), .val (.slice none 0 0)]) rfl (by decide) rfl rfl).wk (Wk.ro ?_)
      simp only [exSm, Sm.cl, Ex.cl, Co.cl, List.cons_append, List.nil_append]
      repeat (first | exact WkL.nil | refine WkL.cons (Wk.refl _) ?_ | refine WkL.cons Wk.nil ?_)
    · exact Sub.of (by repeat (first | exact SubE.no _ | refine SubE.put rfl ?_)) (by repeat (first | exact SubH.no _ | refine SubH.put rfl ?_)) rfl
  intro _ _
  rw [exDf_cl]
  refine AW.seqJ (fun _ : Unit => ⟨put 2 (some (rdi xmW)) (put 3 (some (.ptr 3 [] 0)) (put 4 (some (rdi xmH)) (put 5 (some (rdi (xmH ++ [1] ++ xmW))) noE))), hput 3 (.one ([i64 7, i64 8, .val (.string ⟨#[120]⟩), i64 0, i64 0, .ro 0 [], .ro 0 [], i64 0, i64 0, .ro 0 [], i64 0, .ro 1 exSm.cl])) noH, 10⟩) (fun _ => True) ?_ ?_
  · (repeat (first | refine K4 ?_ | refine L2 ?_ | refine S2 ?_))
    refine RG.append tok rfl rfl rfl rfl rfl rfl rfl rfl (n1 := 0) (c := []) (ks := [5]) rfl (m := 13) (l := (ints .i64 xmH)) (ks' := []) rfl (by first | rfl | (rw [ints_length, Nat.mul_one] <;> rfl)) (by first | decide | (simp [ints_length, List.length_append] <;> omega)) (ints_cell _ _) (by omega) (by omega) rfl (c' := (ints .i64 xmH)) (by first | rfl | (rw [ints_take _ _ _ rfl, ints_append])) ?_
    (repeat (first | refine L2 ?_))
    refine RG.append tok rfl rfl rfl rfl rfl rfl rfl rfl (n1 := 13) (c := (ints .i64 xmH)) (ks := [6]) rfl (m := 1) (l := (ints .i64 [1])) (ks' := [7]) rfl (by first | rfl | (rw [ints_length, Nat.mul_one] <;> rfl)) (by first | decide | (simp [ints_length, List.length_append] <;> omega)) (ints_cell _ _) (by omega) (by omega) rfl (c' := (ints .i64 (xmH ++ [1]))) (by first | rfl | (rw [ints_take _ _ _ rfl, ints_append])) ?_
    (repeat (first | refine K4 ?_))
    refine RG.append tok rfl rfl rfl rfl rfl rfl rfl rfl (n1 := 14) (c := (ints .i64 (xmH ++ [1]))) (ks := [8]) rfl (m := 20) (l := (ints .i64 xmW)) (ks' := []) rfl (by first | rfl | (rw [ints_length, Nat.mul_one] <;> rfl)) (by first | decide | (simp [ints_length, List.length_append] <;> omega)) (ints_cell _ _) (by omega) (by omega) rfl (c' := (ints .i64 (xmH ++ [1] ++ xmW))) (by first | rfl | (rw [ints_take _ _ _ rfl, ints_append])) ?_
    (repeat (first | refine K4 ?_ | refine RG.d ?_))
    exact ⟨(), trivial, Sub.trans (Sub.frz (ks := [9]) 5 rfl (frzI (xs := xmH ++ [1] ++ xmW) rfl (by decide) rfl)) (Sub.of (by repeat (first | exact SubE.no _ | refine SubE.put rfl ?_)) (by repeat (first | exact SubH.no _ | refine SubH.put rfl ?_)) rfl)⟩
  intro _ _
  obtain ⟨all, hall⟩ : ∃ l, l = xmH ++ [1] ++ xmW := ⟨_, rfl⟩
  rw [← hall] at cW cR cB ⊢
  obtain ⟨u0, hu0⟩ : ∃ u, u = Dg.words (xmH ++ [0]) := ⟨_, rfl⟩
  obtain ⟨u1, hu1⟩ : ∃ u, u = Dg.words xmW := ⟨_, rfl⟩
  rw [← hu0, ← hu1] at cL
  refine S1 ?_; (repeat (first | refine RG.call rfl rfl rfl rfl (cW) [] rfl rfl rfl rfl (.nil _) (.nil _) (fun _ h => False.elim h) rfl (A.ren_free _ _ rfl) rfl ?_ | refine L1 ?_ | refine L2 ?_ | refine L3 ?_ | refine RG.d ?_ | refine S2 ?_)); refine S1 ?_; (repeat (first | refine RG.call rfl rfl rfl rfl (cR) [] rfl rfl rfl rfl (.nil _) (.nil _) (fun _ h => False.elim h) rfl (A.ren_free _ _ rfl) rfl ?_ | refine K4 ?_ | refine L1 ?_ | refine L2 ?_ | refine L3 ?_ | refine RG.d ?_ | refine S2 ?_)); refine S1 ?_; (repeat (first | refine RG.call rfl rfl rfl rfl (cL) [] rfl rfl rfl rfl (.nil _) (.nil _) (fun _ h => False.elim h) rfl (A.ren_free _ _ rfl) rfl ?_ | refine K4 ?_ | refine L1 ?_ | refine RG.d ?_ | refine S2 ?_))
  refine AW.seqJ (fun _ : Unit => ⟨put 2 (some (rdi xmW)) (put 4 (some (rdi xmH)) (put 5 (some (rdi all)) (put 6 (some (.ptr 10 [] 0)) (put 7 (some (.ptr 11 [] 0)) (put 8 (some (rdu [u0, u1])) (put 9 (some (.ptr 12 [] 0)) noE)))))), hput 10 (.one ([byA all, i64 0])) (hput 11 (.one ([i64 7, i64 8, .val (.string ⟨#[120]⟩), i64 0, i64 0, .ro 0 [], .ro 0 [], i64 0, i64 0, .ro 0 [], i64 0, .ro 1 exSm.cl, i64 0])) (hput 12 (.one (zdef.map A.val ++ [i64 3])) noH)), 13⟩) (fun _ => True) ?_ ?_
  · (repeat (first | refine RG.call rfl rfl rfl rfl (cN) [] rfl rfl rfl rfl (.nil _) (.nil _) (fun _ h => False.elim h) rfl (A.ren_free _ _ rfl) rfl ?_ | refine L2 ?_ | refine L3 ?_ | refine RG.d ?_ | refine S2 ?_))
    exact ⟨(), trivial, Sub.of (by repeat (first | exact SubE.no _ | refine SubE.put rfl ?_)) (by repeat (first | exact SubH.no _ | refine SubH.put rfl ?_)) rfl⟩
  intro _ _
  obtain ⟨r, hr⟩ : ∃ r, r = unb (bsL all) := ⟨_, rfl⟩
  (repeat (first | refine K4 ?_ | refine L1 ?_ | refine S1 ?_ | refine S2 ?_))
  refine RG.bstr tok rfl rfl rfl (by rw [bsL_len]) rfl rfl rfl rfl hr.symm ?_
  (repeat (first | refine RG.call rfl rfl rfl rfl (cB) [] rfl rfl rfl rfl (.nil _) (.nil _) (fun _ h => False.elim h) rfl (A.ren_free _ _ rfl) rfl ?_ | refine K4 ?_))
  refine RG.bstr tok rfl rfl rfl (by rw [bsL_len]) rfl rfl rfl rfl hr.symm ?_
  (repeat (first | refine K4 ?_))
  refine RG.put 43 rfl (show _ = A.val (.bool true) by simp) ?_
  (repeat (first | refine K4 ?_ | refine L1 ?_))
  refine RG.put 54 rfl (show _ = A.val (.bool true) by simp) ?_
  (repeat (first | refine K4 ?_ | refine K5 ?_ | refine L1 ?_))
  refine RG.idx tok rfl rfl rfl rfl rfl rfl (show dropO (0 * 1) (uL [u0, u1]) = some [uA u0, uA u1] from rfl) ⟨by decide, by simp⟩ rfl ?_
  (repeat (first | refine K4 ?_ | refine L1 ?_ | refine L2 ?_))
  refine RG.append tok rfl rfl rfl rfl rfl rfl rfl rfl (n1 := 0) (c := []) (ks := [13]) rfl (m := 13) (l := (ints .i64 xmH)) (ks' := []) rfl (by first | rfl | (rw [ints_length, Nat.mul_one] <;> rfl)) (by first | decide | (simp [ints_length, List.length_append] <;> omega)) (ints_cell _ _) (by omega) (by omega) rfl (c' := (ints .i64 xmH)) (by first | rfl | (rw [ints_take _ _ _ rfl, ints_append])) ?_
  (repeat (first | refine L2 ?_))
  refine RG.append tok rfl rfl rfl rfl rfl rfl rfl rfl (n1 := 13) (c := (ints .i64 xmH)) (ks := [14]) rfl (m := 1) (l := (ints .i64 [0])) (ks' := [15]) rfl (by first | rfl | (rw [ints_length, Nat.mul_one] <;> rfl)) (by first | decide | (simp [ints_length, List.length_append] <;> omega)) (ints_cell _ _) (by omega) (by omega) rfl (c' := (ints .i64 (xmH ++ [0]))) (by first | rfl | (rw [ints_take _ _ _ rfl, ints_append])) ?_
  have c0 := words_fc (xmH ++ [0]) (by decide)
  rw [← hu0] at c0
  refine RG.callB rfl rfl rfl rfl (c0) [] [16] rfl rfl (.cons (View.sl (p := []) rfl (by decide) (by decide) rfl rfl) (.nil)) rfl rfl rfl (fun _ _ _ _ h => by simp at h) (.nil _) (.nil _) (fun _ h => False.elim h) rfl rfl rfl ?_
  (repeat (first | refine K4 ?_))
  refine RG.put 92 rfl (show _ = A.val (.bool true) by simp) ?_
  (repeat (first | refine K4 ?_))
  refine RG.idx tok rfl rfl rfl rfl rfl rfl (show dropO (1 * 1) (uL [u0, u1]) = some [uA u1] from rfl) ⟨by decide, by simp⟩ rfl ?_
  have c1 := words_fc xmW (by decide)
  rw [← hu1] at c1
  (repeat (first | refine RG.call rfl rfl rfl rfl (c1) [] rfl rfl rfl rfl (.nil _) (.nil _) (fun _ h => False.elim h) rfl (A.ren_free _ _ rfl) rfl ?_ | refine K4 ?_ | refine L1 ?_ | refine RG.dd ?_))
  (repeat (first | refine S6 ?_))
  refine ⟨⟨_, rfl, congrArg A.val ?_⟩, rfl, .nil _⟩
  simp
end Go.Proofs.Ytmfccaidgaelcaa
