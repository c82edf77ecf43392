/- Commitments. No conditions. -/
import Derived.Test.YtmfccaidgaelcaaEc23
set_option linter.unusedVariables false
set_option linter.unusedSimpArgs false
namespace Go.Proofs.Ytmfccaidgaelcaa
open Go.Abs Go Go.RowKit
/-- What a commitment opens: the salt's digest and the leaves. -/
def openP (d : Df) (salt : Int) : List (BitVec 64) := Dg.words [salt] :: leavesP d
theorem leavesP_len (d : Df) : (leavesP d).length = d.body.length + 1 := by simp [leavesP]
set_option maxHeartbeats 4000000 in
theorem commit_fc (d : Df) (salt : Int) (ok : d.ok) (hB : d.w.length ≤ 1048576) : FC Try.prog ge 23 [.agg d.cl, i64 salt] [] (uA (Mk.root (mI (openP d salt)))) [] NoP := by
  have hbl := body_len d
  have c0 := one_fc salt
  have c1 := words_fc [salt] (by simp [BW])
  have c2 := leaves_fc d ok (by unfold BW; omega)
  have hl := leavesP_len d
  have c3 := root_fc (openP d salt) (by unfold openP BW; rw [List.length_cons]; omega)
  obtain ⟨L, hL⟩ : ∃ L, L = leavesP d := ⟨_, rfl⟩
  obtain ⟨s0, hs0⟩ : ∃ x, x = Dg.words [salt] := ⟨_, rfl⟩
  rw [← hL] at c2 hl
  rw [← hs0] at c1
  rw [show openP d salt = s0 :: L by unfold openP; rw [hL, hs0]] at c3 ⊢
  have hcl : d.cl = [i64 d.id, i64 d.site, strA (unb d.name), i64 d.firm, i64 d.part, .ro d.params.length (flC Rg.cl d.params), .ro d.given.length (flC Rg.cl d.given), i64 d.vars, i64 d.refs, .ro d.arrays.length (flC Ar.cl d.arrays), i64 d.budget, .ro d.body.length (flC Sm.cl d.body)] := rfl
  rw [hcl] at c2 ⊢
  refine FC.of_AW tok Try.func23 (by kernel_rfl) rfl Try.ntmps23 [] rfl rfl rfl ?_; intro w0 X0 Y f0 hI0 hX0
  (repeat (first | refine RG.call rfl rfl rfl rfl (c0) [] rfl rfl rfl rfl (.nil _) (.nil _) (fun _ h => False.elim h) rfl (A.ren_free _ _ rfl) rfl ?_ | refine RG.call rfl rfl rfl rfl (c1) [] rfl rfl rfl rfl (.nil _) (.nil _) (fun _ h => False.elim h) rfl (A.ren_free _ _ rfl) rfl ?_ | refine RG.call rfl rfl rfl rfl (c2) [] rfl rfl rfl rfl (.nil _) (.nil _) (fun _ h => False.elim h) rfl (A.ren_free _ _ rfl) rfl ?_ | refine K1 ?_ | refine K2 ?_ | refine K3 ?_ | refine K4 ?_ | refine K5 ?_ | refine K6 ?_ | refine K7 ?_ | refine L1 ?_ | refine L2 ?_ | refine L3 ?_ | refine RG.d ?_ | refine RG.dd ?_ | refine S1 ?_ | refine S2 ?_ | refine S3 ?_ | refine S4 ?_ | refine S5 ?_ | refine S7 ?_ | refine S8 ?_))
  obtain ⟨Z, hZ⟩ : ∃ Z, Z = s0 :: L := ⟨_, rfl⟩
  have lZ : Z.length = 1 + L.length := by rw [hZ, List.length_cons]; omega
  refine RG.append tok rfl rfl rfl rfl rfl rfl rfl rfl (n1 := 1) (c := uL [s0]) (ks := [1]) rfl (m := L.length) (l := uL L) (ks' := []) rfl (by rw [uL_len, Nat.mul_one]) (by rw [uL_len]; simp) (uL_cell _) (by omega) (by omega) rfl (c' := uL Z) (by rw [hZ]; rfl) ?_
  rw [← hZ] at c3 ⊢
  rw [← lZ]
  (repeat (first | refine K1 ?_ | refine K2 ?_ | refine K3 ?_ | refine K4 ?_ | refine K5 ?_ | refine K6 ?_ | refine K7 ?_ | refine L1 ?_ | refine L2 ?_ | refine L3 ?_ | refine RG.d ?_ | refine RG.dd ?_ | refine S1 ?_ | refine S2 ?_ | refine S3 ?_ | refine S4 ?_ | refine S5 ?_ | refine S7 ?_ | refine S8 ?_))
  refine RG.callG rfl rfl rfl rfl (c3) [] [2] rfl rfl (.cons (FView.sl (l := uL Z) rfl (by decide) (by rw [List.drop_zero, Nat.mul_one, List.take_of_length_le (by rw [uL_len]; exact Nat.le_refl _)]) (FViews.reflL _ _ _) (uL_free _) rfl) .nil) rfl rfl (.nil _) (.nil _) rfl (fun _ h => False.elim h) rfl (A.ren_free _ _ rfl) rfl ?_
  (repeat (first | refine K1 ?_ | refine K2 ?_ | refine K3 ?_ | refine K4 ?_ | refine K5 ?_ | refine K6 ?_ | refine K7 ?_ | refine L1 ?_ | refine L2 ?_ | refine L3 ?_ | refine RG.d ?_ | refine RG.dd ?_ | refine S1 ?_ | refine S2 ?_ | refine S3 ?_ | refine S4 ?_ | refine S5 ?_ | refine S6 ?_ | refine S7 ?_ | refine S8 ?_))
  exact ⟨⟨_, rfl, rfl⟩, rfl, .nil _⟩
end Go.Proofs.Ytmfccaidgaelcaa
