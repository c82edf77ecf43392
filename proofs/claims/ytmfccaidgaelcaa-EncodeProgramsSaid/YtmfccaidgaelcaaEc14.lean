/- Leaves; the fixed calls. No conditions. -/
import Derived.Test.YtmfccaidgaelcaaEc13
import Derived.Test.YtmfccaidgaelcaaAbsE
set_option linter.unusedVariables false
set_option linter.unusedSimpArgs false
namespace Go.Proofs.Ytmfccaidgaelcaa
open Go.Abs Go Go.RowKit
def uL (l : List (BitVec 64)) : List A := l.map uA
theorem uL_len (l : List (BitVec 64)) : (uL l).length = l.length := by simp [uL]
theorem uL_free (l : List (BitVec 64)) : ltL 0 (uL l) = true := ltL_map (fun _ => rfl) l
theorem uL_cell (l : List (BitVec 64)) : (uL l).all A.cell = true := cell_map (fun _ => rfl) l
theorem uL_app (a b : List (BitVec 64)) : uL (a ++ b) = uL a ++ uL b := by simp [uL]
theorem uL_take (a : List (BitVec 64)) : (uL a).take (a.length * 1) = uL a := by rw [Nat.mul_one, List.take_of_length_le (by rw [uL_len]; exact Nat.le_refl _)]
abbrev rdu (l : List (BitVec 64)) : A := .ro l.length (uL l)
/-- The header's words. -/
def Df.hd (d : Df) : Df := { d with body := [] }
def leavesP (d : Df) : List (BitVec 64) := Dg.words d.hd.w :: d.body.map (fun s => Dg.words s.w)
theorem hd_le (d : Df) : d.hd.w.length ≤ d.w.length := by
  obtain ⟨id, site, name, firm, part, params, given, vars, refs, arrays, budget, body⟩ := d
  simp only [Df.hd, Df.w, smW_eq, List.length_cons, List.length_append, fmW, List.length_nil]
  omega
theorem body_le (d : Df) (s : Sm) (h : s ∈ d.body) : s.w.length ≤ d.w.length := by
  obtain ⟨id, site, name, firm, part, params, given, vars, refs, arrays, budget, body⟩ := d
  have := fmW_mem Sm.w body s h
  simp only [Df.w, smW_eq, List.length_cons, List.length_append]
  omega
theorem body_len (d : Df) : d.body.length ≤ d.w.length := by
  obtain ⟨id, site, name, firm, part, params, given, vars, refs, arrays, budget, body⟩ := d
  have := fmW_len (w := Sm.w) Sm.w_pos body
  simp only [Df.w, smW_eq, List.length_cons, List.length_append]
  omega
/-- A definition's cells, where its body is nil. -/
theorem defNil_fc (d : Df) (ok : d.ok) (hB : d.w.length ≤ BW) : FC Try.prog ge 41 [.agg [i64 d.id, i64 d.site, strA (unb d.name), i64 d.firm, i64 d.part, .ro d.params.length (flC Rg.cl d.params), .ro d.given.length (flC Rg.cl d.given), i64 d.vars, i64 d.refs, .ro d.arrays.length (flC Ar.cl d.arrays), i64 d.budget, .val (.slice none 0 0)]] [] (rdi d.hd.w) [] NoP := by
  have c := def_fc d.hd ok (Nat.le_trans (hd_le d) hB)
  refine c.wk (.cons (Wk.agg ?_) .nil)
  simp only [Df.cl, Df.hd]
  repeat (first | exact WkL.nil | refine WkL.cons (Wk.refl _) ?_ | refine WkL.cons Wk.nil ?_)
theorem map_snoc {α β : Type} (F : α → β) (l : List α) (i : Nat) (x : α) (h : l[i]? = some x) : (l.take (i + 1)).map F = (l.take i).map F ++ [F x] := by
  rw [List.take_add_one, h]; simp
set_option maxHeartbeats 8000000 in
theorem leaves_fc (d : Df) (ok : d.ok) (hB : d.w.length ≤ BW) : FC Try.prog ge 16 [.agg d.cl] [] (rdu (leavesP d)) [] NoP := by
  have c1 := defNil_fc d ok hB
  have c2 := words_fc d.hd.w (Nat.le_trans (hd_le d) hB)
  have hbl := body_len d
  unfold BW at hB
  obtain ⟨W, hW⟩ : ∃ W, W = leavesP d := ⟨_, rfl⟩
  rw [← hW]
  obtain ⟨h0, hh0⟩ : ∃ h, h = Dg.words d.hd.w := ⟨_, rfl⟩
  have hW2 : W = h0 :: d.body.map (fun s => Dg.words s.w) := by rw [hW, hh0]; rfl
  rw [← hh0] at c2
  simp only [Df.cl]
  refine FC.of_AW tok Try.func16 (by kernel_rfl) rfl Try.ntmps16 [] rfl rfl rfl ?_; intro w0 X0 Y f0 hI0 hX0
  refine S1 ?_; (repeat (first | refine K4 ?_ | refine L2 ?_ | refine RG.d ?_ | refine S2 ?_))
  refine S1 ?_; (repeat (first | refine K4 ?_ | refine L1 ?_ | refine RG.d ?_ | refine S2 ?_))
  refine S1 ?_; (repeat (first | refine K4 ?_ | refine L3 ?_ | refine RG.d ?_ | refine S2 ?_))
  refine S1 ?_; (repeat (first | refine RG.call rfl rfl rfl rfl (c1) [] rfl rfl rfl rfl (.nil _) (.nil _) (fun _ h => False.elim h) rfl (A.ren_free _ _ rfl) rfl ?_ | refine RG.call rfl rfl rfl rfl (c2) [] rfl rfl rfl rfl (.nil _) (.nil _) (fun _ h => False.elim h) rfl (A.ren_free _ _ rfl) rfl ?_ | refine K4 ?_ | refine L1 ?_ | refine L2 ?_ | refine RG.d ?_ | refine S2 ?_))
  (repeat (first | refine K1 ?_))
  refine AW.seqJ (fun _ : Unit => ⟨put 4 (some (rdu W)) noE, noH, 0⟩) (fun _ => True) ?_ ?_
  · refine S1 ?_; (repeat (first | refine K4 ?_ | refine RG.d ?_ | refine S2 ?_ | refine S4 ?_))
    refine AW.loopS (fun p : Nat × List (BitVec 64) => ⟨put 4 (some (.sl 1 [] 1 0 p.2.length)) (put 14 (some (.ro d.body.length (flC Sm.cl d.body))) (put 15 (some (i64 (d.body.length : Int))) (put 16 (some (i64 (p.1 : Int))) noE))), hput 1 (.one (uL p.2)) noH, 2⟩)
      (fun p => p.1 ≤ d.body.length ∧ p.2 = h0 :: (d.body.take p.1).map (fun s => Dg.words s.w)) (fun p => d.body.length - p.1) (0, [h0]) ⟨Nat.zero_le _, by simp⟩ (Sub.of (by repeat (first | exact SubE.no _ | refine SubE.put rfl ?_)) (by repeat (first | exact SubH.no _ | refine SubH.put rfl ?_)) rfl) ?_
    rintro ⟨i, U⟩ ⟨hi, hU⟩
    dsimp only at hi hU
    (repeat (first | refine K4 ?_ | refine RG.d ?_ | refine S1 ?_ | refine S2 ?_))
    refine AW.condD rfl (fun k => ?_) (fun k => ?_)
    rotate_left
    · have hi2 : i = d.body.length := by
        have : ¬ (i : Int) < (d.body.length : Int) := k
        omega
      rw [hi2, List.take_length, ← hW2] at hU
      subst hU
      (repeat (first | refine S5 ?_))
      exact ⟨(), trivial, Sub.trans (Sub.frz (ks := [1]) 4 rfl (frzC rfl (by decide) (by rw [uL_len, Nat.mul_one]) (uL_free _))) (Sub.down (by repeat (first | exact SubE.no _ | refine SubE.put rfl ?_)) (by repeat (first | exact SubH.no _ | refine SubH.put rfl ?_)) (by repeat (first | exact LtE.no _ | refine LtE.put rfl ?_)) (by repeat (first | exact LtH.no _ | refine LtH.put rfl rfl ?_)) rfl)⟩
    have hi2 : i < d.body.length := by
      have : (i : Int) < (d.body.length : Int) := k
      omega
    obtain ⟨x, hx⟩ : ∃ x, d.body[i]? = some x := ⟨_, List.getElem?_eq_getElem hi2⟩
    have hat := flC_at Sm.cl_len d.body i x hx
    have hle := body_le d x (List.mem_of_getElem? hx)
    have cs := sm_fc x (by unfold BW; omega)
    have cw := words_fc x.w (by unfold BW; omega)
    have hU2 : (d.body.take (i + 1)).map (fun s => Dg.words s.w) = (d.body.take i).map (fun s => Dg.words s.w) ++ [Dg.words x.w] := map_snoc (fun s : Sm => Dg.words s.w) d.body i x hx
    have hUl : U.length = i + 1 := by rw [hU, List.length_cons, List.length_map, List.length_take]; omega
    obtain ⟨z, hz⟩ : ∃ z, z = Dg.words x.w := ⟨_, rfl⟩
    obtain ⟨xw, hxw⟩ : ∃ z, z = x.w := ⟨_, rfl⟩
    rw [← hz] at cw hU2
    rw [← hxw] at cw cs
    obtain ⟨Z, hZ⟩ : ∃ Z, Z = U ++ [z] := ⟨_, rfl⟩
    have lZ : U.length + 1 = Z.length := by rw [hZ, List.length_append]; rfl
    obtain ⟨site, op, n, m, v, ⟨x1, x2, x3, x4⟩, ⟨y1, y2, y3, y4⟩, ⟨q1, q2, q3⟩, args, ptrs, body, els⟩ := x
    simp only [Sm.cl, Ex.cl, Co.cl, List.cons_append, List.nil_append] at hat cs
    (repeat (first | refine S1 ?_ | refine S2 ?_ | refine S3 ?_ | refine S4 ?_))
    refine RG.idx tok rfl rfl rfl rfl rfl rfl hat ⟨by omega, by omega⟩ rfl ?_
    (repeat (first | refine K4 ?_ | refine L1 ?_ | refine L2 ?_ | refine L3 ?_ | refine RG.d ?_ | refine S2 ?_))
    refine RG.call rfl rfl rfl rfl (cs) [] rfl rfl rfl rfl (.nil _) (.nil _) (fun _ h => False.elim h) rfl (A.ren_free _ _ rfl) rfl ?_
    (repeat (first | refine K1 ?_))
    refine RG.call rfl rfl rfl rfl (cw) [] rfl rfl rfl rfl (.nil _) (.nil _) (fun _ h => False.elim h) rfl (A.ren_free _ _ rfl) rfl ?_
    (repeat (first | refine L2 ?_))
    refine RG.append tok rfl rfl rfl rfl rfl rfl rfl rfl (n1 := U.length) (c := uL U) (ks := [1]) rfl (m := 1) (l := uL [z]) (ks' := [3]) rfl rfl (by rw [uL_len]; omega) (uL_cell _) (by omega) (by omega) rfl (c' := uL Z) (by rw [uL_take, hZ, uL_app]) ?_
    rw [lZ]
    (repeat (first | refine K2 ?_ | refine K4 ?_ | refine RG.d ?_ | refine S2 ?_))
    refine ⟨(i + 1, Z), ⟨by dsimp only; omega, by dsimp only; rw [hU2, hZ, hU]; rfl⟩, by dsimp only; omega, Sub.renB (fun a => a + 3) ?_ ?_ (fun a b h => by simpa using h) (fun a ha => ?_) (fun a ha => absurd ha (Nat.not_lt_zero _))⟩
    · exact SubEr.put rfl (SubEr.put rfl (SubEr.put rfl (SubEr.put rfl (SubEr.no _ _))))
    · exact SubHr.put rfl (uL_free _) (SubHr.no _ _)
    · have ha : 2 ≤ a := ha
      show 5 ≤ a + 3
      omega
  intro _ _
  (repeat (first | refine K4 ?_ | refine RG.d ?_ | refine S1 ?_ | refine S2 ?_ | refine S6 ?_))
  exact ⟨⟨_, rfl, rfl⟩, rfl, .nil _⟩
/-! ### The fixed calls -/
def exSm : Sm := .mk 9 16 0 2 0 (.mk 0 0 0 []) (.mk 0 0 0 []) (.mk 0 [] []) [] [] [] []
def exDf : Df := ⟨7, 8, [120], 0, 0, [], [], 0, 0, [], 0, [exSm]⟩
theorem exDf_ok : exDf.ok := by intro x hx; simp only [exDf, List.mem_singleton] at hx; subst hx; exact ⟨by decide, by decide⟩
theorem rdAll_w (d : Df) (ok : d.ok) (h : d.w.length < 200000) : rdAll d.w [] = some d := by
  have := df_inv 200000 d [] ok (by rw [List.append_nil]; exact h)
  rw [List.append_nil] at this
  unfold rdAll
  rw [this]; rfl
theorem btA_nil (ws : List Int) : btA ws [] = byA ws := by simp [btA, byA]
end Go.Proofs.Ytmfccaidgaelcaa
