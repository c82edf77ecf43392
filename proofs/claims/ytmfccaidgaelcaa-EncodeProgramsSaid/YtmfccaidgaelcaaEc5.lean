/- Statements, definitions and bytes, as the reference writes them. No conditions. -/
import Derived.Test.YtmfccaidgaelcaaEc4
import Derived.Test.YtmfccaidgaelcaaAbsE
set_option linter.unusedVariables false
set_option linter.unusedSimpArgs false
namespace Go.Proofs.Ytmfccaidgaelcaa
open Go.Abs Go Go.RowKit
set_option maxHeartbeats 16000000 in
set_option maxRecDepth 10000 in
theorem rsm_fc : ∀ (e : Sm), e.w.length ≤ BW → FC Try.prog ge 15 [.agg e.cl] [] (rdi e.w) [] NoP
  | .mk site op n m v a b c args ptrs body els, hB => by
    have hw : (Sm.mk site op n m v a b c args ptrs body els).w = [site, op, n, m, v] ++ a.w ++ b.w ++ c.w ++ ((args.length : Int) :: fmW Ex.w args) ++ ((ptrs.length : Int) :: ptrs) ++ ((body.length : Int) :: fmW Sm.w body) ++ ((els.length : Int) :: fmW Sm.w els) := by simp [Sm.w, exW_eq, smW_eq]
    have hB2 := hB
    rw [hw] at hB2
    simp only [List.length_append, List.length_cons, List.length_nil] at hB2
    have c1 := rex_fc a (by omega)
    have c2 := rex_fc b (by omega)
    have c3 := rco_fc c (by omega)
    have c4 := rexs args (by omega)
    have c5 := rints_fc ptrs (by omega)
    have c6 := rsms_fc body (fun x hx => rsm_fc x (by have := fmW_mem Sm.w body x hx; omega)) (by omega)
    have c7 := rsms_fc els (fun x hx => rsm_fc x (by have := fmW_mem Sm.w els x hx; omega)) (by omega)
    rw [hw]
    unfold BW at hB2
    clear hB hw
    obtain ⟨wa, hwa⟩ : ∃ w, w = a.w := ⟨_, rfl⟩
    obtain ⟨wb, hwb⟩ : ∃ w, w = b.w := ⟨_, rfl⟩
    obtain ⟨wc, hwc⟩ : ∃ w, w = c.w := ⟨_, rfl⟩
    rw [← hwa] at c1 hB2 ⊢
    rw [← hwb] at c2 hB2 ⊢
    rw [← hwc] at c3 hB2 ⊢
    clear hwa hwb hwc
    obtain ⟨w4, h4⟩ : ∃ w, w = (args.length : Int) :: fmW Ex.w args := ⟨_, rfl⟩
    obtain ⟨w5, h5⟩ : ∃ w, w = (ptrs.length : Int) :: ptrs := ⟨_, rfl⟩
    obtain ⟨w6, h6⟩ : ∃ w, w = (body.length : Int) :: fmW Sm.w body := ⟨_, rfl⟩
    obtain ⟨w7, h7⟩ : ∃ w, w = (els.length : Int) :: fmW Sm.w els := ⟨_, rfl⟩
    have l4 : w4.length = (fmW Ex.w args).length + 1 := by rw [h4, List.length_cons]
    have l5 : w5.length = ptrs.length + 1 := by rw [h5, List.length_cons]
    have l6 : w6.length = (fmW Sm.w body).length + 1 := by rw [h6, List.length_cons]
    have l7 : w7.length = (fmW Sm.w els).length + 1 := by rw [h7, List.length_cons]
    rw [← h4] at c4 ⊢
    rw [← h5] at c5 ⊢
    rw [← h6] at c6 ⊢
    rw [← h7] at c7 ⊢
    clear h4 h5 h6 h7
    obtain ⟨U1, hU1⟩ : ∃ Z, Z = [site, op, n, m, v] ++ wa := ⟨_, rfl⟩
    have lU1 : U1.length = [site, op, n, m, v].length + wa.length := by rw [hU1, List.length_append]
    obtain ⟨U2, hU2⟩ : ∃ Z, Z = U1 ++ wb := ⟨_, rfl⟩
    have lU2 : U2.length = U1.length + wb.length := by rw [hU2, List.length_append]
    obtain ⟨U3, hU3⟩ : ∃ Z, Z = U2 ++ wc := ⟨_, rfl⟩
    have lU3 : U3.length = U2.length + wc.length := by rw [hU3, List.length_append]
    obtain ⟨U4, hU4⟩ : ∃ Z, Z = U3 ++ w4 := ⟨_, rfl⟩
    have lU4 : U4.length = U3.length + w4.length := by rw [hU4, List.length_append]
    obtain ⟨U5, hU5⟩ : ∃ Z, Z = U4 ++ w5 := ⟨_, rfl⟩
    have lU5 : U5.length = U4.length + w5.length := by rw [hU5, List.length_append]
    obtain ⟨U6, hU6⟩ : ∃ Z, Z = U5 ++ w6 := ⟨_, rfl⟩
    have lU6 : U6.length = U5.length + w6.length := by rw [hU6, List.length_append]
    obtain ⟨U7, hU7⟩ : ∃ Z, Z = U6 ++ w7 := ⟨_, rfl⟩
    have lU7 : U7.length = U6.length + w7.length := by rw [hU7, List.length_append]
    rw [← hU1, ← hU2, ← hU3, ← hU4, ← hU5, ← hU6, ← hU7]
    have l0 : [site, op, n, m, v].length = 5 := rfl
    obtain ⟨a1, a2, a3, a4⟩ := a
    obtain ⟨b1, b2, b3, b4⟩ := b
    obtain ⟨d1, d2, d3⟩ := c
    simp only [Sm.cl, Ex.cl, Co.cl, exC_eq, coC_eq, smC_eq, List.cons_append, List.nil_append] at c1 c2 c3 ⊢
    refine FC.of_AW tok Try.func15 (by kernel_rfl) rfl Try.ntmps15 [] rfl rfl rfl ?_; intro w0 X0 Y f0 hI0 hX0
    (repeat (first | refine K4 ?_ | refine L1 ?_ | refine L2 ?_ | refine RG.d ?_ | refine S1 ?_ | refine S2 ?_))
    refine RG.call rfl rfl rfl rfl (c1) [] rfl rfl rfl rfl (.nil _) (.nil _) (fun _ h => False.elim h) rfl (A.ren_free _ _ rfl) rfl ?_
    refine RG.append tok rfl rfl rfl rfl rfl rfl rfl rfl (n1 := 5) (c := ints .i64 [site, op, n, m, v]) (ks := [1]) rfl (m := wa.length) (l := ints .i64 wa) (ks' := []) rfl (by rw [ints_length, Nat.mul_one] <;> rfl) (by simp [ints_length, List.length_append] <;> omega) (ints_cell _ _) (by omega) (by omega) rfl (c' := ints .i64 U1) (by rw [ints_take _ _ _ (by simp [List.length_append] <;> omega), ← ints_append, hU1]) ?_
    rw [show 5 + wa.length = U1.length by rw [hU1, List.length_append] <;> rfl]
    (repeat (first | refine K4 ?_ | refine L1 ?_ | refine RG.dd ?_ | refine S1 ?_ | refine S2 ?_))
    refine RG.call rfl rfl rfl rfl (c2) [] rfl rfl rfl rfl (.nil _) (.nil _) (fun _ h => False.elim h) rfl (A.ren_free _ _ rfl) rfl ?_
    refine RG.append tok rfl rfl rfl rfl rfl rfl rfl rfl (n1 := U1.length) (c := ints .i64 U1) (ks := [2]) rfl (m := wb.length) (l := ints .i64 wb) (ks' := []) rfl (by rw [ints_length, Nat.mul_one] <;> rfl) (by simp [ints_length, List.length_append] <;> omega) (ints_cell _ _) (by omega) (by omega) rfl (c' := ints .i64 U2) (by rw [ints_take _ _ _ (by simp [List.length_append] <;> omega), ← ints_append, hU2]) ?_
    rw [show U1.length + wb.length = U2.length by rw [hU2, List.length_append] <;> rfl]
    (repeat (first | refine K4 ?_ | refine L1 ?_))
    refine RG.call rfl rfl rfl rfl (c3) [] rfl rfl rfl rfl (.nil _) (.nil _) (fun _ h => False.elim h) rfl (A.ren_free _ _ rfl) rfl ?_
    refine RG.append tok rfl rfl rfl rfl rfl rfl rfl rfl (n1 := U2.length) (c := ints .i64 U2) (ks := [3]) rfl (m := wc.length) (l := ints .i64 wc) (ks' := []) rfl (by rw [ints_length, Nat.mul_one] <;> rfl) (by simp [ints_length, List.length_append] <;> omega) (ints_cell _ _) (by omega) (by omega) rfl (c' := ints .i64 U3) (by rw [ints_take _ _ _ (by simp [List.length_append] <;> omega), ← ints_append, hU3]) ?_
    rw [show U2.length + wc.length = U3.length by rw [hU3, List.length_append] <;> rfl]
    (repeat (first | refine K4 ?_ | refine L1 ?_))
    refine RG.call rfl rfl rfl rfl (c4) [] rfl rfl rfl rfl (.nil _) (.nil _) (fun _ h => False.elim h) rfl (A.ren_free _ _ rfl) rfl ?_
    refine RG.append tok rfl rfl rfl rfl rfl rfl rfl rfl (n1 := U3.length) (c := ints .i64 U3) (ks := [4]) rfl (m := w4.length) (l := ints .i64 w4) (ks' := []) rfl (by rw [ints_length, Nat.mul_one] <;> rfl) (by simp [ints_length, List.length_append] <;> omega) (ints_cell _ _) (by omega) (by omega) rfl (c' := ints .i64 U4) (by rw [ints_take _ _ _ (by simp [List.length_append] <;> omega), ← ints_append, hU4]) ?_
    rw [show U3.length + w4.length = U4.length by rw [hU4, List.length_append] <;> rfl]
    (repeat (first | refine K4 ?_ | refine L1 ?_ | refine RG.dd ?_ | refine S1 ?_ | refine S2 ?_))
    refine RG.call rfl rfl rfl rfl (c5) [] rfl rfl rfl rfl (.nil _) (.nil _) (fun _ h => False.elim h) rfl (A.ren_free _ _ rfl) rfl ?_
    refine RG.append tok rfl rfl rfl rfl rfl rfl rfl rfl (n1 := U4.length) (c := ints .i64 U4) (ks := [5]) rfl (m := w5.length) (l := ints .i64 w5) (ks' := []) rfl (by rw [ints_length, Nat.mul_one] <;> rfl) (by simp [ints_length, List.length_append] <;> omega) (ints_cell _ _) (by omega) (by omega) rfl (c' := ints .i64 U5) (by rw [ints_take _ _ _ (by simp [List.length_append] <;> omega), ← ints_append, hU5]) ?_
    rw [show U4.length + w5.length = U5.length by rw [hU5, List.length_append] <;> rfl]
    (repeat (first | refine K4 ?_ | refine L1 ?_))
    refine RG.call rfl rfl rfl rfl (c6) [] rfl rfl rfl rfl (.nil _) (.nil _) (fun _ h => False.elim h) rfl (A.ren_free _ _ rfl) rfl ?_
    refine RG.append tok rfl rfl rfl rfl rfl rfl rfl rfl (n1 := U5.length) (c := ints .i64 U5) (ks := [6]) rfl (m := w6.length) (l := ints .i64 w6) (ks' := []) rfl (by rw [ints_length, Nat.mul_one] <;> rfl) (by simp [ints_length, List.length_append] <;> omega) (ints_cell _ _) (by omega) (by omega) rfl (c' := ints .i64 U6) (by rw [ints_take _ _ _ (by simp [List.length_append] <;> omega), ← ints_append, hU6]) ?_
    rw [show U5.length + w6.length = U6.length by rw [hU6, List.length_append] <;> rfl]
    (repeat (first | refine K4 ?_ | refine L1 ?_))
    refine RG.call rfl rfl rfl rfl (c7) [] rfl rfl rfl rfl (.nil _) (.nil _) (fun _ h => False.elim h) rfl (A.ren_free _ _ rfl) rfl ?_
    refine RG.append tok rfl rfl rfl rfl rfl rfl rfl rfl (n1 := U6.length) (c := ints .i64 U6) (ks := [7]) rfl (m := w7.length) (l := ints .i64 w7) (ks' := []) rfl (by rw [ints_length, Nat.mul_one] <;> rfl) (by simp [ints_length, List.length_append] <;> omega) (ints_cell _ _) (by omega) (by omega) rfl (c' := ints .i64 U7) (by rw [ints_take _ _ _ (by simp [List.length_append] <;> omega), ← ints_append, hU7]) ?_
    rw [show U6.length + w7.length = U7.length by rw [hU7, List.length_append] <;> rfl]
    (repeat (first | refine K4 ?_ | refine RG.dd ?_))
    refine AW.sub (Sub.frz (ks := [8]) 2 rfl (frzI (xs := U7) rfl (by decide) rfl)) ?_
    (repeat (first | refine S6 ?_))
    exact ⟨⟨_, rfl, rfl⟩, rfl, .nil _⟩
termination_by e => SizeOf.sizeOf e
decreasing_by
  all_goals
    have := List.sizeOf_lt_of_mem hx
    simp_wf
    omega
theorem rsms (l : List Sm) (hB : 1 + (fmW Sm.w l).length ≤ BW) : FC Try.prog ge 40 [.ro l.length (flC Sm.cl l)] [] (rdi ((l.length : Int) :: fmW Sm.w l)) [] NoP :=
  rsms_fc l (fun x hx => rsm_fc x (by have := fmW_mem Sm.w l x hx; omega)) hB
def sig3 (k : Nat) : Nat := if k = 0 then 0 else k + 2
def sig7 (k : Nat) : Nat := if k = 0 then 0 else k + 6
theorem sig3_inj : ∀ a b, sig3 a = sig3 b → a = b := by intro a b h; unfold sig3 at h; split at h <;> split at h <;> omega
theorem sig7_inj : ∀ a b, sig7 a = sig7 b → a = b := by intro a b h; unfold sig7 at h; split at h <;> split at h <;> omega
theorem sig3_hi (a : Nat) (ha : 2 ≤ a) : 4 ≤ sig3 a := by unfold sig3; split <;> omega
theorem sig7_hi (a : Nat) (ha : 2 ≤ a) : 8 ≤ sig7 a := by unfold sig7; split <;> omega
theorem unb_at (xs : List Int) (h : ∀ x, x ∈ xs → 0 ≤ x ∧ x ≤ 255) (i : Nat) (x : Int) (hx : xs[i]? = some x) : ((unb xs).data.toList.getD i 0).toNat = x := by
  have hb := byt_unb xs h
  have : (byt (unb xs))[i]? = some x := by rw [hb]; exact hx
  unfold byt at this
  rw [List.getElem?_map] at this
  obtain ⟨c, hc, rfl⟩ := Option.map_eq_some_iff.1 this
  rw [List.getD_eq_getElem?_getD, hc]; rfl
theorem take_snoc (l : List Int) (i : Nat) (x : Int) (h : l[i]? = some x) : l.take (i + 1) = l.take i ++ [x] := by
  rw [List.take_add_one, h]; rfl
set_option maxHeartbeats 16000000 in
set_option maxRecDepth 10000 in
theorem rdef_fc (d : Df) (ok : d.ok) (hB : d.w.length ≤ BW) : FC Try.prog ge 33 [.agg d.cl] [] (rdi d.w) [] NoP := by
    obtain ⟨id, site, name, firm, part, params, given, vars, refs, arrays, budget, body⟩ := d
    have hw : (Df.mk id site name firm part params given vars refs arrays budget body).w = [1, id, site, (name.length : Int)] ++ name ++ [firm, part] ++ ((params.length : Int) :: fmW Rg.w params) ++ ((given.length : Int) :: fmW Rg.w given) ++ [vars, refs, (arrays.length : Int)] ++ fmW Ar.w arrays ++ [budget] ++ ((body.length : Int) :: fmW Sm.w body) := by simp [Df.w, smW_eq]
    have hB2 := hB
    rw [hw] at hB2
    simp only [List.length_append, List.length_cons, List.length_nil] at hB2
    have c2 := rranges_fc params (by omega)
    have c3 := rranges_fc given (by omega)
    have c6 := rsms body (by omega)
    have hla : arrays.length ≤ BW := by have := fmW_len (w := Ar.w) (fun x => Ar.w_pos x) arrays; omega
    have hsz : (unb name).size = name.length := unb_size name
    rw [hw]
    unfold BW at hB2 hla
    clear hB hw
    obtain ⟨w2, h2⟩ : ∃ w, w = (params.length : Int) :: fmW Rg.w params := ⟨_, rfl⟩
    obtain ⟨w3, h3⟩ : ∃ w, w = (given.length : Int) :: fmW Rg.w given := ⟨_, rfl⟩
    obtain ⟨w6, h6⟩ : ∃ w, w = (body.length : Int) :: fmW Sm.w body := ⟨_, rfl⟩
    have l2 : w2.length = (fmW Rg.w params).length + 1 := by rw [h2, List.length_cons]
    have l3 : w3.length = (fmW Rg.w given).length + 1 := by rw [h3, List.length_cons]
    have l6 : w6.length = (fmW Sm.w body).length + 1 := by rw [h6, List.length_cons]
    rw [← h2] at c2 ⊢
    rw [← h3] at c3 ⊢
    rw [← h6] at c6 ⊢
    clear h2 h3 h6
    obtain ⟨U1, hU1⟩ : ∃ Z, Z = [1, id, site, (name.length : Int)] ++ name := ⟨_, rfl⟩
    have lU1 : U1.length = [1, id, site, (name.length : Int)].length + name.length := by rw [hU1, List.length_append]
    obtain ⟨U2, hU2⟩ : ∃ Z, Z = U1 ++ [firm, part] := ⟨_, rfl⟩
    have lU2 : U2.length = U1.length + [firm, part].length := by rw [hU2, List.length_append]
    obtain ⟨U3, hU3⟩ : ∃ Z, Z = U2 ++ w2 := ⟨_, rfl⟩
    have lU3 : U3.length = U2.length + w2.length := by rw [hU3, List.length_append]
    obtain ⟨U4, hU4⟩ : ∃ Z, Z = U3 ++ w3 := ⟨_, rfl⟩
    have lU4 : U4.length = U3.length + w3.length := by rw [hU4, List.length_append]
    obtain ⟨U5, hU5⟩ : ∃ Z, Z = U4 ++ [vars, refs, (arrays.length : Int)] := ⟨_, rfl⟩
    have lU5 : U5.length = U4.length + [vars, refs, (arrays.length : Int)].length := by rw [hU5, List.length_append]
    obtain ⟨U6, hU6⟩ : ∃ Z, Z = U5 ++ fmW Ar.w arrays := ⟨_, rfl⟩
    have lU6 : U6.length = U5.length + (fmW Ar.w arrays).length := by rw [hU6, List.length_append]
    obtain ⟨U7, hU7⟩ : ∃ Z, Z = U6 ++ [budget] := ⟨_, rfl⟩
    have lU7 : U7.length = U6.length + [budget].length := by rw [hU7, List.length_append]
    obtain ⟨U8, hU8⟩ : ∃ Z, Z = U7 ++ w6 := ⟨_, rfl⟩
    have lU8 : U8.length = U7.length + w6.length := by rw [hU8, List.length_append]
    rw [← hU1, ← hU2, ← hU3, ← hU4, ← hU5, ← hU6, ← hU7, ← hU8]
    have e0 : [1, id, site, (name.length : Int)].length = 4 := rfl
    have e1 : [firm, part].length = 2 := rfl
    have e2 : [vars, refs, (arrays.length : Int)].length = 3 := rfl
    have e3 : [budget].length = 1 := rfl
    simp only [Df.cl]
    obtain ⟨D, hD⟩ : ∃ D, D = [i64 id, i64 site, strA (unb name), i64 firm, i64 part, .ro params.length (flC Rg.cl params), .ro given.length (flC Rg.cl given), i64 vars, i64 refs, .ro arrays.length (flC Ar.cl arrays), i64 budget, .ro body.length (flC Sm.cl body)] := ⟨_, rfl⟩
    have hDf : ltL 0 D = true := by rw [hD]; rfl
    refine FC.of_AW tok Try.func33 (by kernel_rfl) rfl Try.ntmps33 [] rfl rfl rfl ?_; intro w0 X0 Y f0 hI0 hX0
    refine S1 ?_; (repeat (first | refine K4 ?_ | refine L2 ?_ | refine RG.d ?_ | refine S2 ?_))
    refine S1 ?_; (repeat (first | refine K4 ?_ | refine L1 ?_ | refine L2 ?_ | refine RG.d ?_ | refine S2 ?_))
    rw [hsz]
    refine AW.seqJ (fun _ : Unit => ⟨put 1 (some (.ptr 0 [] 0)) (put 3 (some (.sl 1 [] 1 0 U1.length)) noE), hput 0 (.one ([i64 id, i64 site, strA (unb name), i64 firm, i64 part, .ro params.length (flC Rg.cl params), .ro given.length (flC Rg.cl given), i64 vars, i64 refs, .ro arrays.length (flC Ar.cl arrays), i64 budget, .ro body.length (flC Sm.cl body)])) (hput 1 (.one (ints .i64 U1)) noH), 2⟩) (fun _ => True) ?_ ?_
    · refine S1 ?_; (repeat (first | refine K4 ?_ | refine RG.d ?_ | refine S2 ?_ | refine S4 ?_))
      refine AW.loopS (fun p : Nat × List Int => ⟨put 1 (some (.ptr 0 [] 0)) (put 3 (some (.sl 1 [] 1 0 p.2.length)) (put 4 (some (i64 (p.1 : Int))) noE)), hput 0 (.one ([i64 id, i64 site, strA (unb name), i64 firm, i64 part, .ro params.length (flC Rg.cl params), .ro given.length (flC Rg.cl given), i64 vars, i64 refs, .ro arrays.length (flC Ar.cl arrays), i64 budget, .ro body.length (flC Sm.cl body)])) (hput 1 (.one (ints .i64 p.2)) noH), 2⟩)
        (fun p => p.1 ≤ name.length ∧ p.2 = [1, id, site, (name.length : Int)] ++ name.take p.1) (fun p => name.length - p.1) (0, [1, id, site, (name.length : Int)]) ⟨Nat.zero_le _, by simp⟩ (Sub.of (by repeat (first | exact SubE.no _ | refine SubE.put rfl ?_)) (by repeat (first | exact SubH.no _ | refine SubH.put rfl ?_)) rfl) ?_
      rintro ⟨i, U⟩ ⟨hi, hU⟩
      dsimp only at hi hU
      have lU : U.length = 4 + i := by rw [hU, List.length_append, List.length_take, e0]; omega
      (repeat (first | refine K4 ?_ | refine L1 ?_ | refine RG.d ?_ | refine S1 ?_ | refine S2 ?_))
      rw [hsz]
      refine AW.condD rfl (fun k => ?_) (fun k => ?_)
      rotate_left
      · have hi2 : i = name.length := by
          have : ¬ (i : Int) < (name.length : Int) := k
          omega
        rw [hi2, List.take_length, ← hU1] at hU
        subst hU
        (repeat (first | refine S5 ?_))
        exact ⟨(), trivial, Sub.of (by repeat (first | exact SubE.no _ | refine SubE.put rfl ?_)) (by repeat (first | exact SubH.no _ | refine SubH.put rfl ?_)) rfl⟩
      have hi2 : i < name.length := by
        have : (i : Int) < (name.length : Int) := k
        omega
      obtain ⟨x, hx⟩ : ∃ x, name[i]? = some x := ⟨_, List.getElem?_eq_getElem hi2⟩
      have hat := unb_at name ok i x hx
      have hok := ok x (List.mem_of_getElem? hx)
      unfold leOk at hok
      refine S3 ?_
      repeat (first | refine S1 ?_ | refine S4 ?_)
      refine S2 ?_
      (first | refine K4 ?_)
      (first | refine K4 ?_)
      (first | refine L1 ?_)
      (first | refine K4 ?_)
      refine RG.val tok rfl rfl rfl (show 0 ≤ (i : Int) ∧ (i : Int) < ((unb name).size : Int) by omega) rfl (show some (A.val (.int .u8 (((unb name).data.toList.getD (iNat (i : Int)) 0).toNat : Int))) = some (A.val (.int .u8 x)) by rw [iNat_eq, Int.toNat_natCast, hat]) ?_
      (repeat (first | refine K2 ?_ | refine L2 ?_))
      obtain ⟨V, hV⟩ : ∃ Z, Z = U ++ [x] := ⟨_, rfl⟩
      have lV : V.length = U.length + [x].length := by rw [hV, List.length_append]
      refine RG.append tok rfl rfl rfl rfl rfl rfl rfl rfl (n1 := U.length) (c := ints .i64 U) (ks := [1]) rfl (m := 1) (l := ints .i64 [x]) (ks' := [2]) rfl (by rw [ints_length, Nat.mul_one] <;> rfl) (by simp [ints_length, List.length_append] <;> omega) (ints_cell _ _) (by omega) (by omega) rfl (c' := ints .i64 V) (by rw [ints_take _ _ _ (by simp [List.length_append] <;> omega), ← ints_append, hV]) ?_
      rw [show U.length + 1 = V.length by rw [hV, List.length_append] <;> rfl]
      (repeat (first | refine K2 ?_ | refine K4 ?_ | refine RG.d ?_ | refine S2 ?_))
      refine ⟨(i + 1, V), ⟨by dsimp only; omega, by dsimp only; rw [hV, hU, take_snoc name i x hx, List.append_assoc]⟩, by dsimp only; omega, Sub.renB sig3 ?_ ?_ ?_ ?_ ?_⟩
      · exact SubEr.put rfl (SubEr.put rfl (SubEr.put rfl (SubEr.no _ _)))
      · exact SubHr.put rfl rfl (SubHr.put rfl (ints_free _ _ _) (SubHr.no _ _))
      · exact sig3_inj
      · intro a ha
        exact sig3_hi a ha
      · intro a ha
        exact absurd ha (Nat.not_lt_zero _)
    intro _ _
    refine S1 ?_; (repeat (first | refine K4 ?_ | refine L1 ?_ | refine L2 ?_ | refine S2 ?_))
    refine RG.append tok rfl rfl rfl rfl rfl rfl rfl rfl (n1 := U1.length) (c := ints .i64 U1) (ks := [1]) rfl (m := 2) (l := ints .i64 [firm, part]) (ks' := [2]) rfl (by rw [ints_length, Nat.mul_one] <;> rfl) (by simp [ints_length, List.length_append] <;> omega) (ints_cell _ _) (by omega) (by omega) rfl (c' := ints .i64 U2) (by rw [ints_take _ _ _ (by simp [List.length_append] <;> omega), ← ints_append, hU2]) ?_
    rw [show U1.length + 2 = U2.length by rw [hU2, List.length_append] <;> rfl]
    (repeat (first | refine K4 ?_ | refine L1 ?_))
    refine RG.call rfl rfl rfl rfl (c2) [] rfl rfl rfl rfl (.nil _) (.nil _) (fun _ h => False.elim h) rfl (A.ren_free _ _ rfl) rfl ?_
    refine RG.append tok rfl rfl rfl rfl rfl rfl rfl rfl (n1 := U2.length) (c := ints .i64 U2) (ks := [3]) rfl (m := w2.length) (l := ints .i64 w2) (ks' := []) rfl (by rw [ints_length, Nat.mul_one] <;> rfl) (by simp [ints_length, List.length_append] <;> omega) (ints_cell _ _) (by omega) (by omega) rfl (c' := ints .i64 U3) (by rw [ints_take _ _ _ (by simp [List.length_append] <;> omega), ← ints_append, hU3]) ?_
    rw [show U2.length + w2.length = U3.length by rw [hU3, List.length_append] <;> rfl]
    (repeat (first | refine K4 ?_ | refine L1 ?_))
    refine RG.call rfl rfl rfl rfl (c3) [] rfl rfl rfl rfl (.nil _) (.nil _) (fun _ h => False.elim h) rfl (A.ren_free _ _ rfl) rfl ?_
    refine RG.append tok rfl rfl rfl rfl rfl rfl rfl rfl (n1 := U3.length) (c := ints .i64 U3) (ks := [4]) rfl (m := w3.length) (l := ints .i64 w3) (ks' := []) rfl (by rw [ints_length, Nat.mul_one] <;> rfl) (by simp [ints_length, List.length_append] <;> omega) (ints_cell _ _) (by omega) (by omega) rfl (c' := ints .i64 U4) (by rw [ints_take _ _ _ (by simp [List.length_append] <;> omega), ← ints_append, hU4]) ?_
    rw [show U3.length + w3.length = U4.length by rw [hU4, List.length_append] <;> rfl]
    (repeat (first | refine K4 ?_ | refine RG.dd ?_))
    refine S1 ?_; (repeat (first | refine K4 ?_ | refine L1 ?_ | refine L2 ?_ | refine S2 ?_))
    refine RG.append tok rfl rfl rfl rfl rfl rfl rfl rfl (n1 := U4.length) (c := ints .i64 U4) (ks := [5]) rfl (m := 3) (l := ints .i64 [vars, refs, (arrays.length : Int)]) (ks' := [6]) rfl (by rw [ints_length, Nat.mul_one] <;> rfl) (by simp [ints_length, List.length_append] <;> omega) (ints_cell _ _) (by omega) (by omega) rfl (c' := ints .i64 U5) (by rw [ints_take _ _ _ (by simp [List.length_append] <;> omega), ← ints_append, hU5]) ?_
    rw [show U4.length + 3 = U5.length by rw [hU5, List.length_append] <;> rfl]
    (repeat (first | refine K4 ?_ | refine RG.d ?_))
    refine AW.seqJ (fun _ : Unit => ⟨put 1 (some (.ptr 0 [] 0)) (put 3 (some (.sl 1 [] 1 0 U6.length)) noE), hput 0 (.one ([i64 id, i64 site, strA (unb name), i64 firm, i64 part, .ro params.length (flC Rg.cl params), .ro given.length (flC Rg.cl given), i64 vars, i64 refs, .ro arrays.length (flC Ar.cl arrays), i64 budget, .ro body.length (flC Sm.cl body)])) (hput 1 (.one (ints .i64 U6)) noH), 2⟩) (fun _ => True) ?_ ?_
    · refine S1 ?_; (repeat (first | refine K4 ?_ | refine RG.d ?_ | refine S2 ?_ | refine S4 ?_))
      refine AW.loopS (fun p : Nat × List Int => ⟨put 1 (some (.ptr 0 [] 0)) (put 3 (some (.sl 1 [] 1 0 p.2.length)) (put 5 (some (i64 (p.1 : Int))) noE)), hput 0 (.one ([i64 id, i64 site, strA (unb name), i64 firm, i64 part, .ro params.length (flC Rg.cl params), .ro given.length (flC Rg.cl given), i64 vars, i64 refs, .ro arrays.length (flC Ar.cl arrays), i64 budget, .ro body.length (flC Sm.cl body)])) (hput 1 (.one (ints .i64 p.2)) noH), 2⟩)
        (fun p => p.1 ≤ arrays.length ∧ p.2 = U5 ++ fmW Ar.w (arrays.take p.1)) (fun p => arrays.length - p.1) (0, U5) ⟨Nat.zero_le _, by simp [fmW]⟩ (Sub.renB sig7 ?_ ?_ ?_ ?_ ?_) ?_
      · exact SubEr.put rfl (SubEr.put rfl (SubEr.put rfl (SubEr.no _ _)))
      · exact SubHr.put rfl rfl (SubHr.put rfl (ints_free _ _ _) (SubHr.no _ _))
      · exact sig7_inj
      · intro a ha
        exact sig7_hi a ha
      · intro a ha
        exact absurd ha (Nat.not_lt_zero _)
      rintro ⟨i, U⟩ ⟨hi, hU⟩
      dsimp only at hi hU
      (repeat (first | refine K4 ?_ | refine L1 ?_ | refine RG.d ?_ | refine S1 ?_ | refine S2 ?_))
      refine AW.condD rfl (fun k => ?_) (fun k => ?_)
      rotate_left
      · have hi2 : i = arrays.length := by
          have : ¬ (i : Int) < (arrays.length : Int) := k
          omega
        rw [hi2, List.take_length, ← hU6] at hU
        subst hU
        (repeat (first | refine S5 ?_))
        exact ⟨(), trivial, Sub.of (by repeat (first | exact SubE.no _ | refine SubE.put rfl ?_)) (by repeat (first | exact SubH.no _ | refine SubH.put rfl ?_)) rfl⟩
      have hi2 : i < arrays.length := by
        have : (i : Int) < (arrays.length : Int) := k
        omega
      obtain ⟨x, hx⟩ : ∃ x, arrays[i]? = some x := ⟨_, List.getElem?_eq_getElem hi2⟩
      have hat := flC_at Ar.cl_len arrays i x hx
      have hU2' := fmW_take Ar.w arrays i x hx
      have hlen := fmW_le Ar.w arrays (i + 1)
      rw [hU2', List.length_append] at hlen
      have hUl : U.length = U5.length + (fmW Ar.w (arrays.take i)).length := by rw [hU, List.length_append]
      simp only [Ar.w, List.length_cons, List.length_nil] at hlen
      simp only [Ar.cl, List.cons_append, List.nil_append] at hat
      (repeat (first | refine K4 ?_ | refine L1 ?_ | refine S1 ?_ | refine S2 ?_ | refine S3 ?_ | refine S4 ?_))
      refine RG.idx tok rfl rfl rfl rfl rfl rfl hat ⟨by omega, by omega⟩ rfl ?_
      (repeat (first | refine K4 ?_ | refine L1 ?_))
      refine RG.idx tok rfl rfl rfl rfl rfl rfl hat ⟨by omega, by omega⟩ rfl ?_
      (repeat (first | refine K4 ?_ | refine L1 ?_ | refine L2 ?_))
      obtain ⟨V, hV⟩ : ∃ Z, Z = U ++ [x.len, x.of] := ⟨_, rfl⟩
      have lV : V.length = U.length + [x.len, x.of].length := by rw [hV, List.length_append]
      refine RG.append tok rfl rfl rfl rfl rfl rfl rfl rfl (n1 := U.length) (c := ints .i64 U) (ks := [1]) rfl (m := 2) (l := ints .i64 [x.len, x.of]) (ks' := [2]) rfl (by rw [ints_length, Nat.mul_one] <;> rfl) (by simp [ints_length, List.length_append] <;> omega) (ints_cell _ _) (by omega) (by omega) rfl (c' := ints .i64 V) (by rw [ints_take _ _ _ (by simp [List.length_append] <;> omega), ← ints_append, hV]) ?_
      rw [show U.length + 2 = V.length by rw [hV, List.length_append] <;> rfl]
      (repeat (first | refine K2 ?_ | refine K4 ?_ | refine RG.d ?_ | refine RG.dd ?_ | refine S2 ?_))
      refine ⟨(i + 1, V), ⟨by dsimp only; omega, by dsimp only; rw [hV, hU, hU2', List.append_assoc]; rfl⟩, by dsimp only; omega, Sub.renB sig3 ?_ ?_ ?_ ?_ ?_⟩
      · exact SubEr.put rfl (SubEr.put rfl (SubEr.put rfl (SubEr.no _ _)))
      · exact SubHr.put rfl rfl (SubHr.put rfl (ints_free _ _ _) (SubHr.no _ _))
      · exact sig3_inj
      · intro a ha
        exact sig3_hi a ha
      · intro a ha
        exact absurd ha (Nat.not_lt_zero _)
    intro _ _
    refine S1 ?_; (repeat (first | refine K4 ?_ | refine L1 ?_ | refine L2 ?_ | refine S2 ?_))
    refine RG.append tok rfl rfl rfl rfl rfl rfl rfl rfl (n1 := U6.length) (c := ints .i64 U6) (ks := [1]) rfl (m := 1) (l := ints .i64 [budget]) (ks' := [2]) rfl (by rw [ints_length, Nat.mul_one] <;> rfl) (by simp [ints_length, List.length_append] <;> omega) (ints_cell _ _) (by omega) (by omega) rfl (c' := ints .i64 U7) (by rw [ints_take _ _ _ (by simp [List.length_append] <;> omega), ← ints_append, hU7]) ?_
    rw [show U6.length + 1 = U7.length by rw [hU7, List.length_append] <;> rfl]
    (repeat (first | refine K4 ?_ | refine L1 ?_))
    refine RG.call rfl rfl rfl rfl (c6) [] rfl rfl rfl rfl (.nil _) (.nil _) (fun _ h => False.elim h) rfl (A.ren_free _ _ rfl) rfl ?_
    refine RG.append tok rfl rfl rfl rfl rfl rfl rfl rfl (n1 := U7.length) (c := ints .i64 U7) (ks := [3]) rfl (m := w6.length) (l := ints .i64 w6) (ks' := []) rfl (by rw [ints_length, Nat.mul_one] <;> rfl) (by simp [ints_length, List.length_append] <;> omega) (ints_cell _ _) (by omega) (by omega) rfl (c' := ints .i64 U8) (by rw [ints_take _ _ _ (by simp [List.length_append] <;> omega), ← ints_append, hU8]) ?_
    rw [show U7.length + w6.length = U8.length by rw [hU8, List.length_append] <;> rfl]
    (repeat (first | refine K4 ?_ | refine RG.dd ?_))
    refine AW.sub (Sub.frz (ks := [4]) 2 rfl (frzI (xs := U8) rfl (by decide) rfl)) ?_
    (repeat (first | refine S6 ?_))
    exact ⟨⟨_, rfl, rfl⟩, rfl, .nil _⟩
end Go.Proofs.Ytmfccaidgaelcaa
