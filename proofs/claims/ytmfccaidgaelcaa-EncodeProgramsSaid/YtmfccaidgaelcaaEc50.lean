/- Programs are read as they were written. No conditions. -/
import Derived.Test.YtmfccaidgaelcaaEc48
import Derived.Test.YtmfccaidgaelcaaEc49
import Derived.Test.YtmfccaidgaelcaaEc15
import Derived.Test.YtmfccaidgaelcaaEc18
set_option linter.unusedVariables false
set_option linter.unusedSimpArgs false
namespace Go.Proofs.Ytmfccaidgaelcaa
open Go.Abs Go Go.RowKit
theorem sml64 {w : List Int} (h : Sml w) : ∀ x, x ∈ w → I64' x := fun x hx => by have := h x hx; unfold I64'; omega
theorem rdAll_two (l : List Int) : rdAll (2 :: l) [] = none := by
  unfold rdAll
  rw [show rdDf 200000 (2 :: l) = none by simp only [rdDf, one]; rw [if_neg (by decide)]]
theorem pg_w2 (p : Pg) : ∃ l, p.w = 2 :: l := ⟨_, rfl⟩
theorem pg_tail (p : Pg) : ∃ l, p.w = l ++ (fmW Df.w p.defs ++ ((p.threads.length : Int) :: p.threads)) := by
  refine ⟨2 :: (p.dc.globals.length : Int) :: (fmW Rg.w p.dc.globals ++ ((p.dc.classes.length : Int) :: (fmW Rg.w p.dc.classes ++ ((p.dc.queues.length : Int) :: (fmW Qu.w p.dc.queues ++ ((p.dc.sinks.length : Int) :: (p.dc.sinks ++ (p.dc.locks :: p.dc.parts :: p.dc.firms :: (p.heads.length : Int) :: (fmW Hd.w p.heads ++ [(p.defs.length : Int)]))))))))), ?_⟩
  simp [Pg.w, pgT]
theorem srcA_own {h : Nat → Reg} {k n : Nat} {kk : IntKind} {xs : List Int} (hk : h k = .one (ints kk xs)) (hn : n = xs.length) : srcA (.sl k [] 1 0 n) 1 h = some (n, ints kk xs, [k]) := by
  subst hn
  simp only [srcA, hk, Reg.get, dropO_of (Nat.zero_le _), List.drop_zero, Nat.mul_one]
  rw [List.take_of_length_le (by rw [ints_length]; exact Nat.le_refl _)]
def sgm (c k : Nat) : Nat := if k < 4 then k else k + c
theorem sgm_inj (c : Nat) : ∀ a b, sgm c a = sgm c b → a = b := by intro a b h; unfold sgm at h; split at h <;> split at h <;> omega
theorem sgm_hi (c a : Nat) (ha : 5 ≤ a) : 5 + c ≤ sgm c a := by unfold sgm; split <;> omega
set_option maxHeartbeats 16000000 in
set_option maxRecDepth 10000 in
theorem programs_fc (L : List Int) (hL : ∀ x, x ∈ L → 0 ≤ x ∧ x ≤ 255) (hlL : L.length ≤ 9223372036854775807) (k0 k1 : Int) (hk0 : 0 ≤ k0 ∧ k0 ≤ 65535) (hk1 : 0 ≤ k1 ∧ k1 ≤ 65535) :
    FC Try.prog ge 8 [.agg [.ro L.length (ints .u8 L)], .agg [.val (.int .u16 k0), .val (.int .u16 k1)]] [] (.val (.bool true)) [] NoP := by
  have cX := examples_fc
  have cM := Made_fc L hL hlL
  have pk := gMade_ok L hL hlL
  obtain ⟨p, hp⟩ : ∃ p, p = gMade L := ⟨_, rfl⟩
  rw [← hp] at cM pk
  clear hp
  have h64 := sml64 pk.sml
  have hlen := pk.len
  have ok := pk.ok
  have cP := program_fc p ok (by omega)
  have cR := readPg_fc p.w h64 (by omega)
  rw [pgAll_w p ok (by omega)] at cR
  have cS := sameProg_fc p p ok ok (by omega) (by omega)
  rw [show decide (p.w = p.w) = true from decide_eq_true rfl] at cS
  have cD := readDef_fc p.w [] (by decide) h64 (by simp; omega)
  obtain ⟨w2, hw2⟩ := pg_w2 p
  rw [show rdAll p.w [] = none by rw [hw2]; exact rdAll_two w2, btA_nil] at cD
  simp only [wholeA, zdef, List.map_cons, List.map_nil] at cD
  obtain ⟨wh, hwh⟩ := pg_tail p
  obtain ⟨w, hw⟩ : ∃ w, w = p.w := ⟨_, rfl⟩
  rw [← hw] at cP cR cD hwh hlen h64
  have hcl : p.cl = [.ro p.dc.globals.length (flC Rg.cl p.dc.globals), .ro p.dc.classes.length (flC Rg.cl p.dc.classes), .ro p.dc.queues.length (flC Qu.cl p.dc.queues), .ro p.dc.sinks.length (ints .i64 p.dc.sinks), i64 p.dc.locks, i64 p.dc.parts, i64 p.dc.firms, .ro p.heads.length (flC Hd.cl p.heads), .ro p.defs.length (flC Df.cl p.defs), .ro p.threads.length (ints .i64 p.threads)] := rfl
  have hpos : 1 ≤ w.length := by rw [hw, hw2]; simp
  have lw : w.length = wh.length + ((fmW Df.w p.defs).length + (p.threads.length + 1)) := by rw [hwh]; simp
  simp only [pgA] at cR
  rw [hcl] at cM cP cR cS
  refine FC.of_AW tok Try.func8 (by kernel_rfl) rfl Try.ntmps8 [] rfl rfl rfl ?_; intro w0 X0 Y f0 hI0 hX0
  refine S1 ?_; (repeat (first | refine K4 ?_ | refine L2 ?_ | refine RG.d ?_ | refine S2 ?_)); refine S1 ?_; (repeat (first | refine RG.call rfl rfl rfl rfl (cX) [] rfl rfl rfl rfl (.nil _) (.nil _) (fun _ h => False.elim h) rfl (A.ren_free _ _ rfl) rfl ?_ | refine K4 ?_ | refine RG.d ?_ | refine S2 ?_))
  refine S1 ?_; (repeat (first | refine K1 ?_)); refine S1 ?_; (repeat (first | refine K4 ?_ | refine RG.d ?_ | refine S2 ?_ | refine S3 ?_ | refine S8 ?_))
  (repeat (first | refine RG.call rfl rfl rfl rfl (cM) [] rfl rfl rfl rfl (.nil _) (.nil _) (fun _ h => False.elim h) rfl (A.ren_free _ _ rfl) rfl ?_ | refine RG.call rfl rfl rfl rfl (cP) [] rfl rfl rfl rfl (.nil _) (.nil _) (fun _ h => False.elim h) rfl (A.ren_free _ _ rfl) rfl ?_ | refine RG.call rfl rfl rfl rfl (cR) [] rfl rfl rfl rfl (.nil _) (.nil _) (fun _ h => False.elim h) rfl (A.ren_free _ _ rfl) rfl ?_ | refine RG.call rfl rfl rfl rfl (cS) [] rfl rfl rfl rfl (.nil _) (.nil _) (fun _ h => False.elim h) rfl (A.ren_free _ _ rfl) rfl ?_ | refine K2 ?_ | refine K4 ?_ | refine L1 ?_ | refine L2 ?_ | refine L3 ?_ | refine RG.d ?_ | refine S1 ?_ | refine S2 ?_))
  refine AW.condD rfl (fun k => absurd (show ((8 * w.length : Nat) : Int) < 8 * (p.threads.length : Int) from k) (by omega)) (fun _ => ?_)
  refine S3 ?_
  refine AW.sub (show Sub _ _ (⟨put 3 (some (.ptr 1 [] 0)) (put 5 (some (.val (.bool true))) (put 6 (some (.ptr 2 [] 0)) (put 7 (some (byA w)) noE))), hput 1 (.one ([.val (.int .u16 k0), .val (.int .u16 k1)])) (hput 2 (.one ([.ro p.dc.globals.length (flC Rg.cl p.dc.globals), .ro p.dc.classes.length (flC Rg.cl p.dc.classes), .ro p.dc.queues.length (flC Qu.cl p.dc.queues), .ro p.dc.sinks.length (ints .i64 p.dc.sinks), i64 p.dc.locks, i64 p.dc.parts, i64 p.dc.firms, .ro p.heads.length (flC Hd.cl p.heads), .ro p.defs.length (flC Df.cl p.defs), .ro p.threads.length (ints .i64 p.threads)])) noH), 4⟩) from Sub.of (by repeat (first | exact SubE.no _ | refine SubE.put rfl ?_)) (by repeat (first | exact SubH.no _ | refine SubH.put rfl ?_)) rfl) ?_
  clear cM cP cR cX
  obtain ⟨tw, htw⟩ : ∃ tw, tw = (p.threads.length : Int) :: p.threads := ⟨_, rfl⟩
  have ltw : 1 + p.threads.length = tw.length := by rw [htw, List.length_cons]; omega
  have hth := pk.th
  have cB := rbytes_fc tw (by unfold BW; omega)
  rw [← htw] at hwh
  refine S1 ?_
  (repeat (first | refine K4 ?_ | refine L1 ?_ | refine L2 ?_ | refine S2 ?_))
  refine RG.append tok rfl rfl rfl rfl rfl rfl rfl rfl (n1 := 1) (c := [i64 (p.threads.length : Int)]) (ks := [5]) rfl (m := p.threads.length) (l := ints .i64 p.threads) (ks' := []) rfl (by rw [ints_length, Nat.mul_one]) (Nat.le_refl 1) (ints_cell _ _) (by omega) (by omega) rfl (c' := ints .i64 tw) (by rw [htw]; rfl) ?_
  rw [ltw]
  (repeat (first | refine K1 ?_))
  refine RG.callG rfl rfl rfl rfl (cB) [] [6] rfl rfl (.cons (FView.sl (l := ints .i64 tw) rfl (by decide) (by rw [List.drop_zero, Nat.mul_one, List.take_of_length_le (by rw [ints_length]; exact Nat.le_refl _)]) (FViews.reflL _ _ _) (ints_free _ _ _) rfl) .nil) rfl rfl (.nil _) (.nil _) rfl (fun _ h => False.elim h) rfl (A.ren_free _ _ rfl) rfl ?_
  obtain ⟨U0, hU0⟩ : ∃ U, U = bsL tw := ⟨_, rfl⟩
  have lU0 : 8 * tw.length = U0.length := by rw [hU0, bsL_len]
  refine RG.append tok rfl rfl rfl rfl rfl rfl rfl rfl (n1 := 0) (c := []) (ks := [4]) rfl (m := 8 * tw.length) (l := ints .u8 (bsL tw)) (ks' := []) rfl (by rw [ints_length, bsL_len, Nat.mul_one]) (by simp) (ints_cell _ _) (by omega) (by omega) rfl (c' := ints .u8 U0) (by rw [hU0]; rfl) ?_
  rw [Nat.zero_add (8 * tw.length), lU0]
  (repeat (first | refine K4 ?_ | refine RG.d ?_))
  refine AW.sub (t := ⟨put 3 (some (.ptr 1 [] 0)) (put 5 (some (.val (.bool true))) (put 6 (some (.ptr 2 [] 0)) (put 7 (some (byA w)) (put 11 (some (.sl 4 [] 1 0 U0.length)) noE)))), hput 1 (.one ([.val (.int .u16 k0), .val (.int .u16 k1)])) (hput 2 (.one ([.ro p.dc.globals.length (flC Rg.cl p.dc.globals), .ro p.dc.classes.length (flC Rg.cl p.dc.classes), .ro p.dc.queues.length (flC Qu.cl p.dc.queues), .ro p.dc.sinks.length (ints .i64 p.dc.sinks), i64 p.dc.locks, i64 p.dc.parts, i64 p.dc.firms, .ro p.heads.length (flC Hd.cl p.heads), .ro p.defs.length (flC Df.cl p.defs), .ro p.threads.length (ints .i64 p.threads)])) (hput 4 (.one (ints .u8 U0)) noH)), 5⟩) (Sub.renB (sgm 3) (by repeat (first | exact SubEr.no _ _ | refine SubEr.put rfl ?_)) (SubHr.put rfl rfl (SubHr.put rfl rfl (SubHr.put rfl (ints_free _ _ _) (SubHr.no _ _)))) (sgm_inj 3) (fun a ha => sgm_hi 3 a ha) (fun a ha => absurd ha (Nat.not_lt_zero _))) ?_
  obtain ⟨UF, hUF⟩ : ∃ U, U = bsL (fmW Df.w p.defs ++ tw) := ⟨_, rfl⟩
  have lUF : UF.length = 8 * ((fmW Df.w p.defs).length + tw.length) := by rw [hUF, bsL_len, List.length_append]
  have hnd := pk.n
  refine AW.seqJ (fun _ : Unit => ⟨put 3 (some (.ptr 1 [] 0)) (put 5 (some (.val (.bool true))) (put 6 (some (.ptr 2 [] 0)) (put 7 (some (byA w)) (put 11 (some (.sl 4 [] 1 0 UF.length)) noE)))), hput 1 (.one ([.val (.int .u16 k0), .val (.int .u16 k1)])) (hput 2 (.one ([.ro p.dc.globals.length (flC Rg.cl p.dc.globals), .ro p.dc.classes.length (flC Rg.cl p.dc.classes), .ro p.dc.queues.length (flC Qu.cl p.dc.queues), .ro p.dc.sinks.length (ints .i64 p.dc.sinks), i64 p.dc.locks, i64 p.dc.parts, i64 p.dc.firms, .ro p.heads.length (flC Hd.cl p.heads), .ro p.defs.length (flC Df.cl p.defs), .ro p.threads.length (ints .i64 p.threads)])) (hput 4 (.one (ints .u8 UF)) noH)), 5⟩) (fun _ => True) ?_ ?_
  · refine S1 ?_
    (repeat (first | refine K2 ?_ | refine K4 ?_ | refine L1 ?_ | refine RG.d ?_ | refine S2 ?_ | refine S4 ?_))
    refine AW.loopS (fun q : Nat × List Int => ⟨put 3 (some (.ptr 1 [] 0)) (put 5 (some (.val (.bool true))) (put 6 (some (.ptr 2 [] 0)) (put 7 (some (byA w)) (put 11 (some (.sl 4 [] 1 0 q.2.length)) (put 12 (some (i64 ((q.1 : Int) - 1))) noE))))), hput 1 (.one ([.val (.int .u16 k0), .val (.int .u16 k1)])) (hput 2 (.one ([.ro p.dc.globals.length (flC Rg.cl p.dc.globals), .ro p.dc.classes.length (flC Rg.cl p.dc.classes), .ro p.dc.queues.length (flC Qu.cl p.dc.queues), .ro p.dc.sinks.length (ints .i64 p.dc.sinks), i64 p.dc.locks, i64 p.dc.parts, i64 p.dc.firms, .ro p.heads.length (flC Hd.cl p.heads), .ro p.defs.length (flC Df.cl p.defs), .ro p.threads.length (ints .i64 p.threads)])) (hput 4 (.one (ints .u8 q.2)) noH)), 5⟩) (fun q => q.1 ≤ p.defs.length ∧ q.2 = bsL (fmW Df.w (p.defs.drop q.1) ++ tw)) (fun q => q.1) (p.defs.length, U0) ⟨Nat.le_refl _, by rw [List.drop_length]; exact hU0⟩ (Sub.of (by repeat (first | exact SubE.no _ | refine SubE.put rfl ?_)) (by repeat (first | exact SubH.no _ | refine SubH.put rfl ?_)) rfl) ?_
    rintro ⟨c, U⟩ ⟨hc, hU⟩
    dsimp only at hc hU
    cases c with
    | zero =>
      obtain rfl : U = UF := by rw [hU, hUF]; rfl
      (repeat (first | refine K4 ?_ | refine RG.d ?_ | refine S1 ?_ | refine S2 ?_ | refine S5 ?_ | refine S8 ?_))
      exact ⟨(), trivial, Sub.of (by repeat (first | exact SubE.no _ | refine SubE.put rfl ?_)) (by repeat (first | exact SubH.no _ | refine SubH.put rfl ?_)) rfl⟩
    | succ i =>
      obtain ⟨d, hd⟩ : ∃ d, p.defs[i]? = some d := ⟨_, List.getElem?_eq_getElem (by omega)⟩
      have hat := flC_at (cl := Df.cl) (st := 12) (fun _ => rfl) p.defs i d hd
      have hdm := List.mem_of_getElem? hd
      have dk := pk.ds d hdm
      have hdl := dk.len
      have cW := lwritten_fc d dk.ok (by omega)
      have hdrop : p.defs.drop i = d :: p.defs.drop (i + 1) := by
        obtain ⟨h1, h2⟩ := List.getElem?_eq_some_iff.1 hd
        rw [List.drop_eq_getElem_cons h1, h2]
      have hlu : U.length ≤ 8 * (30000 + 4) := by
        rw [hU, bsL_len, List.length_append]
        have := fmW_c (w := Df.w) (c := 7400) (l := p.defs.drop (i + 1)) (fun x hx => (pk.ds x (List.mem_of_mem_drop hx)).len)
        have h2 : (p.defs.drop (i + 1)).length ≤ 3 := by rw [List.length_drop]; omega
        omega
      obtain ⟨dw, hdw⟩ : ∃ x, x = d.w := ⟨_, rfl⟩
      obtain ⟨V1, hV1⟩ : ∃ V, V = bsL dw := ⟨_, rfl⟩
      have lV1 : 8 * dw.length = V1.length := by rw [hV1, bsL_len]
      obtain ⟨V, hV⟩ : ∃ V, V = V1 ++ U := ⟨_, rfl⟩
      have lV : V1.length + U.length = V.length := by rw [hV, List.length_append]
      have hVU : V = bsL (fmW Df.w (p.defs.drop i) ++ tw) := by rw [hdrop, fmW, List.append_assoc, bsL_app, hV, hV1, hU, hdw]
      rw [← hdw] at cW hdl
      have ei : IntKind.i64.wrap (((i + 1 : Nat) : Int) - 1) = (i : Int) := by rw [show ((i + 1 : Nat) : Int) - 1 = (i : Int) by omega]; exact wrap_i64 (by omega)
      clear hd hdrop hdw
      obtain ⟨d1, d2, d3, d4, d5, d6, d7, d8, d9, d10, d11, d12⟩ := d
      simp only [Df.cl, List.cons_append, List.nil_append] at hat cW
      (repeat (first | refine K4 ?_ | refine RG.d ?_ | refine S1 ?_ | refine S2 ?_))
      refine AW.condD rfl (fun _ => ?_) (fun kk => absurd (show ((i + 1 : Nat) : Int) - 1 ≥ 0 by omega) kk)
      (repeat (first | refine K4 ?_ | refine L1 ?_ | refine S1 ?_ | refine S2 ?_ | refine S3 ?_ | refine S4 ?_))
      refine RG.put 75 rfl (v' := i64 (i : Int)) (by rw [show ((i + 1 : Nat) : Int) - 1 = (i : Int) by omega]) ?_
      refine RG.idx tok rfl rfl rfl rfl rfl rfl hat ⟨by omega, by omega⟩ rfl ?_
      (repeat (first | refine L1 ?_))
      refine RG.call rfl rfl rfl rfl (cW) [] rfl rfl rfl rfl (.nil _) (.nil _) (fun _ h => False.elim h) rfl (A.ren_free _ _ rfl) rfl ?_
      (repeat (first | refine K4 ?_ | refine L1 ?_ | refine L2 ?_ | refine L3 ?_ | refine RG.d ?_ | refine S2 ?_))
      refine RG.append tok rfl rfl rfl rfl rfl rfl rfl rfl (n1 := 0) (c := []) (ks := [6]) rfl (m := 8 * dw.length) (l := ints .u8 (bsL dw)) (ks' := []) rfl (by rw [ints_length, bsL_len, Nat.mul_one]) (by simp) (ints_cell _ _) (by omega) (by omega) rfl (c' := ints .u8 V1) (by rw [hV1]; rfl) ?_
      rw [Nat.zero_add (8 * dw.length), lV1]
      (repeat (first | refine K4 ?_))
      refine RG.append tok rfl rfl rfl rfl rfl rfl rfl rfl (n1 := V1.length) (c := ints .u8 V1) (ks := [7]) rfl (m := U.length) (l := ints .u8 U) (ks' := [4]) (srcA_own rfl rfl) (by rw [ints_length, Nat.mul_one]) (by rw [ints_length]; omega) (ints_cell _ _) (by omega) (by omega) rfl (c' := ints .u8 V) (by rw [hV, ints_append, ints_take _ _ _ rfl]) ?_
      rw [lV]
      (repeat (first | refine K2 ?_ | refine K4 ?_ | refine RG.d ?_ | refine S2 ?_))
      refine ⟨(i, V), ⟨by dsimp only; omega, hVU⟩, Nat.lt_succ_self _, Sub.renB (sgm 4) (by repeat (first | exact SubEr.no _ _ | refine SubEr.put rfl ?_ | refine SubEr.put (show some (A.val (.int .i64 ((((i + 1 : Nat) : Int) - 1) - 1))) = some (i64 ((i : Int) - 1)) by rw [show (((i + 1 : Nat) : Int) - 1) - 1 = (i : Int) - 1 by omega]) ?_)) (SubHr.put rfl rfl (SubHr.put rfl rfl (SubHr.put rfl (ints_free _ _ _) (SubHr.no _ _)))) (sgm_inj 4) (fun a ha => sgm_hi 4 a ha) (fun a ha => absurd ha (Nat.not_lt_zero _))⟩
  intro _ _
  have hbw : bsL w = bsL wh ++ UF := by rw [hwh, bsL_app, hUF]
  have lbw : 8 * w.length = 8 * wh.length + UF.length := by rw [lUF, lw]; omega
  refine S1 ?_
  refine S1 ?_
  refine S2 ?_
  iterate 4 ((first | refine K4 ?_))
  (first | refine K4 ?_)
  refine RG.put 89 rfl (v' := .val (.bool false)) (by rw [decide_eq_false (show ¬ ((UF.length : Int) > ((8 * w.length : Nat) : Int)) by omega)]) ?_
  (repeat (first | refine K2 ?_ | refine K4 ?_))
  refine RG.val tok rfl rfl rfl ⟨by omega, by omega, by rw [ints_length, bsL_len, Nat.mul_one]⟩ rfl rfl ?_
  refine RG.put 97 rfl (v' := .ro UF.length (ints .u8 UF)) (by
    rw [show ((8 * w.length : Nat) : Int) - (UF.length : Int) = ((8 * wh.length : Nat) : Int) by omega, iNat_eq, Int.toNat_natCast, show 8 * w.length - 8 * wh.length = UF.length by omega, hbw, ints_append, Nat.mul_one, List.drop_left' (by rw [ints_length, bsL_len])]) ?_
  obtain ⟨r, hr⟩ : ∃ r, r = unb UF := ⟨_, rfl⟩
  refine RG.bstr tok rfl rfl rfl rfl rfl rfl rfl rfl hr.symm ?_
  (repeat (first | refine K4 ?_))
  refine RG.bstrS tok rfl rfl rfl rfl (by rw [List.drop_zero, Nat.mul_one, List.take_of_length_le (by rw [ints_length]; exact Nat.le_refl _)]) rfl rfl rfl rfl rfl hr.symm ?_
  (first | refine K4 ?_)
  refine RG.put 101 rfl (v' := .val (.bool false)) (by simp) ?_
  (repeat (first | refine K4 ?_ | refine RG.dd ?_ | refine S3 ?_ | refine S8 ?_))
  refine AW.sub (t := ⟨put 3 (some (.ptr 1 [] 0)) (put 5 (some (.val (.bool true))) (put 6 (some (.ptr 2 [] 0)) (put 7 (some (byA w)) noE))), hput 1 (.one ([.val (.int .u16 k0), .val (.int .u16 k1)])) (hput 2 (.one ([.ro p.dc.globals.length (flC Rg.cl p.dc.globals), .ro p.dc.classes.length (flC Rg.cl p.dc.classes), .ro p.dc.queues.length (flC Qu.cl p.dc.queues), .ro p.dc.sinks.length (ints .i64 p.dc.sinks), i64 p.dc.locks, i64 p.dc.parts, i64 p.dc.firms, .ro p.heads.length (flC Hd.cl p.heads), .ro p.defs.length (flC Df.cl p.defs), .ro p.threads.length (ints .i64 p.threads)])) noH), 3⟩) (Sub.down (by repeat (first | exact SubE.no _ | refine SubE.put rfl ?_)) (by repeat (first | exact SubH.no _ | refine SubH.put rfl ?_)) (by repeat (first | exact LtE.no _ | refine LtE.put rfl ?_)) (by repeat (first | exact LtH.no _ | refine LtH.put rfl rfl ?_)) rfl) ?_
  obtain ⟨U, hU⟩ : ∃ U, U = bsL w := ⟨_, rfl⟩
  have lU : U.length = 8 * w.length := by rw [hU, bsL_len]
  refine S1 ?_
  (repeat (first | refine K4 ?_ | refine L2 ?_ | refine S2 ?_))
  refine RG.append tok rfl rfl rfl rfl rfl rfl rfl rfl (n1 := 0) (c := []) (ks := [3]) rfl (m := 8 * w.length) (l := ints .u8 (bsL w)) (ks' := []) rfl (by rw [ints_length, bsL_len, Nat.mul_one]) (by simp) (ints_cell _ _) (by omega) (by omega) rfl (c' := ints .u8 U) (by rw [hU]; rfl) ?_
  rw [Nat.zero_add (8 * w.length), ← lU]
  (repeat (first | refine K4 ?_ | refine RG.d ?_))
  have hUb : ∀ x, x ∈ U → 0 ≤ x ∧ x ≤ 255 := by rw [hU]; exact bsL_byte w
  obtain ⟨i, hi, hiL⟩ : ∃ i : Nat, Int.tmod k0 (U.length : Int) = (i : Int) ∧ i < U.length := by
    have h1 := Int.emod_nonneg k0 (show (U.length : Int) ≠ 0 by omega)
    have h2 := Int.emod_lt_of_pos k0 (show (0 : Int) < (U.length : Int) by omega)
    exact ⟨(k0 % (U.length : Int)).toNat, by rw [Int.tmod_eq_emod_of_nonneg hk0.1]; omega, by omega⟩
  obtain ⟨v, hv⟩ : ∃ v, v = IntKind.wrap .u8 k1 := ⟨_, rfl⟩
  have hvb : 0 ≤ v ∧ v ≤ 255 := by rw [hv, IntKind.wrap_u8]; omega
  refine S1 ?_
  (repeat (first | refine K2 ?_ | refine K4 ?_ | refine K5 ?_ | refine L1 ?_ | refine S2 ?_))
  refine RG.put 115 rfl (show _ = .val (.int .u8 v) by rw [hv]) ?_
  refine RG.put 116 rfl (show _ = A.ptr 4 [] (0 + iNat (i : Int) * 1) by rw [hi]) ?_
  refine RG.store (k := 4) (p := []) (c' := ints .u8 (U.set (0 + iNat (i : Int) * 1) v)) tok rfl rfl rfl rfl ?hl rfl rfl rfl ?_
  case hl => exact stA_map (k := 4) rfl (fun x => .val (.int .u8 x)) (xs := U) rfl (by rw [iNat_eq]; omega) v rfl rfl
  rw [show 0 + iNat (i : Int) * 1 = i from by rw [iNat_eq]; omega]
  obtain ⟨V, hV⟩ : ∃ V, V = U.set i v := ⟨_, rfl⟩
  have lV : V.length = U.length := by rw [hV, List.length_set]
  obtain ⟨ws, hws, lws, iws⟩ := all8 (b := V) (n := w.length) (by rw [hV]; exact set_byte hUb i v hvb) (by omega)
  rw [← hV, ← lV]
  (repeat (first | refine RG.dd ?_))
  refine AW.sub (Sub.trans (Sub.frz (ks := [4]) 14 rfl (frzI (xs := V) rfl (by decide) rfl)) (show Sub _ _ (⟨put 5 (some (.val (.bool true))) (put 6 (some (.ptr 2 [] 0)) (put 7 (some (byA w)) (put 14 (some (.ro V.length (ints .u8 V))) noE))), hput 1 (.one ([.val (.int .u16 k0), .val (.int .u16 k1)])) (hput 2 (.one ([.ro p.dc.globals.length (flC Rg.cl p.dc.globals), .ro p.dc.classes.length (flC Rg.cl p.dc.classes), .ro p.dc.queues.length (flC Qu.cl p.dc.queues), .ro p.dc.sinks.length (ints .i64 p.dc.sinks), i64 p.dc.locks, i64 p.dc.parts, i64 p.dc.firms, .ro p.heads.length (flC Hd.cl p.heads), .ro p.defs.length (flC Df.cl p.defs), .ro p.threads.length (ints .i64 p.threads)])) noH), 5⟩) from Sub.of (by repeat (first | exact SubE.no _ | refine SubE.put rfl ?_)) (by repeat (first | exact SubH.no _ | refine SubH.put rfl ?_)) rfl)) ?_
  have cC := readPg_fc ws iws (by omega)
  rw [show (8 * ws.length) = V.length by omega, ← hws] at cC
  cases hrd : pgAll ws with
  | none =>
    rw [hrd] at cC
    simp only [pgA, zprg, List.map_cons, List.map_nil] at cC
    (repeat (first | refine RG.call rfl rfl rfl rfl (cC) [] rfl rfl rfl rfl (.nil _) (.nil _) (fun _ h => False.elim h) rfl (A.ren_free _ _ rfl) rfl ?_ | refine RG.call rfl rfl rfl rfl (cD) [] rfl rfl rfl rfl (.nil _) (.nil _) (fun _ h => False.elim h) rfl (A.ren_free _ _ rfl) rfl ?_ | refine K1 ?_ | refine K4 ?_ | refine L2 ?_ | refine L3 ?_ | refine RG.d ?_ | refine RG.dd ?_ | refine S1 ?_ | refine S2 ?_))
    (repeat (first | refine S6 ?_))
    exact ⟨⟨_, rfl, rfl⟩, rfl, .nil _⟩
  | some e =>
    obtain ⟨oke, we⟩ := pgAll_some hrd
    rw [hrd] at cC
    have hecl : e.cl = [.ro e.dc.globals.length (flC Rg.cl e.dc.globals), .ro e.dc.classes.length (flC Rg.cl e.dc.classes), .ro e.dc.queues.length (flC Qu.cl e.dc.queues), .ro e.dc.sinks.length (ints .i64 e.dc.sinks), i64 e.dc.locks, i64 e.dc.parts, i64 e.dc.firms, .ro e.heads.length (flC Hd.cl e.heads), .ro e.defs.length (flC Df.cl e.defs), .ro e.threads.length (ints .i64 e.threads)] := rfl
    simp only [pgA, hecl] at cC
    have cE := sameProg_fc p e ok oke (by rw [← hw]; omega) (by rw [we]; omega)
    rw [we, ← hw, hcl, hecl] at cE
    (repeat (first | refine RG.call rfl rfl rfl rfl (cC) [] rfl rfl rfl rfl (.nil _) (.nil _) (fun _ h => False.elim h) rfl (A.ren_free _ _ rfl) rfl ?_ | refine RG.call rfl rfl rfl rfl (cD) [] rfl rfl rfl rfl (.nil _) (.nil _) (fun _ h => False.elim h) rfl (A.ren_free _ _ rfl) rfl ?_ | refine RG.call rfl rfl rfl rfl (cE) [] rfl rfl rfl rfl (.nil _) (.nil _) (fun _ h => False.elim h) rfl (A.ren_free _ _ rfl) rfl ?_ | refine K4 ?_ | refine L1 ?_ | refine L2 ?_ | refine L3 ?_ | refine RG.d ?_ | refine S1 ?_ | refine S2 ?_))
    obtain ⟨r, hr⟩ : ∃ r, r = unb (bsL ws) := ⟨_, rfl⟩
    obtain ⟨q, hq⟩ : ∃ r, r = unb (bsL w) := ⟨_, rfl⟩
    refine RG.bstr tok rfl rfl rfl rfl rfl rfl rfl rfl (show unb V = r by rw [hws, hr]) ?_
    (repeat (first | refine K4 ?_))
    refine RG.bstr tok rfl rfl rfl (by rw [bsL_len]) rfl rfl rfl rfl hq.symm ?_
    (first | refine K4 ?_)
    have hsb : (r.toList == q.toList) = decide (w = ws) := by
      rw [hr, hq, same_bytes iws h64]
      by_cases h : ws = w
      · rw [decide_eq_true h, decide_eq_true h.symm]
      · rw [decide_eq_false h, decide_eq_false (fun k => h k.symm)]
    refine RG.put 143 rfl (v' := .val (.bool (decide (w = ws)))) (by rw [hsb]) ?_
    (first | refine K4 ?_)
    refine RG.put 144 rfl (v' := .val (.bool true)) (by simp) ?_
    (repeat (first | refine K4 ?_ | refine RG.dd ?_ | refine S6 ?_))
    exact ⟨⟨_, rfl, rfl⟩, rfl, .nil _⟩
end Go.Proofs.Ytmfccaidgaelcaa
