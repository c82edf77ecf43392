/- Writing, leaves, commitments and reading as in the reference. No conditions. -/
import Derived.Test.YtmfccaidgaelcaaEc34
import Derived.Test.YtmfccaidgaelcaaEc28
import Derived.Test.YtmfccaidgaelcaaEc18
import Derived.Test.YtmfccaidgaelcaaEc21
set_option linter.unusedVariables false
set_option linter.unusedSimpArgs false
namespace Go.Proofs.Ytmfccaidgaelcaa
open Go.Abs Go Go.RowKit
theorem rdAll_bad {ws t : List Int} (ht : t ≠ []) : rdAll ws t = none := by
  unfold rdAll
  split
  · rw [if_neg ht]
  · rfl
/-- Any bytes are read alike. -/
theorem rd_both (x : List Int) (hb : ∀ y, y ∈ x → 0 ≤ y ∧ y ≤ 255) (hl : x.length ≤ 800000) : ∃ D : Option Df, (∀ e, D = some e → e.ok ∧ e.w.length ≤ 100000) ∧
    FC Try.prog ge 13 [.ro x.length (ints .u8 x)] [] (readA D) [] NoP ∧ FC Try.prog ge 25 [.ro x.length (ints .u8 x)] [] (readA D) [] NoP := by
  obtain ⟨ws, t, e, ht, h64⟩ := split_words x.length x (Nat.le_refl _) hb
  have lx : x.length = 8 * ws.length + t.length := by rw [e, List.length_append, bsL_len]
  have c1 := lread_fc ws t ht h64 (by omega)
  cases t with
  | nil =>
    have c2 := rreadW_fc ws h64 (by simp at lx; omega)
    rw [btA_nil] at c1
    have hx : A.ro x.length (ints .u8 x) = byA ws := by
      rw [lx, e, List.append_nil]; rfl
    rw [hx]
    refine ⟨rdAll ws [], fun e he => ?_, c1, c2⟩
    obtain ⟨h1, h2⟩ := rdAll_some he
    refine ⟨h1, ?_⟩
    rw [h2]; simp at lx; omega
  | cons y t =>
    have c2 := rreadBad_fc x.length (ints .u8 x) (by simp only [List.length_cons] at lx ht; omega) hl
    rw [rdAll_bad (by simp)] at c1
    have hx : A.ro x.length (ints .u8 x) = btA ws (y :: t) := by rw [lx, e]
    rw [← hx] at c1
    exact ⟨none, fun e he => (by cases he), c1, c2⟩
def zdf : Df := ⟨0, 0, [], 0, 0, [], [], 0, 0, [], 0, []⟩
theorem sameZ_fc : FC Try.prog ge 14 [.agg (zdef.map A.val), .agg (zdef.map A.val)] [] (.val (.bool true)) [] NoP := by
  have c := sameDef_fc zdf zdf (fun x h => by cases h) (fun x h => by cases h) (by decide) (by decide)
  rw [show decide (zdf.w = zdf.w) = true from decide_eq_true rfl] at c
  have hw : Wk (.agg (zdef.map A.val)) (.agg zdf.cl) := by
    refine Wk.agg ?_
    simp only [zdef, List.map_cons, List.map_nil, Df.cl, zdf]
    repeat (first | exact WkL.nil | refine WkL.cons (Wk.refl _) ?_ | refine WkL.cons Wk.nil ?_)
  exact c.wk (.cons hw (.cons hw .nil))
set_option maxHeartbeats 32000000 in
theorem matchLaw_fc (d : Df) (k0 k1 k2 : Int) (b : List Int) (ok : d.ok) (h64 : All64 d.w) (hB : d.w.length ≤ 1048576) (hk0 : 0 ≤ k0 ∧ k0 ≤ 65535) (hk1 : 0 ≤ k1 ∧ k1 ≤ 65535) (hk2 : 0 ≤ k2 ∧ k2 ≤ 65535) (hbb : ∀ y, y ∈ b → 0 ≤ y ∧ y ≤ 255) (hbl : b.length ≤ 1048576) :
    FC Try.prog ge 7 [.agg d.cl, .agg [.val (.int .u16 k0), .val (.int .u16 k1), .val (.int .u16 k2)], .ro b.length (ints .u8 b)] [] (.val (.bool true)) [] NoP := by
  have cX := examples_fc
  have cS := small_fc d ok (by unfold BW; omega)
  have hpos := df_wpos d
  have hcl : d.cl = [i64 d.id, i64 d.site, strA (unb d.name), i64 d.firm, i64 d.part, .ro d.params.length (flC Rg.cl d.params), .ro d.given.length (flC Rg.cl d.given), i64 d.vars, i64 d.refs, .ro d.arrays.length (flC Ar.cl d.arrays), i64 d.budget, .ro d.body.length (flC Sm.cl d.body)] := rfl
  by_cases hsm : (d.w.length : Int) ≤ 4000
  rotate_left
  · rw [show decide ((d.w.length : Int) ≤ 4000) = false from decide_eq_false hsm] at cS
    rw [hcl] at cS ⊢
    refine FC.of_AW tok Try.func7 (by kernel_rfl) rfl Try.ntmps7 [] rfl rfl rfl ?_; intro w0 X0 Y f0 hI0 hX0
    refine S1 ?_; (repeat (first | refine RG.call rfl rfl rfl rfl (cX) [] rfl rfl rfl rfl (.nil _) (.nil _) (fun _ h => False.elim h) rfl (A.ren_free _ _ rfl) rfl ?_ | refine K1 ?_ | refine K2 ?_ | refine K3 ?_ | refine K4 ?_ | refine K5 ?_ | refine K6 ?_ | refine K7 ?_ | refine L1 ?_ | refine L2 ?_ | refine L3 ?_ | refine RG.d ?_ | refine RG.dd ?_ | refine S2 ?_ | refine S3 ?_ | refine S4 ?_ | refine S5 ?_ | refine S7 ?_ | refine S8 ?_)); refine S1 ?_; (repeat (first | refine RG.call rfl rfl rfl rfl (cX) [] rfl rfl rfl rfl (.nil _) (.nil _) (fun _ h => False.elim h) rfl (A.ren_free _ _ rfl) rfl ?_ | refine K1 ?_ | refine K2 ?_ | refine K3 ?_ | refine K4 ?_ | refine K5 ?_ | refine K6 ?_ | refine K7 ?_ | refine L1 ?_ | refine L2 ?_ | refine L3 ?_ | refine RG.d ?_ | refine RG.dd ?_ | refine S2 ?_ | refine S3 ?_ | refine S4 ?_ | refine S5 ?_ | refine S7 ?_ | refine S8 ?_))
    refine S1 ?_; (repeat (first | refine K1 ?_ | refine K2 ?_ | refine K3 ?_ | refine K4 ?_ | refine K5 ?_ | refine K6 ?_ | refine K7 ?_ | refine L1 ?_ | refine L2 ?_ | refine L3 ?_ | refine RG.d ?_ | refine RG.dd ?_ | refine S2 ?_ | refine S3 ?_ | refine S4 ?_ | refine S5 ?_ | refine S7 ?_ | refine S8 ?_)); refine S1 ?_; (repeat (first | refine K1 ?_ | refine K2 ?_ | refine K3 ?_ | refine K4 ?_ | refine K5 ?_ | refine K6 ?_ | refine K7 ?_ | refine L1 ?_ | refine L2 ?_ | refine L3 ?_ | refine RG.d ?_ | refine RG.dd ?_ | refine S2 ?_ | refine S3 ?_ | refine S4 ?_ | refine S5 ?_ | refine S7 ?_ | refine S8 ?_))
    (repeat (first | refine RG.call rfl rfl rfl rfl (cS) [] rfl rfl rfl rfl (.nil _) (.nil _) (fun _ h => False.elim h) rfl (A.ren_free _ _ rfl) rfl ?_ | refine K1 ?_ | refine K2 ?_ | refine K3 ?_ | refine K4 ?_ | refine K5 ?_ | refine K6 ?_ | refine K7 ?_ | refine L1 ?_ | refine L2 ?_ | refine L3 ?_ | refine RG.d ?_ | refine RG.dd ?_ | refine S1 ?_ | refine S2 ?_ | refine S3 ?_ | refine S4 ?_ | refine S5 ?_ | refine S7 ?_ | refine S8 ?_))
    (repeat (first | refine K1 ?_ | refine K2 ?_ | refine K3 ?_ | refine K4 ?_ | refine K5 ?_ | refine K6 ?_ | refine K7 ?_ | refine L1 ?_ | refine L2 ?_ | refine L3 ?_ | refine RG.d ?_ | refine RG.dd ?_ | refine S1 ?_ | refine S2 ?_ | refine S3 ?_ | refine S4 ?_ | refine S5 ?_ | refine S6 ?_ | refine S7 ?_ | refine S8 ?_))
    exact ⟨⟨_, rfl, rfl⟩, rfl, .nil _⟩
  rw [show decide ((d.w.length : Int) ≤ 4000) = true from decide_eq_true hsm] at cS
  by_cases hb4 : 400 < b.length
  · rw [hcl] at cS ⊢
    refine FC.of_AW tok Try.func7 (by kernel_rfl) rfl Try.ntmps7 [] rfl rfl rfl ?_; intro w0 X0 Y f0 hI0 hX0
    refine S1 ?_; (repeat (first | refine RG.call rfl rfl rfl rfl (cX) [] rfl rfl rfl rfl (.nil _) (.nil _) (fun _ h => False.elim h) rfl (A.ren_free _ _ rfl) rfl ?_ | refine K1 ?_ | refine K2 ?_ | refine K3 ?_ | refine K4 ?_ | refine K5 ?_ | refine K6 ?_ | refine K7 ?_ | refine L1 ?_ | refine L2 ?_ | refine L3 ?_ | refine RG.d ?_ | refine RG.dd ?_ | refine S2 ?_ | refine S3 ?_ | refine S4 ?_ | refine S5 ?_ | refine S7 ?_ | refine S8 ?_)); refine S1 ?_; (repeat (first | refine RG.call rfl rfl rfl rfl (cX) [] rfl rfl rfl rfl (.nil _) (.nil _) (fun _ h => False.elim h) rfl (A.ren_free _ _ rfl) rfl ?_ | refine K1 ?_ | refine K2 ?_ | refine K3 ?_ | refine K4 ?_ | refine K5 ?_ | refine K6 ?_ | refine K7 ?_ | refine L1 ?_ | refine L2 ?_ | refine L3 ?_ | refine RG.d ?_ | refine RG.dd ?_ | refine S2 ?_ | refine S3 ?_ | refine S4 ?_ | refine S5 ?_ | refine S7 ?_ | refine S8 ?_))
    refine S1 ?_; (repeat (first | refine K1 ?_ | refine K2 ?_ | refine K3 ?_ | refine K4 ?_ | refine K5 ?_ | refine K6 ?_ | refine K7 ?_ | refine L1 ?_ | refine L2 ?_ | refine L3 ?_ | refine RG.d ?_ | refine RG.dd ?_ | refine S2 ?_ | refine S3 ?_ | refine S4 ?_ | refine S5 ?_ | refine S7 ?_ | refine S8 ?_)); refine S1 ?_; (repeat (first | refine K1 ?_ | refine K2 ?_ | refine K3 ?_ | refine K4 ?_ | refine K5 ?_ | refine K6 ?_ | refine K7 ?_ | refine L1 ?_ | refine L2 ?_ | refine L3 ?_ | refine RG.d ?_ | refine RG.dd ?_ | refine S2 ?_ | refine S3 ?_ | refine S4 ?_ | refine S5 ?_ | refine S7 ?_ | refine S8 ?_))
    (repeat (first | refine RG.call rfl rfl rfl rfl (cS) [] rfl rfl rfl rfl (.nil _) (.nil _) (fun _ h => False.elim h) rfl (A.ren_free _ _ rfl) rfl ?_ | refine K1 ?_ | refine K2 ?_ | refine K3 ?_ | refine K4 ?_ | refine K5 ?_ | refine K6 ?_ | refine K7 ?_ | refine L1 ?_ | refine L2 ?_ | refine L3 ?_ | refine RG.d ?_ | refine RG.dd ?_ | refine S2 ?_ | refine S3 ?_ | refine S4 ?_ | refine S5 ?_ | refine S7 ?_ | refine S8 ?_))
    refine S1 ?_; (repeat (first | refine K1 ?_ | refine K2 ?_ | refine K3 ?_ | refine K4 ?_ | refine K5 ?_ | refine K6 ?_ | refine K7 ?_ | refine L1 ?_ | refine L2 ?_ | refine L3 ?_ | refine RG.d ?_ | refine RG.dd ?_ | refine S2 ?_ | refine S3 ?_ | refine S4 ?_ | refine S5 ?_ | refine S7 ?_ | refine S8 ?_))
    refine S1 ?_
    (repeat (first | refine RG.call rfl rfl rfl rfl (cS) [] rfl rfl rfl rfl (.nil _) (.nil _) (fun _ h => False.elim h) rfl (A.ren_free _ _ rfl) rfl ?_ | refine K1 ?_ | refine K2 ?_ | refine K3 ?_ | refine K4 ?_ | refine K5 ?_ | refine K6 ?_ | refine K7 ?_ | refine L1 ?_ | refine L2 ?_ | refine L3 ?_ | refine RG.d ?_ | refine RG.dd ?_ | refine S2 ?_ | refine S3 ?_ | refine S4 ?_ | refine S5 ?_ | refine S7 ?_ | refine S8 ?_))
    refine AW.condD rfl (fun _ => ?_) (fun k => absurd (show (400 : Int) < (b.length : Int) by omega) k)
    (repeat (first | refine K1 ?_ | refine K2 ?_ | refine K3 ?_ | refine K4 ?_ | refine K5 ?_ | refine K6 ?_ | refine K7 ?_ | refine L1 ?_ | refine L2 ?_ | refine L3 ?_ | refine RG.d ?_ | refine RG.dd ?_ | refine S1 ?_ | refine S2 ?_ | refine S3 ?_ | refine S4 ?_ | refine S5 ?_ | refine S6 ?_ | refine S7 ?_ | refine S8 ?_))
    exact ⟨⟨_, rfl, rfl⟩, rfl, .nil _⟩
  have cW := lwritten_fc d ok (by omega)
  have cV := rdefIn_fc d ok (by omega)
  have cA := leaves_fc d ok (by unfold BW; omega)
  have cB := rleaves_fc d ok (by unfold BW; omega)
  have cE := same04_fc (leavesP d) (leavesP d) (by rw [leavesP_len]; have := body_len d; unfold BW; omega) (by rw [leavesP_len]; have := body_len d; unfold BW; omega)
  rw [show decide (leavesP d = leavesP d) = true from decide_eq_true rfl] at cE
  have cC := commit_fc d k0 ok hB
  have cD := rcommit_fc d k0 ok hB
  obtain ⟨r, hr⟩ : ∃ r, r = Mk.root (mI (openP d k0)) := ⟨_, rfl⟩
  obtain ⟨P, hP⟩ : ∃ P, P = leavesP d := ⟨_, rfl⟩
  obtain ⟨w, hw⟩ : ∃ w, w = d.w := ⟨_, rfl⟩
  rw [← hr] at cC cD
  rw [← hP] at cA cB cE
  rw [← hw] at cW cV hpos hB h64
  have hsw : w.length ≤ 4000 := by rw [hw]; omega
  clear hr hP hw hsm
  rw [hcl] at cS cW cV cA cB cC cD ⊢
  refine FC.of_AW tok Try.func7 (by kernel_rfl) rfl Try.ntmps7 [] rfl rfl rfl ?_; intro w0 X0 Y f0 hI0 hX0
  refine S1 ?_; (repeat (first | refine RG.call rfl rfl rfl rfl (cX) [] rfl rfl rfl rfl (.nil _) (.nil _) (fun _ h => False.elim h) rfl (A.ren_free _ _ rfl) rfl ?_ | refine K1 ?_ | refine K2 ?_ | refine K3 ?_ | refine K4 ?_ | refine K5 ?_ | refine K6 ?_ | refine K7 ?_ | refine L1 ?_ | refine L2 ?_ | refine L3 ?_ | refine RG.d ?_ | refine RG.dd ?_ | refine S2 ?_ | refine S3 ?_ | refine S4 ?_ | refine S5 ?_ | refine S7 ?_ | refine S8 ?_)); refine S1 ?_; (repeat (first | refine RG.call rfl rfl rfl rfl (cX) [] rfl rfl rfl rfl (.nil _) (.nil _) (fun _ h => False.elim h) rfl (A.ren_free _ _ rfl) rfl ?_ | refine K1 ?_ | refine K2 ?_ | refine K3 ?_ | refine K4 ?_ | refine K5 ?_ | refine K6 ?_ | refine K7 ?_ | refine L1 ?_ | refine L2 ?_ | refine L3 ?_ | refine RG.d ?_ | refine RG.dd ?_ | refine S2 ?_ | refine S3 ?_ | refine S4 ?_ | refine S5 ?_ | refine S7 ?_ | refine S8 ?_))
  refine S1 ?_; (repeat (first | refine K1 ?_ | refine K2 ?_ | refine K3 ?_ | refine K4 ?_ | refine K5 ?_ | refine K6 ?_ | refine K7 ?_ | refine L1 ?_ | refine L2 ?_ | refine L3 ?_ | refine RG.d ?_ | refine RG.dd ?_ | refine S2 ?_ | refine S3 ?_ | refine S4 ?_ | refine S5 ?_ | refine S7 ?_ | refine S8 ?_)); refine S1 ?_; (repeat (first | refine K1 ?_ | refine K2 ?_ | refine K3 ?_ | refine K4 ?_ | refine K5 ?_ | refine K6 ?_ | refine K7 ?_ | refine L1 ?_ | refine L2 ?_ | refine L3 ?_ | refine RG.d ?_ | refine RG.dd ?_ | refine S2 ?_ | refine S3 ?_ | refine S4 ?_ | refine S5 ?_ | refine S7 ?_ | refine S8 ?_))
  refine S1 ?_; (repeat (first | refine RG.call rfl rfl rfl rfl (cS) [] rfl rfl rfl rfl (.nil _) (.nil _) (fun _ h => False.elim h) rfl (A.ren_free _ _ rfl) rfl ?_ | refine K1 ?_ | refine K2 ?_ | refine K3 ?_ | refine K4 ?_ | refine K5 ?_ | refine K6 ?_ | refine K7 ?_ | refine L1 ?_ | refine L2 ?_ | refine L3 ?_ | refine RG.d ?_ | refine RG.dd ?_ | refine S2 ?_ | refine S3 ?_ | refine S4 ?_ | refine S5 ?_ | refine S7 ?_ | refine S8 ?_)); refine S1 ?_; (repeat (first | refine RG.call rfl rfl rfl rfl (cS) [] rfl rfl rfl rfl (.nil _) (.nil _) (fun _ h => False.elim h) rfl (A.ren_free _ _ rfl) rfl ?_ | refine K1 ?_ | refine K2 ?_ | refine K3 ?_ | refine K4 ?_ | refine K5 ?_ | refine K6 ?_ | refine K7 ?_ | refine L1 ?_ | refine L2 ?_ | refine L3 ?_ | refine RG.d ?_ | refine RG.dd ?_ | refine S2 ?_ | refine S3 ?_ | refine S4 ?_ | refine S5 ?_ | refine S7 ?_ | refine S8 ?_))
  refine AW.condD rfl (fun k => absurd (show (400 : Int) < (b.length : Int) from k) (by omega)) (fun _ => ?_)
  refine S3 ?_
  refine AW.sub (show Sub _ _ (⟨put 2 (some (.ro b.length (ints .u8 b))) (put 3 (some (.ptr 0 [] 0)) (put 4 (some (.ptr 1 [] 0)) (put 7 (some (.val (.bool true))) noE))), hput 0 (.one ([i64 d.id, i64 d.site, strA (unb d.name), i64 d.firm, i64 d.part, .ro d.params.length (flC Rg.cl d.params), .ro d.given.length (flC Rg.cl d.given), i64 d.vars, i64 d.refs, .ro d.arrays.length (flC Ar.cl d.arrays), i64 d.budget, .ro d.body.length (flC Sm.cl d.body)])) (hput 1 (.one ([.val (.int .u16 k0), .val (.int .u16 k1), .val (.int .u16 k2)])) noH), 2⟩) from Sub.of (by repeat (first | exact SubE.no _ | refine SubE.put rfl ?_)) (by repeat (first | exact SubH.no _ | refine SubH.put rfl ?_)) rfl) ?_
  clear cX cS
  refine S1 ?_; (repeat (first | refine RG.call rfl rfl rfl rfl (cW) [] rfl rfl rfl rfl (.nil _) (.nil _) (fun _ h => False.elim h) rfl (A.ren_free _ _ rfl) rfl ?_ | refine RG.call rfl rfl rfl rfl (cV) [] rfl rfl rfl rfl (.nil _) (.nil _) (fun _ h => False.elim h) rfl (A.ren_free _ _ rfl) rfl ?_ | refine K1 ?_ | refine K2 ?_ | refine K3 ?_ | refine K4 ?_ | refine K5 ?_ | refine K6 ?_ | refine K7 ?_ | refine L1 ?_ | refine L2 ?_ | refine L3 ?_ | refine RG.d ?_ | refine RG.dd ?_ | refine S2 ?_ | refine S3 ?_ | refine S4 ?_ | refine S5 ?_ | refine S7 ?_ | refine S8 ?_))
  refine S1 ?_; (repeat (first | refine K1 ?_ | refine K2 ?_ | refine K3 ?_ | refine K4 ?_ | refine K5 ?_ | refine K6 ?_ | refine K7 ?_ | refine L1 ?_ | refine L2 ?_ | refine L3 ?_ | refine RG.d ?_ | refine RG.dd ?_ | refine S2 ?_ | refine S3 ?_ | refine S4 ?_ | refine S5 ?_ | refine S7 ?_ | refine S8 ?_)); refine S1 ?_; (repeat (first | refine K1 ?_ | refine K2 ?_ | refine K3 ?_ | refine K4 ?_ | refine K5 ?_ | refine K6 ?_ | refine K7 ?_ | refine L1 ?_ | refine L2 ?_ | refine L3 ?_ | refine RG.d ?_ | refine RG.dd ?_ | refine S2 ?_ | refine S3 ?_ | refine S4 ?_ | refine S5 ?_ | refine S7 ?_ | refine S8 ?_))
  obtain ⟨q, hq⟩ : ∃ r, r = unb (bsL w) := ⟨_, rfl⟩
  refine RG.bstr tok rfl rfl rfl (by rw [bsL_len]) rfl rfl rfl rfl hq.symm ?_
  (repeat (first | refine K1 ?_ | refine K2 ?_ | refine K3 ?_ | refine K4 ?_ | refine K5 ?_ | refine K6 ?_ | refine K7 ?_ | refine L1 ?_ | refine L2 ?_ | refine L3 ?_ | refine RG.d ?_ | refine RG.dd ?_ | refine S2 ?_ | refine S3 ?_ | refine S4 ?_ | refine S5 ?_ | refine S7 ?_ | refine S8 ?_))
  refine RG.bstr tok rfl rfl rfl (by rw [bsL_len]) rfl rfl rfl rfl hq.symm ?_
  (first | refine K1 ?_ | refine K2 ?_ | refine K3 ?_ | refine K4 ?_ | refine K5 ?_ | refine K6 ?_ | refine K7 ?_ | refine L1 ?_ | refine L2 ?_ | refine L3 ?_)
  refine RG.put 45 rfl (show _ = A.val (.bool false) by simp) ?_
  (repeat (first | refine RG.call rfl rfl rfl rfl (cA) [] rfl rfl rfl rfl (.nil _) (.nil _) (fun _ h => False.elim h) rfl (A.ren_free _ _ rfl) rfl ?_ | refine RG.call rfl rfl rfl rfl (cB) [] rfl rfl rfl rfl (.nil _) (.nil _) (fun _ h => False.elim h) rfl (A.ren_free _ _ rfl) rfl ?_ | refine RG.call rfl rfl rfl rfl (cE) [] rfl rfl rfl rfl (.nil _) (.nil _) (fun _ h => False.elim h) rfl (A.ren_free _ _ rfl) rfl ?_ | refine RG.call rfl rfl rfl rfl (cC) [] rfl rfl rfl rfl (.nil _) (.nil _) (fun _ h => False.elim h) rfl (A.ren_free _ _ rfl) rfl ?_ | refine RG.call rfl rfl rfl rfl (cD) [] rfl rfl rfl rfl (.nil _) (.nil _) (fun _ h => False.elim h) rfl (A.ren_free _ _ rfl) rfl ?_ | refine K1 ?_ | refine K2 ?_ | refine K3 ?_ | refine K4 ?_ | refine K5 ?_ | refine K6 ?_ | refine K7 ?_ | refine L1 ?_ | refine L2 ?_ | refine L3 ?_ | refine RG.d ?_ | refine RG.dd ?_ | refine S2 ?_ | refine S3 ?_ | refine S4 ?_ | refine S5 ?_ | refine S7 ?_ | refine S8 ?_))
  refine AW.condD rfl (fun k => absurd rfl (show (r.toNat : Int) ≠ (r.toNat : Int) from k)) (fun _ => ?_)
  refine S3 ?_
  refine AW.sub (show Sub _ _ (⟨put 2 (some (.ro b.length (ints .u8 b))) (put 4 (some (.ptr 1 [] 0)) (put 7 (some (.val (.bool true))) (put 9 (some (.ptr 3 [] 0)) noE))), hput 1 (.one ([.val (.int .u16 k0), .val (.int .u16 k1), .val (.int .u16 k2)])) (hput 3 (.one ([byA w, i64 0])) noH), 4⟩) from Sub.of (by repeat (first | exact SubE.no _ | refine SubE.put rfl ?_)) (by repeat (first | exact SubH.no _ | refine SubH.put rfl ?_)) rfl) ?_
  clear cW cV cA cB cE cC cD hcl hq
  obtain ⟨U, hU⟩ : ∃ U, U = bsL w := ⟨_, rfl⟩
  have lU : U.length = 8 * w.length := by rw [hU, bsL_len]
  refine S1 ?_
  (repeat (first | refine K1 ?_ | refine K2 ?_ | refine K3 ?_ | refine K4 ?_ | refine K5 ?_ | refine K6 ?_ | refine K7 ?_ | refine L1 ?_ | refine L2 ?_ | refine L3 ?_ | refine RG.d ?_ | refine RG.dd ?_ | refine S2 ?_ | refine S3 ?_ | refine S4 ?_ | refine S5 ?_ | refine S7 ?_ | refine S8 ?_))
  refine RG.append tok rfl rfl rfl rfl rfl rfl rfl rfl (n1 := 0) (c := []) (ks := [4]) rfl (m := 8 * w.length) (l := ints .u8 (bsL w)) (ks' := []) rfl (by rw [ints_length, bsL_len, Nat.mul_one]) (by simp) (ints_cell _ _) (by omega) (by omega) rfl (c' := ints .u8 U) (by rw [hU]; rfl) ?_
  rw [Nat.zero_add (8 * w.length), ← lU]
  (repeat (first | refine K1 ?_ | refine K2 ?_ | refine K3 ?_ | refine K4 ?_ | refine K5 ?_ | refine K6 ?_ | refine K7 ?_ | refine L1 ?_ | refine L2 ?_ | refine L3 ?_ | refine RG.d ?_ | refine RG.dd ?_ | refine S2 ?_ | refine S3 ?_ | refine S4 ?_ | refine S5 ?_ | refine S7 ?_ | refine S8 ?_))
  have hUb : ∀ x, x ∈ U → 0 ≤ x ∧ x ≤ 255 := by rw [hU]; exact bsL_byte w
  obtain ⟨i, hi, hiL⟩ : ∃ i : Nat, Int.tmod k0 (U.length : Int) = (i : Int) ∧ i < U.length := by
    have h1 := Int.emod_nonneg k0 (show (U.length : Int) ≠ 0 by omega)
    have h2 := Int.emod_lt_of_pos k0 (show (0 : Int) < (U.length : Int) by omega)
    exact ⟨(k0 % (U.length : Int)).toNat, by rw [Int.tmod_eq_emod_of_nonneg hk0.1]; omega, by omega⟩
  obtain ⟨v, hv⟩ : ∃ v, v = IntKind.wrap .u8 k1 := ⟨_, rfl⟩
  have hvb : 0 ≤ v ∧ v ≤ 255 := by rw [hv, IntKind.wrap_u8]; omega
  refine S1 ?_
  (repeat (first | refine K1 ?_ | refine K2 ?_ | refine K3 ?_ | refine K4 ?_ | refine K5 ?_ | refine K6 ?_ | refine K7 ?_ | refine L1 ?_ | refine L2 ?_ | refine L3 ?_ | refine RG.d ?_ | refine RG.dd ?_ | refine S2 ?_ | refine S3 ?_ | refine S4 ?_ | refine S5 ?_ | refine S7 ?_ | refine S8 ?_))
  refine S1 ?_
  (repeat (first | refine K1 ?_ | refine K2 ?_ | refine K3 ?_ | refine K4 ?_ | refine K5 ?_ | refine K6 ?_ | refine K7 ?_ | refine L1 ?_ | refine L2 ?_ | refine L3 ?_ | refine RG.d ?_ | refine RG.dd ?_ | refine S2 ?_ | refine S3 ?_ | refine S4 ?_ | refine S5 ?_ | refine S7 ?_ | refine S8 ?_))
  refine RG.put 82 rfl (show _ = .val (.int .u8 v) by rw [hv]) ?_
  refine RG.put 83 rfl (show _ = A.ptr 5 [] (0 + iNat (i : Int) * 1) by rw [hi]) ?_
  refine RG.store (k := 5) (p := []) (c' := ints .u8 (U.set (0 + iNat (i : Int) * 1) v)) tok rfl rfl rfl rfl ?hl rfl rfl rfl ?_
  case hl => exact stA_map (k := 5) rfl (fun x => .val (.int .u8 x)) (xs := U) rfl (by rw [iNat_eq]; omega) v rfl rfl
  rw [show 0 + iNat (i : Int) * 1 = i from by rw [iNat_eq]; omega]
  obtain ⟨V, hV⟩ : ∃ V, V = U.set i v := ⟨_, rfl⟩
  have lV : V.length = U.length := by rw [hV, List.length_set]
  have hVb : ∀ x, x ∈ V → 0 ≤ x ∧ x ≤ 255 := by rw [hV]; exact set_byte hUb i v hvb
  rw [← hV, ← lV]
  (repeat (first | refine K1 ?_ | refine K2 ?_ | refine K3 ?_ | refine K4 ?_ | refine K5 ?_ | refine K6 ?_ | refine K7 ?_ | refine L1 ?_ | refine L2 ?_ | refine L3 ?_ | refine RG.d ?_ | refine RG.dd ?_ | refine S2 ?_ | refine S3 ?_ | refine S4 ?_ | refine S5 ?_ | refine S7 ?_ | refine S8 ?_))
  refine AW.sub (Sub.trans (Sub.frz (ks := [5]) 10 rfl (frzI (xs := V) rfl (by decide) rfl)) (show Sub _ _ (⟨put 2 (some (.ro b.length (ints .u8 b))) (put 4 (some (.ptr 1 [] 0)) (put 7 (some (.val (.bool true))) (put 9 (some (.ptr 3 [] 0)) (put 10 (some (.ro V.length (ints .u8 V))) noE)))), hput 1 (.one ([.val (.int .u16 k0), .val (.int .u16 k1), .val (.int .u16 k2)])) (hput 3 (.one ([byA w, i64 0])) noH), 6⟩) from Sub.of (by repeat (first | exact SubE.no _ | refine SubE.put rfl ?_)) (by repeat (first | exact SubH.no _ | refine SubH.put rfl ?_)) rfl)) ?_
  refine S1 ?_
  (repeat (first | refine K1 ?_ | refine K2 ?_ | refine K3 ?_ | refine K4 ?_ | refine K5 ?_ | refine K6 ?_ | refine K7 ?_ | refine L1 ?_ | refine L2 ?_ | refine L3 ?_ | refine RG.d ?_ | refine RG.dd ?_ | refine S2 ?_ | refine S3 ?_ | refine S4 ?_ | refine S5 ?_ | refine S7 ?_ | refine S8 ?_))
  obtain ⟨m, hm, hmL⟩ : ∃ m : Nat, (V.length : Int) - Int.tmod k2 (V.length : Int) = (m : Int) ∧ m ≤ V.length := by
    have h1 := Int.emod_nonneg k2 (show (V.length : Int) ≠ 0 by omega)
    have h2 := Int.emod_lt_of_pos k2 (show (0 : Int) < (V.length : Int) by omega)
    exact ⟨((V.length : Int) - k2 % (V.length : Int)).toNat, by rw [Int.tmod_eq_emod_of_nonneg hk2.1]; omega, by omega⟩
  refine RG.put 93 rfl (v' := i64 (m : Int)) (by rw [hm, wrap_i64 ⟨by omega, by omega⟩]) ?_
  refine RG.val tok rfl rfl rfl (show 0 ≤ (m : Int) ∧ (m : Int) ≤ (V.length : Int) ∧ (ints .u8 V).length = V.length * 1 from ⟨by omega, by omega, by rw [ints_length, Nat.mul_one]⟩) rfl rfl ?_
  obtain ⟨Y, hY⟩ : ∃ Y, Y = V.take m := ⟨_, rfl⟩
  have lY : Y.length = m := by rw [hY, List.length_take]; omega
  have hYb : ∀ x, x ∈ Y → 0 ≤ x ∧ x ≤ 255 := fun x hx => hVb x (by rw [hY] at hx; exact List.mem_of_mem_take hx)
  refine RG.put 94 rfl (v' := .ro Y.length (ints .u8 Y)) (by
    show A.ro m ((ints .u8 V).take (m * 1)) = _
    rw [lY, hY, Nat.mul_one]; simp [ints]) ?_
  (repeat (first | refine K1 ?_ | refine K2 ?_ | refine K3 ?_ | refine K4 ?_ | refine K5 ?_ | refine K6 ?_ | refine K7 ?_ | refine L1 ?_ | refine L2 ?_ | refine L3 ?_ | refine RG.d ?_ | refine RG.dd ?_ | refine S2 ?_ | refine S3 ?_ | refine S4 ?_ | refine S5 ?_ | refine S7 ?_ | refine S8 ?_))
  refine AW.sub (show Sub _ _ (⟨put 2 (some (.ro b.length (ints .u8 b))) (put 7 (some (.val (.bool true))) (put 9 (some (.ptr 3 [] 0)) (put 10 (some (.ro V.length (ints .u8 V))) (put 12 (some (.ro Y.length (ints .u8 Y))) noE)))), hput 3 (.one ([byA w, i64 0])) noH, 6⟩) from Sub.of (by repeat (first | exact SubE.no _ | refine SubE.put rfl ?_)) (by repeat (first | exact SubH.no _ | refine SubH.put rfl ?_)) rfl) ?_
  refine S1 ?_
  (repeat (first | refine K1 ?_ | refine K2 ?_ | refine K3 ?_ | refine K4 ?_ | refine K5 ?_ | refine K6 ?_ | refine K7 ?_ | refine L1 ?_ | refine L2 ?_ | refine L3 ?_ | refine RG.d ?_ | refine RG.dd ?_ | refine S2 ?_ | refine S3 ?_ | refine S4 ?_ | refine S5 ?_ | refine S7 ?_ | refine S8 ?_))
  refine RG.append tok rfl rfl rfl rfl rfl rfl rfl rfl (n1 := 0) (c := []) (ks := [6]) rfl (m := 8 * w.length) (l := ints .u8 (bsL w)) (ks' := []) rfl (by rw [ints_length, bsL_len, Nat.mul_one]) (by simp) (ints_cell _ _) (by omega) (by omega) rfl (c' := ints .u8 U) (by rw [hU]; rfl) ?_
  rw [Nat.zero_add (8 * w.length), ← lU]
  (repeat (first | refine K1 ?_ | refine K2 ?_ | refine K3 ?_ | refine K4 ?_ | refine K5 ?_ | refine K6 ?_ | refine K7 ?_ | refine L1 ?_ | refine L2 ?_ | refine L3 ?_ | refine RG.d ?_ | refine RG.dd ?_ | refine S2 ?_ | refine S3 ?_ | refine S4 ?_ | refine S5 ?_ | refine S7 ?_ | refine S8 ?_))
  obtain ⟨X, hX⟩ : ∃ X, X = U ++ b := ⟨_, rfl⟩
  have lX : U.length + b.length = X.length := by rw [hX, List.length_append]
  have hXb : ∀ x, x ∈ X → 0 ≤ x ∧ x ≤ 255 := fun x hx => by
    rw [hX] at hx
    rcases List.mem_append.1 hx with h | h
    · exact hUb x h
    · exact hbb x h
  refine RG.append tok rfl rfl rfl rfl rfl rfl rfl rfl (n1 := U.length) (c := ints .u8 U) (ks := [7]) rfl (m := b.length) (l := ints .u8 b) (ks' := []) rfl (by rw [ints_length, Nat.mul_one]) (by rw [ints_length, Nat.mul_one]; exact Nat.le_refl _) (ints_cell _ _) (by omega) (by omega) rfl (c' := ints .u8 X) (by rw [List.take_of_length_le (by rw [ints_length, Nat.mul_one]; exact Nat.le_refl _), hX]; simp [ints]) ?_
  rw [lX]
  (repeat (first | refine K1 ?_ | refine K2 ?_ | refine K3 ?_ | refine K4 ?_ | refine K5 ?_ | refine K6 ?_ | refine K7 ?_ | refine L1 ?_ | refine L2 ?_ | refine L3 ?_ | refine RG.d ?_ | refine RG.dd ?_ | refine S2 ?_ | refine S3 ?_ | refine S4 ?_ | refine S5 ?_ | refine S7 ?_ | refine S8 ?_))
  refine AW.sub (Sub.trans (Sub.frzH (ks := [8]) 9 rfl (by decide) (c' := [.ro V.length (ints .u8 V), .ro Y.length (ints .u8 Y), .ro b.length (ints .u8 b), .ro X.length (ints .u8 X)]) (.cons (Frz.refl _) (.cons (Frz.refl _) (.cons (Frz.refl _) (.cons (frzI rfl (by decide) rfl) .nil))))) (Sub.trans (Sub.frz (ks := [9]) 13 rfl (frzC (c := [.ro V.length (ints .u8 V), .ro Y.length (ints .u8 Y), .ro b.length (ints .u8 b), .ro X.length (ints .u8 X)]) (st := 1) (n := 4) rfl (by decide) rfl rfl)) (show Sub _ _ (⟨put 7 (some (.val (.bool true))) (put 13 (some (.ro 4 [.ro V.length (ints .u8 V), .ro Y.length (ints .u8 Y), .ro b.length (ints .u8 b), .ro X.length (ints .u8 X)])) noE), noH, 0⟩) from Sub.down (by repeat (first | exact SubE.no _ | refine SubE.put rfl ?_)) (by repeat (first | exact SubH.no _ | refine SubH.put rfl ?_)) (by repeat (first | exact LtE.no _ | refine LtE.put rfl ?_)) (by repeat (first | exact LtH.no _ | refine LtH.put rfl rfl ?_)) rfl))) ?_
  obtain ⟨xs, hxs⟩ : ∃ xs, xs = [V, Y, b, X] := ⟨_, rfl⟩
  obtain ⟨F, hF⟩ : ∃ F : List Int → A, F = fun x => .ro x.length (ints .u8 x) := ⟨_, rfl⟩
  have hL4 : [.ro V.length (ints .u8 V), .ro Y.length (ints .u8 Y), .ro b.length (ints .u8 b), .ro X.length (ints .u8 X)] = xs.map F := by rw [hxs, hF]; rfl
  have hall : ∀ x, x ∈ xs → ∃ D : Option Df, (∀ e, D = some e → e.ok ∧ e.w.length ≤ 100000) ∧ FC Try.prog ge 13 [F x] [] (readA D) [] NoP ∧ FC Try.prog ge 25 [F x] [] (readA D) [] NoP := by
    intro x hx
    rw [hxs] at hx
    rw [hF]
    rcases List.mem_cons.1 hx with rfl | hx
    · exact rd_both _ hVb (by omega)
    rcases List.mem_cons.1 hx with rfl | hx
    · exact rd_both _ hYb (by omega)
    rcases List.mem_cons.1 hx with rfl | hx
    · exact rd_both _ hbb (by omega)
    rcases List.mem_cons.1 hx with rfl | hx
    · exact rd_both _ hXb (by omega)
    · cases hx
  have lxs : xs.length = 4 := by rw [hxs]; rfl
  rw [hL4]
  clear hL4 hxs
  refine AW.seqJ (fun _ : Unit => ⟨put 7 (some (.val (.bool true))) noE, noH, 0⟩) (fun _ => True) ?_ ?_
  · refine S1 ?_; (repeat (first | refine K1 ?_ | refine K2 ?_ | refine K3 ?_ | refine K4 ?_ | refine K5 ?_ | refine K6 ?_ | refine K7 ?_ | refine L1 ?_ | refine L2 ?_ | refine L3 ?_ | refine RG.d ?_ | refine RG.dd ?_ | refine S2 ?_ | refine S3 ?_ | refine S4 ?_ | refine S5 ?_ | refine S7 ?_ | refine S8 ?_))
    refine AW.loopS (fun n : Nat => ⟨put 7 (some (.val (.bool true))) (put 13 (some (.ro 4 (xs.map F))) (put 14 (some (i64 (n : Int))) noE)), noH, 0⟩) (fun n => n ≤ 4) (fun n => 4 - n) 0 (Nat.zero_le _) (Sub.of (by repeat (first | exact SubE.no _ | refine SubE.put rfl ?_)) (by repeat (first | exact SubH.no _ | refine SubH.put rfl ?_)) rfl) ?_
    intro n hn
    (repeat (first | refine K1 ?_ | refine K2 ?_ | refine K3 ?_ | refine K4 ?_ | refine K5 ?_ | refine K6 ?_ | refine K7 ?_ | refine L1 ?_ | refine L2 ?_ | refine L3 ?_ | refine RG.d ?_ | refine RG.dd ?_ | refine S1 ?_ | refine S2 ?_ | refine S3 ?_ | refine S4 ?_ | refine S5 ?_ | refine S7 ?_ | refine S8 ?_))
    refine AW.condD rfl (fun hc => ?_) (fun hc => ?_)
    rotate_left
    · (repeat (first | refine K1 ?_ | refine K2 ?_ | refine K3 ?_ | refine K4 ?_ | refine K5 ?_ | refine K6 ?_ | refine K7 ?_ | refine L1 ?_ | refine L2 ?_ | refine L3 ?_ | refine RG.d ?_ | refine RG.dd ?_ | refine S1 ?_ | refine S2 ?_ | refine S3 ?_ | refine S4 ?_ | refine S5 ?_ | refine S7 ?_ | refine S8 ?_))
      exact ⟨(), trivial, Sub.of (by repeat (first | exact SubE.no _ | refine SubE.put rfl ?_)) (by repeat (first | exact SubH.no _ | refine SubH.put rfl ?_)) rfl⟩
    have hn4 : n < 4 := by
      have : (n : Int) < (4 : Int) := hc
      omega
    have hat := map_at F xs [] (i := n) (by omega)
    obtain ⟨x, hx⟩ : ∃ x, x = xs.getD n [] := ⟨_, rfl⟩
    obtain ⟨D, hD, cx, cy⟩ := hall (xs.getD n []) (by rw [List.getD_eq_getElem?_getD, List.getElem?_eq_getElem (by omega)]; exact List.getElem_mem _)
    rw [← hx] at hat cx cy
    obtain ⟨fx, hfx⟩ : ∃ y, y = F x := ⟨_, rfl⟩
    rw [← hfx] at hat cx cy
    have hfx2 : fx = .ro x.length (ints .u8 x) := by rw [hfx, hF]
    subst hfx2
    clear hfx hx
    refine S3 ?_
    cases D with
    | none =>
      have cz := sameZ_fc
      simp only [readA, zdef, List.map_cons, List.map_nil, List.cons_append, List.nil_append] at cx cy cz
      (repeat (first | refine K1 ?_ | refine K2 ?_ | refine K3 ?_ | refine K4 ?_ | refine K5 ?_ | refine K6 ?_ | refine K7 ?_ | refine L1 ?_ | refine L2 ?_ | refine L3 ?_ | refine RG.d ?_ | refine RG.dd ?_ | refine S1 ?_ | refine S2 ?_ | refine S3 ?_ | refine S4 ?_ | refine S5 ?_ | refine S7 ?_ | refine S8 ?_))
      refine RG.idx tok rfl rfl rfl rfl rfl rfl hat ⟨by omega, by omega⟩ rfl ?_
      (repeat (first | refine RG.call rfl rfl rfl rfl (cx) [] rfl rfl rfl rfl (.nil _) (.nil _) (fun _ h => False.elim h) rfl (A.ren_free _ _ rfl) rfl ?_ | refine K1 ?_ | refine K2 ?_ | refine K3 ?_ | refine K4 ?_ | refine K5 ?_ | refine K6 ?_ | refine K7 ?_ | refine L1 ?_ | refine L2 ?_ | refine L3 ?_ | refine RG.d ?_ | refine RG.dd ?_ | refine S1 ?_ | refine S2 ?_ | refine S3 ?_ | refine S4 ?_ | refine S5 ?_ | refine S7 ?_ | refine S8 ?_))
      refine RG.idx tok rfl rfl rfl rfl rfl rfl hat ⟨by omega, by omega⟩ rfl ?_
      (repeat (first | refine RG.call rfl rfl rfl rfl (cy) [] rfl rfl rfl rfl (.nil _) (.nil _) (fun _ h => False.elim h) rfl (A.ren_free _ _ rfl) rfl ?_ | refine RG.call rfl rfl rfl rfl (cz) [] rfl rfl rfl rfl (.nil _) (.nil _) (fun _ h => False.elim h) rfl (A.ren_free _ _ rfl) rfl ?_ | refine K1 ?_ | refine K2 ?_ | refine K3 ?_ | refine K4 ?_ | refine K5 ?_ | refine K6 ?_ | refine K7 ?_ | refine L1 ?_ | refine L2 ?_ | refine L3 ?_ | refine RG.d ?_ | refine RG.dd ?_ | refine S1 ?_ | refine S2 ?_ | refine S3 ?_ | refine S4 ?_ | refine S5 ?_ | refine S7 ?_ | refine S8 ?_))
      exact ⟨n + 1, by show n + 1 ≤ 4; omega, by show 4 - (n + 1) < 4 - n; omega, Sub.down (by repeat (first | exact SubE.no _ | refine SubE.put rfl ?_)) (by repeat (first | exact SubH.no _ | refine SubH.put rfl ?_)) (by repeat (first | exact LtE.no _ | refine LtE.put rfl ?_)) (by repeat (first | exact LtH.no _ | refine LtH.put rfl rfl ?_)) rfl⟩
    | some e =>
      obtain ⟨oke, we⟩ := hD e rfl
      have cz := sameDef_fc e e oke oke (by unfold BW; omega) (by unfold BW; omega)
      rw [show decide (e.w = e.w) = true from decide_eq_true rfl] at cz
      have hecl : e.cl = [i64 e.id, i64 e.site, strA (unb e.name), i64 e.firm, i64 e.part, .ro e.params.length (flC Rg.cl e.params), .ro e.given.length (flC Rg.cl e.given), i64 e.vars, i64 e.refs, .ro e.arrays.length (flC Ar.cl e.arrays), i64 e.budget, .ro e.body.length (flC Sm.cl e.body)] := rfl
      simp only [readA, hecl, List.cons_append, List.nil_append] at cx cy cz
      (repeat (first | refine K1 ?_ | refine K2 ?_ | refine K3 ?_ | refine K4 ?_ | refine K5 ?_ | refine K6 ?_ | refine K7 ?_ | refine L1 ?_ | refine L2 ?_ | refine L3 ?_ | refine RG.d ?_ | refine RG.dd ?_ | refine S1 ?_ | refine S2 ?_ | refine S3 ?_ | refine S4 ?_ | refine S5 ?_ | refine S7 ?_ | refine S8 ?_))
      refine RG.idx tok rfl rfl rfl rfl rfl rfl hat ⟨by omega, by omega⟩ rfl ?_
      (repeat (first | refine RG.call rfl rfl rfl rfl (cx) [] rfl rfl rfl rfl (.nil _) (.nil _) (fun _ h => False.elim h) rfl (A.ren_free _ _ rfl) rfl ?_ | refine K1 ?_ | refine K2 ?_ | refine K3 ?_ | refine K4 ?_ | refine K5 ?_ | refine K6 ?_ | refine K7 ?_ | refine L1 ?_ | refine L2 ?_ | refine L3 ?_ | refine RG.d ?_ | refine RG.dd ?_ | refine S1 ?_ | refine S2 ?_ | refine S3 ?_ | refine S4 ?_ | refine S5 ?_ | refine S7 ?_ | refine S8 ?_))
      refine RG.idx tok rfl rfl rfl rfl rfl rfl hat ⟨by omega, by omega⟩ rfl ?_
      (repeat (first | refine RG.call rfl rfl rfl rfl (cy) [] rfl rfl rfl rfl (.nil _) (.nil _) (fun _ h => False.elim h) rfl (A.ren_free _ _ rfl) rfl ?_ | refine RG.call rfl rfl rfl rfl (cz) [] rfl rfl rfl rfl (.nil _) (.nil _) (fun _ h => False.elim h) rfl (A.ren_free _ _ rfl) rfl ?_ | refine K1 ?_ | refine K2 ?_ | refine K3 ?_ | refine K4 ?_ | refine K5 ?_ | refine K6 ?_ | refine K7 ?_ | refine L1 ?_ | refine L2 ?_ | refine L3 ?_ | refine RG.d ?_ | refine RG.dd ?_ | refine S1 ?_ | refine S2 ?_ | refine S3 ?_ | refine S4 ?_ | refine S5 ?_ | refine S7 ?_ | refine S8 ?_))
      exact ⟨n + 1, by show n + 1 ≤ 4; omega, by show 4 - (n + 1) < 4 - n; omega, Sub.down (by repeat (first | exact SubE.no _ | refine SubE.put rfl ?_)) (by repeat (first | exact SubH.no _ | refine SubH.put rfl ?_)) (by repeat (first | exact LtE.no _ | refine LtE.put rfl ?_)) (by repeat (first | exact LtH.no _ | refine LtH.put rfl rfl ?_)) rfl⟩
  intro _ _
  (repeat (first | refine K1 ?_ | refine K2 ?_ | refine K3 ?_ | refine K4 ?_ | refine K5 ?_ | refine K6 ?_ | refine K7 ?_ | refine L1 ?_ | refine L2 ?_ | refine L3 ?_ | refine RG.d ?_ | refine RG.dd ?_ | refine S1 ?_ | refine S2 ?_ | refine S3 ?_ | refine S4 ?_ | refine S5 ?_ | refine S6 ?_ | refine S7 ?_ | refine S8 ?_))
  exact ⟨⟨_, rfl, rfl⟩, rfl, .nil _⟩
end Go.Proofs.Ytmfccaidgaelcaa
