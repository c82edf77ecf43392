/- What was written is read. No conditions. -/
import Derived.Test.YtmfccaidgaelcaaEc15
import Derived.Test.YtmfccaidgaelcaaEc17
import Derived.Test.YtmfccaidgaelcaaAbsE
set_option linter.unusedVariables false
set_option linter.unusedSimpArgs false
namespace Go.Proofs.Ytmfccaidgaelcaa
open Go.Abs Go Go.RowKit
theorem df_wpos (d : Df) : 1 ≤ d.w.length := by
  obtain ⟨id, site, name, firm, part, params, given, vars, refs, arrays, budget, body⟩ := d
  simp [Df.w]
theorem rdAll_some {ws : List Int} {e : Df} (h : rdAll ws [] = some e) : e.ok ∧ e.w = ws := by
  unfold rdAll at h
  split at h
  · rename_i d hd
    rw [if_pos rfl] at h
    cases h
    have := df_can 200000 _ _ _ hd
    exact ⟨this.2, by have := this.1; simpa using this.symm⟩
  · cases h
theorem all8 {b : List Int} {n : Nat} (hb : ∀ x, x ∈ b → 0 ≤ x ∧ x ≤ 255) (hl : b.length = 8 * n) : ∃ ws, b = bsL ws ∧ ws.length = n ∧ ∀ w, w ∈ ws → I64' w := by
  obtain ⟨ws, t, h1, h2, h3⟩ := split_words b.length b (Nat.le_refl _) hb
  have : b.length = 8 * ws.length + t.length := by rw [h1, List.length_append, bsL_len]
  have ht : t = [] := List.eq_nil_of_length_eq_zero (by omega)
  subst ht
  exact ⟨ws, by simpa using h1, by simp at this; omega, h3⟩
theorem set_byte {b : List Int} (hb : ∀ x, x ∈ b → 0 ≤ x ∧ x ≤ 255) (i : Nat) (v : Int) (hv : 0 ≤ v ∧ v ≤ 255) : ∀ x, x ∈ b.set i v → 0 ≤ x ∧ x ≤ 255 := fun x hx => by
  rcases List.mem_or_eq_of_mem_set hx with h | rfl
  · exact hb x h
  · exact hv
theorem ByteArray.toList_loop_eq' (b : ByteArray) : ∀ (m i : Nat) (acc : List UInt8), b.size - i = m → i ≤ b.size → ByteArray.toList.loop b i acc = acc.reverse ++ b.data.toList.drop i := by
  intro m
  induction m with
  | zero =>
    intro i acc h1 h2
    unfold ByteArray.toList.loop
    have : b.data.toList.length = b.size := by rw [Array.length_toList]; rfl
    rw [if_neg (by omega), List.drop_eq_nil_of_le (by omega), List.append_nil]
  | succ m ih =>
    intro i acc h1 h2
    unfold ByteArray.toList.loop
    have hs : b.data.toList.length = b.size := by rw [Array.length_toList]; rfl
    have hlt : i < b.data.toList.length := by omega
    rw [if_pos (by omega), ih (i + 1) _ (by omega) (by omega), List.reverse_cons, List.append_assoc, List.drop_eq_getElem_cons hlt]
    have : b.get! i = b.data.toList[i] := by
      rw [ByteArray.get!]
      rw [Array.getElem_toList]
      exact getElem!_pos b.data i (by rw [← Array.length_toList]; exact hlt)
    rw [this]; rfl
theorem bytes_inj {a b : ByteArray} (h : a.toList = b.toList) : a = b := by
  unfold ByteArray.toList at h
  rw [ByteArray.toList_loop_eq' a _ 0 [] rfl (Nat.zero_le _), ByteArray.toList_loop_eq' b _ 0 [] rfl (Nat.zero_le _)] at h
  exact ByteArray.ext (Array.toList_inj.1 (by simpa using h))
theorem same_bytes {a b : List Int} (ha : ∀ x, x ∈ a → I64' x) (hb : ∀ x, x ∈ b → I64' x) : ((unb (bsL a)).toList == (unb (bsL b)).toList) = decide (a = b) := by
  by_cases h : a = b
  · subst h; simp
  · rw [decide_eq_false h]
    rw [beq_eq_false_iff_ne]
    intro e
    have := congrArg byt (bytes_inj e)
    rw [byt_unb _ (bsL_byte a), byt_unb _ (bsL_byte b)] at this
    exact h (bsL_inj a b ha hb this)
set_option maxHeartbeats 4000000 in
theorem round_fc (d : Df) (k0 k1 : Int) (ok : d.ok) (h64 : All64 d.w) (hB : d.w.length ≤ 1048576) (hk0 : 0 ≤ k0 ∧ k0 ≤ 65535) (hk1 : 0 ≤ k1 ∧ k1 ≤ 65535) :
    FC Try.prog ge 3 [.agg d.cl, .agg [.val (.int .u16 k0), .val (.int .u16 k1)]] [] (.val (.bool true)) [] NoP := by
  have cX := examples_fc
  have cS := small_fc d ok (by unfold BW; omega)
  have hpos := df_wpos d
  obtain ⟨w, hw⟩ : ∃ w, w = d.w := ⟨_, rfl⟩
  rw [← hw] at cS hB h64 hpos
  have hcl : d.cl = [i64 d.id, i64 d.site, strA (unb d.name), i64 d.firm, i64 d.part, .ro d.params.length (flC Rg.cl d.params), .ro d.given.length (flC Rg.cl d.given), i64 d.vars, i64 d.refs, .ro d.arrays.length (flC Ar.cl d.arrays), i64 d.budget, .ro d.body.length (flC Sm.cl d.body)] := rfl
  by_cases hsm : (w.length : Int) ≤ 4000
  rotate_left
  · rw [show decide ((w.length : Int) ≤ 4000) = false from decide_eq_false hsm] at cS
    rw [hcl] at cS ⊢
    refine FC.of_AW tok Try.func3 (by kernel_rfl) rfl Try.ntmps3 [] rfl rfl rfl ?_; intro w0 X0 Y f0 hI0 hX0
    refine S1 ?_; (repeat (first | refine K4 ?_ | refine L2 ?_ | refine RG.d ?_ | refine S2 ?_)); refine S1 ?_; (repeat (first | refine RG.call rfl rfl rfl rfl (cX) [] rfl rfl rfl rfl (.nil _) (.nil _) (fun _ h => False.elim h) rfl (A.ren_free _ _ rfl) rfl ?_ | refine K4 ?_ | refine RG.d ?_ | refine S2 ?_))
    refine S1 ?_; (repeat (first | refine K1 ?_)); refine S1 ?_; (repeat (first | refine K4 ?_ | refine RG.d ?_ | refine S2 ?_ | refine S3 ?_ | refine S8 ?_))
    (repeat (first | refine RG.call rfl rfl rfl rfl (cS) [] rfl rfl rfl rfl (.nil _) (.nil _) (fun _ h => False.elim h) rfl (A.ren_free _ _ rfl) rfl ?_ | refine K4 ?_ | refine L1 ?_ | refine RG.d ?_ | refine S1 ?_ | refine S2 ?_ | refine S7 ?_))
    (repeat (first | refine S6 ?_))
    exact ⟨⟨_, rfl, rfl⟩, rfl, .nil _⟩
  rw [show decide ((w.length : Int) ≤ 4000) = true from decide_eq_true hsm] at cS
  have cW := lwritten_fc d ok (by rw [← hw]; omega)
  have cR := lread_fc w [] (by decide) h64 (by simp; omega)
  rw [hw, rdAll_w d ok (by rw [← hw]; omega), btA_nil, ← hw] at cR
  rw [← hw] at cW
  have cD := sameDef_fc d d ok ok (by rw [← hw]; unfold BW; omega) (by rw [← hw]; unfold BW; omega)
  rw [show decide (d.w = d.w) = true from decide_eq_true rfl] at cD
  simp only [readA, hcl, List.cons_append, List.nil_append] at cR
  rw [hcl] at cS cW cD ⊢
  refine FC.of_AW tok Try.func3 (by kernel_rfl) rfl Try.ntmps3 [] rfl rfl rfl ?_; intro w0 X0 Y f0 hI0 hX0
  refine S1 ?_; (repeat (first | refine K4 ?_ | refine L2 ?_ | refine RG.d ?_ | refine S2 ?_)); refine S1 ?_; (repeat (first | refine RG.call rfl rfl rfl rfl (cX) [] rfl rfl rfl rfl (.nil _) (.nil _) (fun _ h => False.elim h) rfl (A.ren_free _ _ rfl) rfl ?_ | refine K4 ?_ | refine RG.d ?_ | refine S2 ?_))
  refine S1 ?_; (repeat (first | refine K1 ?_)); refine S1 ?_; (repeat (first | refine K4 ?_ | refine RG.d ?_ | refine S2 ?_ | refine S3 ?_ | refine S8 ?_))
  (repeat (first | refine RG.call rfl rfl rfl rfl (cS) [] rfl rfl rfl rfl (.nil _) (.nil _) (fun _ h => False.elim h) rfl (A.ren_free _ _ rfl) rfl ?_ | refine RG.call rfl rfl rfl rfl (cW) [] rfl rfl rfl rfl (.nil _) (.nil _) (fun _ h => False.elim h) rfl (A.ren_free _ _ rfl) rfl ?_ | refine RG.call rfl rfl rfl rfl (cR) [] rfl rfl rfl rfl (.nil _) (.nil _) (fun _ h => False.elim h) rfl (A.ren_free _ _ rfl) rfl ?_ | refine RG.call rfl rfl rfl rfl (cD) [] rfl rfl rfl rfl (.nil _) (.nil _) (fun _ h => False.elim h) rfl (A.ren_free _ _ rfl) rfl ?_ | refine K4 ?_ | refine L1 ?_ | refine L2 ?_ | refine L3 ?_ | refine RG.d ?_ | refine S1 ?_ | refine S2 ?_ | refine S3 ?_ | refine S8 ?_))
  refine AW.condD rfl (fun k => absurd (show ((8 * w.length : Nat) : Int) = 0 from k) (by omega)) (fun _ => ?_)
  refine S3 ?_
  refine AW.sub (show Sub _ _ (⟨put 2 (some (.ptr 0 [] 0)) (put 3 (some (.ptr 1 [] 0)) (put 5 (some (.val (.bool true))) (put 6 (some (.ptr 2 [] 0)) noE))), hput 0 (.one ([i64 d.id, i64 d.site, strA (unb d.name), i64 d.firm, i64 d.part, .ro d.params.length (flC Rg.cl d.params), .ro d.given.length (flC Rg.cl d.given), i64 d.vars, i64 d.refs, .ro d.arrays.length (flC Ar.cl d.arrays), i64 d.budget, .ro d.body.length (flC Sm.cl d.body)])) (hput 1 (.one ([.val (.int .u16 k0), .val (.int .u16 k1)])) (hput 2 (.one ([byA w, i64 0])) noH)), 4⟩) from Sub.of (by repeat (first | exact SubE.no _ | refine SubE.put rfl ?_)) (by repeat (first | exact SubH.no _ | refine SubH.put rfl ?_)) rfl) ?_
  clear cS cW cR cX
  obtain ⟨U, hU⟩ : ∃ U, U = bsL w := ⟨_, rfl⟩
  have lU : U.length = 8 * w.length := by rw [hU, bsL_len]
  refine S1 ?_
  (repeat (first | refine K4 ?_ | refine L1 ?_ | refine L2 ?_ | refine S2 ?_))
  refine RG.append tok rfl rfl rfl rfl rfl rfl rfl rfl (n1 := 0) (c := []) (ks := [4]) rfl (m := 8 * w.length) (l := ints .u8 (bsL w)) (ks' := []) rfl (by rw [ints_length, bsL_len, Nat.mul_one]) (by simp) (ints_cell _ _) (by omega) (by omega) rfl (c' := ints .u8 U) (by rw [hU]; rfl) ?_
  rw [Nat.zero_add (8 * w.length), ← lU]
  (repeat (first | refine K4 ?_ | refine RG.d ?_))
  have hUb : ∀ x, x ∈ U → 0 ≤ x ∧ x ≤ 255 := by rw [hU]; exact bsL_byte w
  obtain ⟨i, hi, hiL⟩ : ∃ i : Nat, Int.tmod k0 (U.length : Int) = (i : Int) ∧ i < U.length := by
    have h1 := Int.emod_nonneg k0 (show (U.length : Int) ≠ 0 by omega)
    have h2 := Int.emod_lt_of_pos k0 (show (0 : Int) < (U.length : Int) by omega)
    exact ⟨(k0 % (U.length : Int)).toNat, by rw [Int.tmod_eq_emod_of_nonneg hk0.1]; omega, by omega⟩
  obtain ⟨v, hv⟩ : ∃ v, v = IntKind.wrap .u8 k1 := ⟨_, rfl⟩
  have hvb : 0 ≤ v ∧ v ≤ 255 := by rw [hv, IntKind.wrap_u8]; omega
  refine S1 ?_
  (repeat (first | refine K2 ?_ | refine K4 ?_ | refine K5 ?_ | refine L1 ?_ | refine S2 ?_))
  refine RG.put 57 rfl (show _ = .val (.int .u8 v) by rw [hv]) ?_
  refine RG.put 58 rfl (show _ = A.ptr 5 [] (0 + iNat (i : Int) * 1) by rw [hi]) ?_
  refine RG.store (k := 5) (p := []) (c' := ints .u8 (U.set (0 + iNat (i : Int) * 1) v)) tok rfl rfl rfl rfl ?hl rfl rfl rfl ?_
  case hl => exact stA_map (k := 5) rfl (fun x => .val (.int .u8 x)) (xs := U) rfl (by rw [iNat_eq]; omega) v rfl rfl
  rw [show 0 + iNat (i : Int) * 1 = i from by rw [iNat_eq]; omega]
  obtain ⟨V, hV⟩ : ∃ V, V = U.set i v := ⟨_, rfl⟩
  have lV : V.length = U.length := by rw [hV, List.length_set]
  obtain ⟨ws, hws, lws, iws⟩ := all8 (b := V) (n := w.length) (by rw [hV]; exact set_byte hUb i v hvb) (by omega)
  rw [← hV, ← lV]
  (repeat (first | refine RG.dd ?_))
  refine AW.sub (Sub.trans (Sub.frz (ks := [5]) 8 rfl (frzI (xs := V) rfl (by decide) rfl)) (show Sub _ _ (⟨put 2 (some (.ptr 0 [] 0)) (put 3 (some (.ptr 1 [] 0)) (put 5 (some (.val (.bool true))) (put 6 (some (.ptr 2 [] 0)) (put 8 (some (.ro V.length (ints .u8 V))) noE)))), hput 0 (.one ([i64 d.id, i64 d.site, strA (unb d.name), i64 d.firm, i64 d.part, .ro d.params.length (flC Rg.cl d.params), .ro d.given.length (flC Rg.cl d.given), i64 d.vars, i64 d.refs, .ro d.arrays.length (flC Ar.cl d.arrays), i64 d.budget, .ro d.body.length (flC Sm.cl d.body)])) (hput 1 (.one ([.val (.int .u16 k0), .val (.int .u16 k1)])) (hput 2 (.one ([byA w, i64 0])) noH)), 6⟩) from Sub.of (by repeat (first | exact SubE.no _ | refine SubE.put rfl ?_)) (by repeat (first | exact SubH.no _ | refine SubH.put rfl ?_)) rfl)) ?_
  have cC := lread_fc ws [] (by decide) iws (by simp; omega)
  rw [btA_nil, show byA ws = .ro V.length (ints .u8 V) by rw [hws, bsL_len]] at cC
  cases hrd : rdAll ws [] with
  | none =>
    rw [hrd] at cC
    simp only [readA, zdef, List.map_cons, List.map_nil, List.cons_append, List.nil_append] at cC
    (repeat (first | refine RG.call rfl rfl rfl rfl (cC) [] rfl rfl rfl rfl (.nil _) (.nil _) (fun _ h => False.elim h) rfl (A.ren_free _ _ rfl) rfl ?_ | refine K4 ?_ | refine L1 ?_ | refine L2 ?_ | refine L3 ?_ | refine RG.d ?_ | refine S1 ?_ | refine S2 ?_ | refine S7 ?_))
    (repeat (first | refine S6 ?_))
    exact ⟨⟨_, rfl, rfl⟩, rfl, .nil _⟩
  | some e =>
    obtain ⟨oke, we⟩ := rdAll_some hrd
    rw [hrd] at cC
    have hecl : e.cl = [i64 e.id, i64 e.site, strA (unb e.name), i64 e.firm, i64 e.part, .ro e.params.length (flC Rg.cl e.params), .ro e.given.length (flC Rg.cl e.given), i64 e.vars, i64 e.refs, .ro e.arrays.length (flC Ar.cl e.arrays), i64 e.budget, .ro e.body.length (flC Sm.cl e.body)] := rfl
    simp only [readA, hecl, List.cons_append, List.nil_append] at cC
    have cW2 := lwritten_fc e oke (by rw [we]; omega)
    rw [we] at cW2
    have cE := sameDef_fc e d oke ok (by rw [we]; unfold BW; omega) (by rw [← hw]; unfold BW; omega)
    rw [we, ← hw, hcl, hecl] at cE
    rw [hecl] at cW2
    (repeat (first | refine RG.call rfl rfl rfl rfl (cC) [] rfl rfl rfl rfl (.nil _) (.nil _) (fun _ h => False.elim h) rfl (A.ren_free _ _ rfl) rfl ?_ | refine RG.call rfl rfl rfl rfl (cW2) [] rfl rfl rfl rfl (.nil _) (.nil _) (fun _ h => False.elim h) rfl (A.ren_free _ _ rfl) rfl ?_ | refine K4 ?_ | refine L1 ?_ | refine L2 ?_ | refine L3 ?_ | refine RG.d ?_ | refine S1 ?_ | refine S2 ?_ | refine S3 ?_ | refine S8 ?_))
    obtain ⟨r, hr⟩ : ∃ r, r = unb (bsL ws) := ⟨_, rfl⟩
    obtain ⟨q, hq⟩ : ∃ r, r = unb (bsL w) := ⟨_, rfl⟩
    refine RG.bstr tok rfl rfl rfl (by rw [bsL_len]) rfl rfl rfl rfl hr.symm ?_
    (repeat (first | refine K4 ?_))
    refine RG.bstr tok rfl rfl rfl rfl rfl rfl rfl rfl (show unb V = r by rw [hws, hr]) ?_
    (repeat (first | refine K4 ?_))
    refine RG.put 91 rfl (show _ = A.val (.bool true) by simp) ?_
    (repeat (first | refine RG.call rfl rfl rfl rfl (cE) [] rfl rfl rfl rfl (.nil _) (.nil _) (fun _ h => False.elim h) rfl (A.ren_free _ _ rfl) rfl ?_ | refine K4 ?_ | refine L1 ?_))
    refine RG.bstr tok rfl rfl rfl rfl rfl rfl rfl rfl (show unb V = r by rw [hws, hr]) ?_
    (repeat (first | refine K4 ?_ | refine L1 ?_))
    refine RG.bstr tok rfl rfl rfl (by rw [bsL_len]) rfl rfl rfl rfl hq.symm ?_
    (repeat (first | refine K4 ?_))
    refine RG.put 104 rfl (show _ = A.val (.bool true) by rw [hr, hq, same_bytes iws h64]; simp) ?_
    (repeat (first | refine K4 ?_ | refine RG.dd ?_ | refine S6 ?_))
    exact ⟨⟨_, rfl, rfl⟩, rfl, .nil _⟩
end Go.Proofs.Ytmfccaidgaelcaa
