/- A definition's words and bytes, as the program writes them. No conditions. -/
import Derived.Test.YtmfccaidgaelcaaEc2
import Derived.Test.YtmfccaidgaelcaaEp2
import Derived.Test.YtmfccaidgaelcaaAbsE
set_option linter.unusedVariables false
set_option linter.unusedSimpArgs false
namespace Go.Proofs.Ytmfccaidgaelcaa
open Go.Abs Go Go.RowKit
theorem byt_unb (xs : List Int) (h : ∀ x, x ∈ xs → 0 ≤ x ∧ x ≤ 255) : byt (unb xs) = xs := by
  unfold byt unb
  simp only [List.toList_toArray, List.map_map]
  conv => rhs; rw [← List.map_id xs]
  apply List.map_congr_left
  intro x hx
  have := h x hx
  simp only [Function.comp, id]
  rw [show (UInt8.ofNat x.toNat).toNat = x.toNat % 256 from rfl]
  omega
def strA (s : ByteArray) : A := .val (.string s)
def Df.cl (d : Df) : List A := [i64 d.id, i64 d.site, strA (unb d.name), i64 d.firm, i64 d.part, .ro d.params.length (flC Rg.cl d.params), .ro d.given.length (flC Rg.cl d.given), i64 d.vars, i64 d.refs, .ro d.arrays.length (flC Ar.cl d.arrays), i64 d.budget, .ro d.body.length (flC Sm.cl d.body)]
theorem bcl_eq : ∀ l : List Int, flC bcl l = ints .u8 l
  | [] => rfl
  | x :: l => by rw [flC, bcl_eq l]; rfl
theorem list_rg (l : List Rg) (hB : 1 + (fmW Rg.w l).length ≤ BW) : FC Try.prog ge 67 [.ro l.length (flC Rg.cl l), .fn 68 [] []] [] (rdi ((l.length : Int) :: fmW Rg.w l)) [] NoP :=
  list_rg_fc _ l (fun x hx => span_fc x) hB
theorem list_ar (l : List Ar) (hB : 1 + (fmW Ar.w l).length ≤ BW) : FC Try.prog ge 69 [.ro l.length (flC Ar.cl l), .fn 70 [] []] [] (rdi ((l.length : Int) :: fmW Ar.w l)) [] NoP :=
  list_ar_fc _ l (fun x hx => array_fc x) hB
theorem list_by (l : List Int) (h : ∀ x, x ∈ l → leOk x) (hB : 1 + l.length ≤ BW) : FC Try.prog ge 64 [.ro l.length (ints .u8 l), .fn 65 [] []] [] (rdi ((l.length : Int) :: l)) [] NoP := by
  have c := list_byte_fc 65 l (fun x hx => letter1_fc x (h x hx)) (by rw [iw_fm]; exact hB)
  rw [iw_fm, bcl_eq] at c
  exact c
set_option maxHeartbeats 8000000 in
set_option maxRecDepth 10000 in
theorem def_fc (d : Df) (ok : d.ok) (hB : d.w.length ≤ BW) : FC Try.prog ge 41 [.agg d.cl] [] (rdi d.w) [] NoP := by
  obtain ⟨id, site, name, firm, part, params, given, vars, refs, arrays, budget, body⟩ := d
  have hw : (Df.mk id site name firm part params given vars refs arrays budget body).w = [[1, id, site], (name.length : Int) :: name, [firm, part], (params.length : Int) :: fmW Rg.w params, (given.length : Int) :: fmW Rg.w given, [vars, refs], (arrays.length : Int) :: fmW Ar.w arrays, [budget], (body.length : Int) :: fmW Sm.w body].flatten := by simp [Df.w, smW_eq]
  have hB2 := hB
  rw [hw] at hB2
  simp only [List.flatten_cons, List.length_append, List.length_cons, List.flatten_nil, List.length_nil] at hB2
  have cc := concat_fc [[1, id, site], (name.length : Int) :: name, [firm, part], (params.length : Int) :: fmW Rg.w params, (given.length : Int) :: fmW Rg.w given, [vars, refs], (arrays.length : Int) :: fmW Ar.w arrays, [budget], (body.length : Int) :: fmW Sm.w body] (by simp) (by rw [← hw]; exact hB)
  rw [← hw] at cc
  have c1 := list_by name ok (by omega)
  have c2 := list_rg params (by omega)
  have c3 := list_rg given (by omega)
  have c4 := list_ar arrays (by omega)
  have c5 := one_fc budget
  have c6 := list_sm body (by omega)
  have hnm := byt_unb name ok
  have hsz : (unb name).size = name.length := unb_size name
  obtain ⟨W, hW⟩ : ∃ W, W = (Df.mk id site name firm part params given vars refs arrays budget body).w := ⟨_, rfl⟩
  rw [← hW] at cc ⊢
  unfold BW at hB2
  clear hB hw hW ok
  obtain ⟨w1, h1⟩ : ∃ w, w = (name.length : Int) :: name := ⟨_, rfl⟩
  obtain ⟨w2, h2⟩ : ∃ w, w = (params.length : Int) :: fmW Rg.w params := ⟨_, rfl⟩
  obtain ⟨w3, h3⟩ : ∃ w, w = (given.length : Int) :: fmW Rg.w given := ⟨_, rfl⟩
  obtain ⟨w4, h4⟩ : ∃ w, w = (arrays.length : Int) :: fmW Ar.w arrays := ⟨_, rfl⟩
  obtain ⟨w5, h5⟩ : ∃ w, w = (body.length : Int) :: fmW Sm.w body := ⟨_, rfl⟩
  rw [← h1] at c1 cc
  rw [← h2] at c2 cc
  rw [← h3] at c3 cc
  rw [← h4] at c4 cc
  rw [← h5] at c6 cc
  clear h1 h2 h3 h4 h5
  simp only [Df.cl]
  refine FC.of_AW tok Try.func41 (by kernel_rfl) rfl Try.ntmps41 [] rfl rfl rfl ?_; intro w0 X0 Y f0 hI0 hX0
  (repeat (first | refine K4 ?_ | refine L1 ?_ | refine L2 ?_ | refine RG.d ?_ | refine S1 ?_ | refine S2 ?_))
  refine RG.strb tok rfl rfl rfl (m := name.length) hsz (by omega) rfl rfl rfl rfl ?_
  rw [hnm]
  (repeat (first | refine RG.call rfl rfl rfl rfl (c1) [] rfl rfl rfl rfl (.nil _) (.nil _) (fun _ h => False.elim h) rfl (A.ren_free _ _ rfl) rfl ?_ | refine RG.call rfl rfl rfl rfl (c2) [] rfl rfl rfl rfl (.nil _) (.nil _) (fun _ h => False.elim h) rfl (A.ren_free _ _ rfl) rfl ?_ | refine RG.call rfl rfl rfl rfl (c3) [] rfl rfl rfl rfl (.nil _) (.nil _) (fun _ h => False.elim h) rfl (A.ren_free _ _ rfl) rfl ?_ | refine RG.call rfl rfl rfl rfl (c4) [] rfl rfl rfl rfl (.nil _) (.nil _) (fun _ h => False.elim h) rfl (A.ren_free _ _ rfl) rfl ?_ | refine RG.call rfl rfl rfl rfl (c5) [] rfl rfl rfl rfl (.nil _) (.nil _) (fun _ h => False.elim h) rfl (A.ren_free _ _ rfl) rfl ?_ | refine RG.call rfl rfl rfl rfl (c6) [] rfl rfl rfl rfl (.nil _) (.nil _) (fun _ h => False.elim h) rfl (A.ren_free _ _ rfl) rfl ?_ | refine K4 ?_ | refine L1 ?_ | refine L2 ?_ | refine RG.d ?_ | refine S1 ?_ | refine S2 ?_))
  refine RG.callG rfl rfl rfl rfl cc [] [1, 2, 3, 4] rfl rfl (.cons (FView.sl (l := [.sl 1 [] 1 0 3, rdi w1, .sl 2 [] 1 0 2, rdi w2, rdi w3, .sl 3 [] 1 0 2, rdi w4, rdi [budget], rdi w5]) rfl (by decide) rfl (.cons (FView.sl (l := [i64 1, i64 id, i64 site]) rfl (by decide) rfl (FViews.reflL _ _ _) rfl rfl) (.cons (FView.refl _ _ _) (.cons (FView.sl (l := [i64 firm, i64 part]) rfl (by decide) rfl (FViews.reflL _ _ _) rfl rfl) (.cons (FView.refl _ _ _) (.cons (FView.refl _ _ _) (.cons (FView.sl (l := [i64 vars, i64 refs]) rfl (by decide) rfl (FViews.reflL _ _ _) rfl rfl) (FViews.reflL _ _ _))))))) rfl rfl) .nil) rfl rfl (.nil _) (.nil _) rfl (fun _ h => False.elim h) rfl (A.ren_free _ _ rfl) rfl ?_
  (repeat (first | refine K4 ?_ | refine RG.dd ?_ | refine S6 ?_))
  exact ⟨⟨_, rfl, rfl⟩, rfl, .nil _⟩
/-- What bytes says of so many words. -/
def bytesA (l : List Int) : A := if 100000 < l.length then .tup [.ro 0 [], i64 2] else .tup [.ro (8 * l.length) (ints .u8 (bsL l)), i64 0]
theorem u8_shr (x : Int) (j : Nat) (hj : j < 8) : some (A.val (.int .u8 (IntKind.u8.wrap (x.fdiv (2 ^ min ((8 : Int) * (j : Int)).toNat 64))))) = some (A.val (.int .u8 ((uns x / 256 ^ j % 256 : Nat) : Int))) := by
  have e : min ((8 : Int) * (j : Int)).toNat 64 = 8 * j := by omega
  rw [e]
  have := shr_byte x j hj
  rw [← this]
  rfl
theorem byW_take (x : Int) (j : Nat) (hj : j < 8) : (byW x).take (j + 1) = (byW x).take j ++ [((uns x / 256 ^ j % 256 : Nat) : Int)] := by
  unfold byW
  rw [← List.map_take, encN_take 8 _ j hj, List.map_append, ← List.map_take]; rfl
theorem bsL_take (l : List Int) (i : Nat) (x : Int) (h : l[i]? = some x) : bsL (l.take (i + 1)) = bsL (l.take i) ++ byW x := by
  induction l generalizing i with
  | nil => simp at h
  | cons y l ih =>
    cases i with
    | zero => simp only [List.getElem?_cons_zero, Option.some.injEq] at h; subst h; simp [bsL]
    | succ i => simp only [List.take_succ_cons, bsL]; rw [ih i (by simpa using h), List.append_assoc]
theorem icl_eq : ∀ l : List Int, flC icl l = ints .i64 l
  | [] => rfl
  | x :: l => by rw [flC, icl_eq l]; rfl
theorem ints_cut (xs : List Int) (i : Nat) (x : Int) (h : xs[i]? = some x) (k : IntKind) : dropO (iNat (i : Int) * 1) (ints k xs) = some (.val (.int k x) :: ints k (xs.drop (i + 1))) := by
  have hi := (List.getElem?_eq_some_iff.1 h).1
  have := Go.Abs.ints_at (k := k) hi
  rw [List.getD_eq_getElem?_getD, h] at this
  exact this
set_option maxHeartbeats 8000000 in
theorem bytes_fc (l : List Int) (hB : l.length ≤ BW) : FC Try.prog ge 53 [rdi l] [] (bytesA l) [] NoP := by
  unfold BW at hB
  unfold bytesA
  by_cases hb : 100000 < l.length
  · rw [if_pos hb]
    refine FC.of_AW tok Try.func53 (by kernel_rfl) rfl Try.ntmps53 [] rfl rfl rfl ?_; intro w0 X0 Y f0 hI0 hX0
    (repeat (first | refine K4 ?_ | refine RG.d ?_ | refine S1 ?_ | refine S2 ?_))
    refine AW.condD rfl (fun _ => ?_) (fun k => absurd (show (100000 : Int) < (l.length : Int) by omega) k)
    (repeat (first | refine K4 ?_ | refine RG.d ?_ | refine S1 ?_ | refine S2 ?_))
    refine AW.sub (Sub.frz (ks := []) 2 rfl Frz.nil) ?_
    (repeat (first | refine S6 ?_))
    exact ⟨⟨_, rfl, rfl⟩, rfl, .nil _⟩
  rw [if_neg hb]
  obtain ⟨W, hW⟩ : ∃ W, W = bsL l := ⟨_, rfl⟩
  have hWl : 8 * l.length = W.length := by rw [hW, bsL_len]
  rw [hWl, ← hW]
  refine FC.of_AW tok Try.func53 (by kernel_rfl) rfl Try.ntmps53 [] rfl rfl rfl ?_; intro w0 X0 Y f0 hI0 hX0
  refine S1 ?_; (repeat (first | refine K4 ?_ | refine RG.d ?_ | refine S2 ?_))
  refine S1 ?_
  (repeat (first | refine K4 ?_ | refine RG.d ?_ | refine S1 ?_ | refine S2 ?_))
  refine AW.condD rfl (fun k => absurd (show 100000 < l.length by have : (100000 : Int) < (l.length : Int) := k; omega) hb) (fun _ => ?_)
  refine S3 ?_
  refine S1 ?_; (repeat (first | refine K4 ?_ | refine RG.d ?_ | refine S2 ?_))
  refine AW.sub (Sub.nil 4 1 rfl) ?_
  refine AW.seqJ (fun _ : Unit => ⟨put 4 (some (.ro W.length (ints .u8 W))) noE, noH, 0⟩) (fun _ => True) ?_ ?_
  · refine S1 ?_; (repeat (first | refine K4 ?_ | refine RG.d ?_ | refine S2 ?_ | refine S4 ?_))
    refine AW.loopS (fun p : Nat × List Int => ⟨put 4 (some (.sl 0 [] 1 0 p.2.length)) (put 11 (some (rdi l)) (put 12 (some (i64 (l.length : Int))) (put 13 (some (i64 (p.1 : Int))) noE))), hput 0 (.one (ints .u8 p.2)) noH, 1⟩)
      (fun p => p.1 ≤ l.length ∧ p.2 = bsL (l.take p.1)) (fun p => l.length - p.1) (0, []) ⟨Nat.zero_le _, by simp [bsL]⟩ (Sub.of (by repeat (first | exact SubE.no _ | refine SubE.put rfl ?_)) (by repeat (first | exact SubH.no _ | refine SubH.put rfl ?_)) rfl) ?_
    rintro ⟨i, U⟩ ⟨hi, hU⟩
    dsimp only at hi hU
    (repeat (first | refine K4 ?_ | refine RG.d ?_ | refine S1 ?_ | refine S2 ?_))
    refine AW.condD rfl (fun k => ?_) (fun k => ?_)
    rotate_left
    · have hi2 : i = l.length := by
        have : ¬ (i : Int) < (l.length : Int) := k
        omega
      rw [hi2, List.take_length, ← hW] at hU
      subst hU
      (repeat (first | refine S5 ?_))
      exact ⟨(), trivial, Sub.trans (Sub.frz (ks := [0]) 4 rfl (frzI rfl (by decide) rfl)) (Sub.down (by repeat (first | exact SubE.no _ | refine SubE.put rfl ?_)) (by repeat (first | exact SubH.no _ | refine SubH.put rfl ?_)) (by repeat (first | exact LtE.no _ | refine LtE.put rfl ?_)) (by repeat (first | exact LtH.no _ | refine LtH.put rfl rfl ?_)) rfl)⟩
    have hi2 : i < l.length := by
      have : (i : Int) < (l.length : Int) := k
      omega
    obtain ⟨x, hx⟩ : ∃ x, l[i]? = some x := ⟨_, List.getElem?_eq_getElem hi2⟩
    have hat := ints_cut l i x hx .i64
    have hU2 := bsL_take l i x hx
    have hUl : U.length = 8 * i := by rw [hU, bsL_len, List.length_take]; omega
    refine S3 ?_
    refine S1 ?_; (repeat (first | refine S4 ?_))
    refine S1 ?_
    refine S2 ?_
    refine RG.idx tok rfl rfl rfl rfl rfl rfl hat ⟨by omega, by omega⟩ rfl ?_
    (repeat (first | refine K4 ?_ | refine L1 ?_ | refine RG.d ?_))
    refine S1 ?_; (repeat (first | refine K4 ?_ | refine RG.d ?_ | refine S2 ?_ | refine S4 ?_))
    · refine AW.loopS (fun k : Nat => ⟨put 4 (some (.sl 0 [] 1 0 (U ++ (byW x).take k).length)) (put 6 (some (i64 x)) (put 11 (some (rdi l)) (put 12 (some (i64 (l.length : Int))) (put 13 (some (i64 (i : Int))) (put 17 (some (i64 (k : Int))) noE))))), hput 0 (.one (ints .u8 (U ++ (byW x).take k))) noH, 1⟩) (fun k => k ≤ 8) (fun k => 8 - k) 0 (by omega) (by dsimp only; rw [List.take_zero, List.append_nil]; exact Sub.of (by repeat (first | exact SubE.no _ | refine SubE.put rfl ?_)) (by repeat (first | exact SubH.no _ | refine SubH.put rfl ?_)) rfl) ?_
      intro k hk
      (repeat (first | refine K4 ?_ | refine RG.d ?_ | refine S1 ?_ | refine S2 ?_))
      refine AW.condD rfl (fun h => ?_) (fun h => ?_)
      rotate_left
      · have h' : ¬ (k : Int) < 8 := h
        rw [List.take_of_length_le (by rw [byW_len]; omega)]
        (repeat (first | refine K2 ?_ | refine K4 ?_ | refine RG.d ?_ | refine S2 ?_ | refine S5 ?_))
        exact ⟨(i + 1, U ++ byW x), ⟨by dsimp only; omega, by dsimp only; rw [hU2, hU]⟩, by dsimp only; omega, Sub.of (by repeat (first | exact SubE.no _ | refine SubE.put rfl ?_)) (by repeat (first | exact SubH.no _ | refine SubH.put rfl ?_)) rfl⟩
      have hk2 : k < 8 := by
        have h' : (k : Int) < 8 := h
        omega
      have hlen : (U ++ (byW x).take k).length = 8 * i + k := by rw [List.length_append, hUl, List.length_take, byW_len]; omega
      refine S3 ?_
      repeat (first | refine S1 ?_ | refine S4 ?_)
      refine S2 ?_
      (first | refine K4 ?_)
      (first | refine K4 ?_)
      (first | refine RG.d ?_ | refine RG.dd ?_)
      refine S2 ?_
      (first | refine K4 ?_)
      (first | refine K4 ?_)
      (first | refine K4 ?_)
      (first | refine K2 ?_)
      (first | refine K5 ?_)
      refine RG.val tok rfl rfl rfl trivial rfl (u8_shr x k hk2) ?_
      (repeat (first | refine L2 ?_))
      obtain ⟨b, hb⟩ : ∃ b : Int, b = ((uns x / 256 ^ k % 256 : Nat) : Int) := ⟨_, rfl⟩
      have ht := byW_take x k hk2
      rw [← hb] at ht ⊢
      refine RG.append tok rfl rfl rfl rfl rfl rfl rfl rfl (n1 := (U ++ (byW x).take k).length) (c := ints .u8 (U ++ (byW x).take k)) (ks := [0]) rfl (m := 1) (l := ints .u8 [b]) (ks' := [1]) rfl rfl (by rw [ints_length]; omega) (ints_cell _ _) (by omega) (by omega) rfl (c' := ints .u8 (U ++ (byW x).take (k + 1))) (by rw [ints_take _ _ _ rfl, ← ints_append, ht, List.append_assoc]) ?_
      rw [show (U ++ (byW x).take k).length + 1 = (U ++ (byW x).take (k + 1)).length by rw [ht]; simp only [List.length_append, List.length_cons, List.length_nil]; omega]
      (repeat (first | refine K2 ?_ | refine K4 ?_ | refine RG.d ?_ | refine S2 ?_))
      refine ⟨k + 1, by show k + 1 ≤ 8; omega, by show 8 - (k + 1) < 8 - k; omega, Sub.renB (fun a => a + 2) ?_ ?_ (fun a b h => by simpa using h) (fun a ha => ?_) (fun a ha => absurd ha (Nat.not_lt_zero _))⟩
      · exact SubEr.put rfl (SubEr.put rfl (SubEr.put rfl (SubEr.put rfl (SubEr.put rfl (SubEr.put rfl (SubEr.no _ _))))))
      · exact SubHr.put rfl (ints_free _ _ _) (SubHr.no _ _)
      · have ha : 1 ≤ a := ha
        show 3 ≤ a + 2
        omega
  intro _ _
  (repeat (first | refine K4 ?_ | refine RG.d ?_ | refine S1 ?_ | refine S2 ?_ | refine S6 ?_))
  exact ⟨⟨_, rfl, rfl⟩, rfl, .nil _⟩
end Go.Proofs.Ytmfccaidgaelcaa
