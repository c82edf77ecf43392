/- The maker of programs: a call. No conditions. -/
import Derived.Test.YtifeioddiddnoaaGreatDoorEc38
set_option linter.unusedVariables false
set_option linter.unusedSimpArgs false
namespace Go.Proofs.YtifeioddiddnoaaGreatDoor
open Go.Abs Go Go.RowKit
set_option maxRecDepth 20000
def sigMa (k : Nat) : Nat := if k < 6 then k else k + 2
theorem sigMa_inj : ∀ a b, sigMa a = sigMa b → a = b := by
  intro a b h; unfold sigMa at h; repeat' split at h
  all_goals omega
theorem sigMa_hi (a : Nat) (ha : 7 ≤ a) : 9 ≤ sigMa a := by
  unfold sigMa; repeat' split
  all_goals omega
theorem sigMa_q (a : Nat) (ha : a < 3) : sigMa a = a := by
  unfold sigMa; repeat' split
  all_goals omega
def sigMb (k : Nat) : Nat := if k < 7 then k else k + 2
theorem sigMb_inj : ∀ a b, sigMb a = sigMb b → a = b := by
  intro a b h; unfold sigMb at h; repeat' split at h
  all_goals omega
theorem sigMb_hi (a : Nat) (ha : 8 ≤ a) : 10 ≤ sigMb a := by
  unfold sigMb; repeat' split
  all_goals omega
theorem sigMb_q (a : Nat) (ha : a < 3) : sigMb a = a := by
  unfold sigMb; repeat' split
  all_goals omega

def gI (xs : List Nat) : List A := ints .i64 (xs.map fun x : Nat => (x : Int))
theorem gI_len (xs : List Nat) : (gI xs).length = xs.length * 1 := by simp [gI, ints]
theorem gI_free (xs : List Nat) : ltL 0 (gI xs) = true := ltL_map (fun _ => rfl) _
theorem gI_app (xs : List Nat) (x : Nat) : gI (xs ++ [x]) = gI xs ++ [i64 (x : Int)] := by simp [gI, ints]
theorem exC_len (l : List Ex) : (exC l).length = l.length * 4 := by rw [exC_eq]; exact flC_len Ex.cl_len l
theorem exC_free (l : List Ex) : ltL 0 (exC l) = true := by rw [exC_eq]; exact flC_free Ex.cl_free l
theorem exC_app (l m : List Ex) : exC (l ++ m) = exC l ++ exC m := by rw [exC_eq, exC_eq, exC_eq, flC_append]
theorem ldA_row {L : List (Nat × TI)} {t : TypeId} {k3 : TK} {st bs : Nat} {z : List A} (ht : Abs.look L t = some ⟨k3, st, bs, true, z⟩) {h : Nat → Reg} {k off : Nat} {c c1 l : List A} (hk : h k = .one c) (hd : dropO off c = some c1) (hl : ldO st c1 = some l) : ldA L t (.ptr k [] off) h = some (.agg l, [k]) := by
  simp only [ldA, ht, hk, Reg.get, hd, hl, packA]
set_option maxHeartbeats 16000000 in
theorem call_fc (E : Ev) (ok : E.ok) (s : Ms) (hs : s.t + 40 ≤ 2000000) : FC Tryz.prog ge 152 [.ptr 0 [] 0] [.one (mC E s), .one (hsC E), .one (dsC E)] ((.agg (gCall E s).1.cl)) [.one (mC E (gCall E s).2), .one (hsC E), .one (dsC E)] NoP := by
  have e1 : eT 1 = 6 := rfl
  unfold gCall
  dsimp only
  have c1 := site_fc E s (by omega)
  have t1 := gS_ct s
  obtain ⟨q1, h1⟩ : ∃ q, q = gS s := ⟨_, rfl⟩
  rw [← h1] at c1 t1  ⊢
  obtain ⟨v1, s1⟩ := q1
  dsimp only at c1 t1  ⊢
  clear h1
  have c2 := target_fc E ok s1 (by have := t1.t; omega)
  have t2 := gT_ct (E := E) s1
  obtain ⟨q2, h2⟩ : ∃ q, q = gT E s1 := ⟨_, rfl⟩
  rw [← h2] at c2 t2  ⊢
  obtain ⟨v2, s2⟩ := q2
  dsimp only at c2 t2  ⊢
  clear h2
  by_cases h0 : E.hs.length = 0
  · rw [if_pos (.inl h0)]
    refine FC.of_AW tok Tryz.func152 (by kernel_rfl) rfl Tryz.ntmps152 [] rfl rfl rfl ?_; intro w0 X0 Y f0 hI0 hX0
    (repeat (first | refine KM c1 ?_ | refine KM c2 ?_ | refine RG.call rfl rfl rfl rfl (num_fc _) [] rfl rfl rfl rfl (.nil _) (.nil _) (fun _ h => False.elim h) rfl (A.ren_free _ _ (by first | exact rfl | exact Ex.agg_free _ | exact Co.agg_free _)) rfl ?_ | refine K4 ?_ | refine L1 ?_ | refine L2 ?_ | refine L3 ?_ | refine RG.d ?_ | refine S1 ?_ | refine S2 ?_))
    refine RG.put 20 rfl (v' := .val (.bool true)) (by rw [decide_eq_true (show (E.hs.length : Int) = 0 by omega)]) ?_
    (repeat (first | refine K1 ?_ | refine K4 ?_ | refine L1 ?_ | refine L3 ?_ | refine RG.d ?_ | refine S1 ?_ | refine S2 ?_ | refine S7 ?_))
    refine AW.sub (Sub.frzH (ks := []) (c' := [i64 (v1 : Int), i64 1, i64 (v2 : Int), i64 (0 : Int), i64 0, i64 1, i64 0, i64 1, .ro 0 [], i64 0, i64 0, i64 0, .ro 0 [], i64 0, .ro 0 [], .ro 0 [], .ro 0 [], .ro 0 [], .ro 0 [], .ro 0 []]) 3 rfl List.not_mem_nil (by repeat (first | exact Frzs.nil | refine Frzs.cons (Frz.wk (Frz.refl _) Wk.nil) ?_ | refine Frzs.cons (Frz.refl _) ?_))) ?_
    (repeat (first | refine S6 ?_))
    exact ⟨⟨_, rfl, rfl⟩, rfl, .cons rfl (.one rfl) (Reg.lt_one rfl) ⟨[], _, rfl⟩ (.one rfl (hsC_free _) (.one rfl (dsC_free _) (.nil _)))⟩
  by_cases hd : 2 ≤ s2.done
  · rw [if_pos (.inr hd)]
    refine FC.of_AW tok Tryz.func152 (by kernel_rfl) rfl Tryz.ntmps152 [] rfl rfl rfl ?_; intro w0 X0 Y f0 hI0 hX0
    (repeat (first | refine KM c1 ?_ | refine KM c2 ?_ | refine RG.call rfl rfl rfl rfl (num_fc _) [] rfl rfl rfl rfl (.nil _) (.nil _) (fun _ h => False.elim h) rfl (A.ren_free _ _ (by first | exact rfl | exact Ex.agg_free _ | exact Co.agg_free _)) rfl ?_ | refine K4 ?_ | refine L1 ?_ | refine L2 ?_ | refine L3 ?_ | refine RG.d ?_ | refine S1 ?_ | refine S2 ?_))
    refine RG.put 20 rfl (v' := .val (.bool false)) (by rw [decide_eq_false (show ¬ (E.hs.length : Int) = 0 by omega)]) ?_
    (repeat (first | refine K4 ?_ | refine L1 ?_))
    refine RG.put 27 rfl (v' := .val (.bool true)) (by rw [decide_eq_true (show (s2.done : Int) ≥ 2 by omega)]) ?_
    (repeat (first | refine K1 ?_ | refine K4 ?_ | refine L1 ?_ | refine L3 ?_ | refine RG.d ?_ | refine S1 ?_ | refine S2 ?_ | refine S7 ?_))
    refine AW.sub (Sub.frzH (ks := []) (c' := [i64 (v1 : Int), i64 1, i64 (v2 : Int), i64 (0 : Int), i64 0, i64 1, i64 0, i64 1, .ro 0 [], i64 0, i64 0, i64 0, .ro 0 [], i64 0, .ro 0 [], .ro 0 [], .ro 0 [], .ro 0 [], .ro 0 [], .ro 0 []]) 3 rfl List.not_mem_nil (by repeat (first | exact Frzs.nil | refine Frzs.cons (Frz.wk (Frz.refl _) Wk.nil) ?_ | refine Frzs.cons (Frz.refl _) ?_))) ?_
    (repeat (first | refine S6 ?_))
    exact ⟨⟨_, rfl, rfl⟩, rfl, .cons rfl (.one rfl) (Reg.lt_one rfl) ⟨[], _, rfl⟩ (.one rfl (hsC_free _) (.one rfl (dsC_free _) (.nil _)))⟩
  rw [if_neg (fun h => h.elim h0 hd)]
  have hl := ok.hsl
  obtain ⟨nh, hnh⟩ : ∃ nh, nh = E.hs.length := ⟨_, rfl⟩
  have l3 := gN_lt (E := E) (n := E.hs.length) s2 (by omega)
  have c3 := gn_fc E ok.L ok.Ll E.hs.length (by omega) (by omega) s2 (by have := t1.t; have := t2.t; omega)
  have t3 := gN_ct (E := E) E.hs.length s2
  obtain ⟨q3, h3⟩ : ∃ q, q = gN E E.hs.length s2 := ⟨_, rfl⟩
  rw [← h3] at c3 t3 l3 ⊢
  obtain ⟨v3, s3⟩ := q3
  dsimp only at c3 t3 l3 ⊢
  clear h3
  obtain ⟨h, hh⟩ : ∃ h, E.hs[v3]? = some h := ⟨_, List.getElem?_eq_getElem (by omega)⟩
  have hat := flC_at Hd.cl_len E.hs v3 h hh
  have hlen := ok.hs h (List.mem_of_getElem? hh)
  rw [show E.hs.getD v3 zHd = h by rw [List.getD_eq_getElem?_getD, hh]; rfl]
  clear hh
  obtain ⟨hid, hfirm, hpart, hpar, hgiv⟩ := h
  dsimp only at hlen ⊢
  have ctA := gRep_ct (f := gE E 1) (gE_ct 1) hpar.length [] { s3 with done := s3.done + 1 }
  obtain ⟨R, hR⟩ : ∃ R, R = gRep (gE E 1) hpar.length [] { s3 with done := s3.done + 1 } := ⟨_, rfl⟩
  rw [← hR] at ctA ⊢
  obtain ⟨ags, s4⟩ := R
  dsimp only at ctA ⊢
  have ctB := gRep_ct (f := gN E 2) (gN_ct 2) hgiv.length [] s4
  obtain ⟨R2, hR2⟩ : ∃ R2, R2 = gRep (gN E 2) hgiv.length [] s4 := ⟨_, rfl⟩
  rw [← hR2] at ctB ⊢
  obtain ⟨pts, s5⟩ := R2
  dsimp only at ctB ⊢
  have hdd : s3.done ≤ 1 := by have := t3.done; omega
  have hs3 : s3.t + 37 ≤ 2000000 := by have := t1.t; have := t2.t; have := t3.t; omega
  have hs4 : s4.t + 1 ≤ 2000000 := by
    have h1 : s4.t ≤ s3.t + hpar.length * 6 := ctA.t
    omega
  refine FC.of_AW tok Tryz.func152 (by kernel_rfl) rfl Tryz.ntmps152 [] rfl rfl rfl ?_; intro w0 X0 Y f0 hI0 hX0
  (repeat (first | refine KM c1 ?_ | refine KM c2 ?_ | refine RG.call rfl rfl rfl rfl (num_fc _) [] rfl rfl rfl rfl (.nil _) (.nil _) (fun _ h => False.elim h) rfl (A.ren_free _ _ (by first | exact rfl | exact Ex.agg_free _ | exact Co.agg_free _)) rfl ?_ | refine K4 ?_ | refine L1 ?_ | refine L2 ?_ | refine L3 ?_ | refine RG.d ?_ | refine S1 ?_ | refine S2 ?_))
  refine RG.put 20 rfl (v' := .val (.bool false)) (by rw [decide_eq_false (show ¬ (E.hs.length : Int) = 0 by omega)]) ?_
  (repeat (first | refine K4 ?_ | refine L1 ?_))
  refine RG.put 27 rfl (v' := .val (.bool false)) (by rw [decide_eq_false (show ¬ (s2.done : Int) ≥ 2 by omega)]) ?_
  (repeat (first | refine KM c3 ?_ | refine L4 ?_ | refine K1 ?_ | refine K4 ?_ | refine K5 ?_ | refine RG.d ?_ | refine S1 ?_ | refine S2 ?_ | refine S3 ?_ | refine S8 ?_))
  refine RG.load tok rfl rfl rfl (ldA_row rfl rfl (by rw [show 0 + iNat (v3 : Int) * 5 = v3 * 5 from Nat.zero_add _]; exact hat) rfl) rfl rfl ?_
  (repeat (first | refine L4 ?_ | refine RG.dS ?_ | refine K1 ?_ | refine K2 ?_ | refine K4 ?_ | refine L2 ?_ | refine L3 ?_ | refine RG.d ?_ | refine S1 ?_ | refine S2 ?_ | refine S3 ?_ | refine S4 ?_ | refine S8 ?_))
  refine AW.sub (Sub.nilH 4 16 4 rfl rfl rfl rfl) ?_
  refine AW.loopS (fun q : Nat × List Ex × Ms => ⟨put 0 (some (.ptr 0 [] 0)) (put 2 (some (.ptr 3 [] 0)) (put 3 (some (.ptr 4 [] 0)) (put 4 (some (.ptr 5 [] 0)) (put 5 (some (i64 (q.2.1.length : Int))) noE)))), hput 0 (.one (mC E q.2.2)) (hput 1 (.one (hsC E)) (hput 2 (.one (dsC E)) (hput 3 (.one ([i64 0, i64 0, i64 0, i64 0, i64 0, i64 0, i64 0, i64 0, nilA, i64 0, i64 0, i64 0, nilA, i64 0, nilA, nilA, nilA, nilA, nilA, nilA])) (hput 4 (.one ([i64 (v1 : Int), i64 13, i64 (v2 : Int), i64 hid, i64 0, i64 0, i64 0, i64 0, nilA, i64 0, i64 0, i64 0, nilA, i64 0, nilA, nilA, .sl 6 [] 4 0 q.2.1.length, nilA, nilA, nilA])) (hput 5 (.one ([i64 hid, i64 hfirm, i64 hpart, .ro hpar.length (flC Rg.cl hpar), .ro hgiv.length (flC Rg.cl hgiv)])) (hput 6 (.one (exC q.2.1)) noH)))))), 7⟩) (fun q => q.1 + q.2.1.length = hpar.length ∧ q.2.2.t + q.1 * 6 + 1 ≤ 2000000 ∧ gRep (gE E 1) q.1 q.2.1 q.2.2 = (ags, s4)) (fun q => q.1)
    (hpar.length, [], ⟨s3.a, s3.site, s3.left, s3.loop, s3.done + 1⟩) ⟨Nat.add_zero _, by show s3.t + hpar.length * 6 + 1 ≤ 2000000; omega, hR.symm⟩ (Sub.of (by repeat (first | exact SubE.no _ | refine SubE.put rfl ?_)) (by repeat (first | exact SubH.no _ | refine SubH.put rfl ?_)) rfl) ?_
  rintro ⟨j, xs, t⟩ ⟨hj, ht, hRj⟩
  dsimp only at hj ht hRj
  cases j with
  | succ j =>
    have hRj : gRep (gE E 1) j (xs ++ [(gE E 1 t).1]) (gE E 1 t).2 = (ags, s4) := hRj
    have cx := expr_fc E ok 1 t (by decide) (by omega)
    have tx := gE_ct (E := E) 1 t
    obtain ⟨w, hw⟩ : ∃ w, w = gE E 1 t := ⟨_, rfl⟩
    rw [← hw] at cx tx hRj
    obtain ⟨⟨x1, x2, x3, x4⟩, t'⟩ := w
    dsimp only at cx tx hRj
    have hfl := exC_len xs
    have happ := exC_app xs [.mk x1 x2 x3 x4]
    obtain ⟨Z, hZ⟩ : ∃ Z, Z = xs ++ [Ex.mk x1 x2 x3 x4] := ⟨_, rfl⟩
    have lZ : xs.length + 1 = Z.length := by rw [hZ, List.length_append]; rfl
    rw [← hZ] at happ hRj
    have htt := tx.t
    (repeat (first | refine K4 ?_ | refine L1 ?_ | refine RG.d ?_ | refine S1 ?_ | refine S2 ?_))
    refine AW.condD rfl (fun _ => ?_) (fun k => absurd (show (xs.length : Int) < (hpar.length : Int) by omega) k)
    (repeat (first | refine KM cx ?_ | refine K4 ?_ | refine L1 ?_ | refine L2 ?_ | refine RG.d ?_ | refine S1 ?_ | refine S2 ?_ | refine S3 ?_ | refine S4 ?_ | refine S8 ?_))
    refine RG.append tok rfl rfl rfl rfl rfl rfl rfl rfl (n1 := xs.length) (c := exC xs) (ks := [6]) rfl (m := 1) (ks' := [7]) rfl rfl (by omega) rfl (by omega) (by omega) rfl (c' := exC Z) (by rw [List.take_of_length_le (by omega), happ]; rfl) ?_
    rw [lZ]
    (repeat (first | refine K2 ?_ | refine K4 ?_ | refine L3 ?_ | refine RG.d ?_ | refine RG.dd ?_ | refine S2 ?_))
    refine ⟨(j, Z, t'), ⟨by dsimp only; omega, by dsimp only; omega, hRj⟩, Nat.lt_succ_self _, Sub.renB sigMa ?_ ?_ sigMa_inj (fun a ha => sigMa_hi a ha) (fun a ha => sigMa_q a ha)⟩
    · repeat (first | exact SubEr.no _ _ | refine SubEr.put rfl ?_ | refine SubEr.put (show some (i64 ((xs.length : Int) + 1)) = some (i64 ((Z.length : Nat) : Int)) by rw [← lZ]; rfl) ?_)
    · repeat (first | exact SubHr.no _ _ | refine SubHr.put rfl rfl ?_ | refine SubHr.put rfl (hsC_free _) ?_ | refine SubHr.put rfl (dsC_free _) ?_ | refine SubHr.put rfl (exC_free _) ?_ | refine SubHr.putR rfl rfl ?_)
  | zero =>
    obtain ⟨rfl, rfl⟩ : xs = ags ∧ t = s4 := Prod.mk.inj hRj
    have hxl := exC_len xs
    have hxf := exC_free xs
    (repeat (first | refine K4 ?_ | refine L1 ?_ | refine RG.d ?_ | refine S1 ?_ | refine S2 ?_))
    refine AW.condD rfl (fun k => absurd (show (xs.length : Int) < (hpar.length : Int) from k) (by omega)) (fun _ => ?_)
    refine AW.sub (Sub.frzH (ks := [6]) (c' := [i64 (v1 : Int), i64 13, i64 (v2 : Int), i64 hid, i64 0, i64 0, i64 0, i64 0, nilA, i64 0, i64 0, i64 0, nilA, i64 0, nilA, nilA, .ro xs.length (exC xs), nilA, nilA, nilA]) 4 rfl (by decide) (by repeat (first | exact Frzs.nil | refine Frzs.cons (frzC (st := 4) (n := xs.length) rfl (.head _) hxl hxf) ?_ | refine Frzs.cons (Frz.refl _) ?_))) ?_
    (repeat (first | refine K4 ?_ | refine RG.d ?_ | refine S1 ?_ | refine S2 ?_ | refine S4 ?_ | refine S5 ?_))
    refine AW.sub (Sub.nilH 4 17 1 rfl rfl rfl rfl) ?_
    refine AW.loopS (fun q : Nat × List Nat × Ms => ⟨put 0 (some (.ptr 0 [] 0)) (put 2 (some (.ptr 3 [] 0)) (put 3 (some (.ptr 4 [] 0)) (put 4 (some (.ptr 5 [] 0)) (put 6 (some (i64 (q.2.1.length : Int))) noE)))), hput 0 (.one (mC E q.2.2)) (hput 1 (.one (hsC E)) (hput 2 (.one (dsC E)) (hput 3 (.one ([i64 0, i64 0, i64 0, i64 0, i64 0, i64 0, i64 0, i64 0, nilA, i64 0, i64 0, i64 0, nilA, i64 0, nilA, nilA, nilA, nilA, nilA, nilA])) (hput 4 (.one ([i64 (v1 : Int), i64 13, i64 (v2 : Int), i64 hid, i64 0, i64 0, i64 0, i64 0, nilA, i64 0, i64 0, i64 0, nilA, i64 0, nilA, nilA, .ro xs.length (exC xs), .sl 7 [] 1 0 (q.2.1.map (fun x : Nat => (x : Int))).length, nilA, nilA])) (hput 5 (.one ([i64 hid, i64 hfirm, i64 hpart, .ro hpar.length (flC Rg.cl hpar), .ro hgiv.length (flC Rg.cl hgiv)])) (hput 7 (.one (gI q.2.1)) noH)))))), 8⟩) (fun q => q.1 + q.2.1.length = hgiv.length ∧ q.2.2.t + q.1 ≤ 2000000 ∧ gRep (gN E 2) q.1 q.2.1 q.2.2 = (pts, s5)) (fun q => q.1)
      (hgiv.length, [], t) ⟨Nat.add_zero _, by show t.t + hgiv.length ≤ 2000000; omega, hR2.symm⟩ (Sub.of (by repeat (first | exact SubE.no _ | refine SubE.put rfl ?_)) (by repeat (first | exact SubH.no _ | refine SubH.put rfl ?_)) rfl) ?_
    clear hj ht hRj hR hR2
    rintro ⟨j, ys, u⟩ ⟨hj, ht, hRj⟩
    dsimp only at hj ht hRj
    cases j with
    | succ j =>
      have hRj : gRep (gN E 2) j (ys ++ [(gN E 2 u).1]) (gN E 2 u).2 = (pts, s5) := hRj
      have cx := gn_fc E ok.L ok.Ll 2 (by decide) (by decide) u (by omega)
      have tx := gN_ct (E := E) 2 u
      obtain ⟨w, hw⟩ : ∃ w, w = gN E 2 u := ⟨_, rfl⟩
      rw [← hw] at cx tx hRj
      obtain ⟨y, u'⟩ := w
      dsimp only at cx tx hRj
      have hfl := gI_len ys
      have happ := gI_app ys y
      obtain ⟨Z, hZ⟩ : ∃ Z, Z = ys ++ [y] := ⟨_, rfl⟩
      have lZ2 : ys.length + 1 = Z.length := by rw [hZ, List.length_append]; rfl
      have lZ : (ys.map (fun x : Nat => (x : Int))).length + 1 = (Z.map (fun x : Nat => (x : Int))).length := by rw [List.length_map, List.length_map]; exact lZ2
      have hfm : (ys.map (fun x : Nat => (x : Int))).length = ys.length := List.length_map _
      rw [← hZ] at happ hRj
      have htt := tx.t
      (repeat (first | refine K4 ?_ | refine L1 ?_ | refine RG.d ?_ | refine S1 ?_ | refine S2 ?_))
      refine AW.condD rfl (fun _ => ?_) (fun k => absurd (show (ys.length : Int) < (hgiv.length : Int) by omega) k)
      (repeat (first | refine KM cx ?_ | refine K4 ?_ | refine L1 ?_ | refine L2 ?_ | refine S1 ?_ | refine S2 ?_ | refine S3 ?_ | refine S4 ?_))
      refine RG.append tok rfl rfl rfl rfl rfl rfl rfl rfl (n1 := (ys.map (fun x : Nat => (x : Int))).length) (c := gI ys) (ks := [7]) rfl (m := 1) (ks' := [8]) rfl rfl (by omega) rfl (by omega) (by omega) rfl (c' := gI Z) (by rw [List.take_of_length_le (by omega), happ]; rfl) ?_
      rw [lZ]
      (repeat (first | refine K2 ?_ | refine K4 ?_ | refine L3 ?_ | refine RG.d ?_ | refine RG.dd ?_ | refine S2 ?_))
      refine ⟨(j, Z, u'), ⟨by dsimp only; omega, by dsimp only; omega, hRj⟩, Nat.lt_succ_self _, Sub.renB sigMb ?_ ?_ sigMb_inj (fun a ha => sigMb_hi a ha) (fun a ha => sigMb_q a ha)⟩
      · repeat (first | exact SubEr.no _ _ | refine SubEr.put rfl ?_ | refine SubEr.put (show some (i64 ((ys.length : Int) + 1)) = some (i64 ((Z.length : Nat) : Int)) by rw [← lZ2]; rfl) ?_)
      · repeat (first | exact SubHr.no _ _ | refine SubHr.put rfl rfl ?_ | refine SubHr.put rfl (hsC_free _) ?_ | refine SubHr.put rfl (dsC_free _) ?_ | refine SubHr.put rfl (gI_free _) ?_ | refine SubHr.putR rfl rfl ?_)
    | zero =>
      obtain ⟨rfl, rfl⟩ : ys = pts ∧ u = s5 := Prod.mk.inj hRj
      have hyl : (gI ys).length = (ys.map (fun x : Nat => (x : Int))).length * 1 := by simp [gI, ints]
      have hyf := gI_free ys
      (repeat (first | refine K4 ?_ | refine L1 ?_ | refine RG.d ?_ | refine S1 ?_ | refine S2 ?_))
      refine AW.condD rfl (fun k => absurd (show (ys.length : Int) < (hgiv.length : Int) from k) (by omega)) (fun _ => ?_)
      refine AW.sub (Sub.frzH (ks := [7]) (c' := [i64 (v1 : Int), i64 13, i64 (v2 : Int), i64 hid, i64 0, i64 0, i64 0, i64 0, .ro 0 [], i64 0, i64 0, i64 0, .ro 0 [], i64 0, .ro 0 [], .ro 0 [], .ro xs.length (exC xs), .ro (ys.map (fun x : Nat => (x : Int))).length (gI ys), .ro 0 [], .ro 0 []]) 4 rfl (by decide) (by repeat (first | exact Frzs.nil | refine Frzs.cons (frzC (st := 1) (n := (ys.map (fun x : Nat => (x : Int))).length) rfl (.head _) hyl hyf) ?_ | refine Frzs.cons (Frz.wk (Frz.refl _) Wk.nil) ?_ | refine Frzs.cons (Frz.refl _) ?_))) ?_
      (repeat (first | refine L1 ?_ | refine L3 ?_ | refine RG.d ?_ | refine S1 ?_ | refine S2 ?_ | refine S5 ?_ | refine S6 ?_))
      exact ⟨⟨_, rfl, rfl⟩, rfl, .cons rfl (.one rfl) (Reg.lt_one rfl) ⟨[], _, rfl⟩ (.one rfl (hsC_free _) (.one rfl (dsC_free _) (.nil _)))⟩
end Go.Proofs.YtifeioddiddnoaaGreatDoor
