/- The maker of programs: a definition. No conditions. -/
import Derived.Test.YtifeioddiddnoaaGreatDoorEc42
import Derived.Test.YtifeioddiddnoaaGreatDoorAbsE
set_option linter.unusedVariables false
set_option linter.unusedSimpArgs false
namespace Go.Proofs.YtifeioddiddnoaaGreatDoor
open Go.Abs Go Go.RowKit
set_option maxRecDepth 20000
/-- The maker's cells behind a definition. -/
def mE (E : Ev) (s : Ms) : List A := [.ro E.L.length (ints .u8 E.L), i64 (s.a : Int), gA1, gA2, gA3, gA4, i64 3, i64 3, i64 2, .sl 3 [] 5 0 E.hs.length, .sl 4 [] 12 0 E.ds.length, nilA,
  i64 E.D.id, i64 E.D.site, strA (unb E.D.name), i64 E.D.firm, i64 E.D.part, .ro E.D.params.length (flC Rg.cl E.D.params), .ro E.D.given.length (flC Rg.cl E.D.given), i64 E.D.vars, i64 E.D.refs, .ro E.D.arrays.length (flC Ar.cl E.D.arrays), i64 E.D.budget, .ro E.D.body.length (flC Sm.cl E.D.body),
  i64 (s.site : Int), i64 (s.left : Int), i64 (s.loop : Int), i64 (s.done : Int), .val (.bool false)]
theorem nm_ok (id : Nat) (h : 11 ≤ id ∧ id ≤ 14) : ByteArray.extract ⟨#[97, 98, 99, 100, 101, 102, 103, 104]⟩ (iNat ((id : Int).tmod 8)) (iNat ((id : Int).tmod 8 + 1)) = unb [97 + ((id % 8 : Nat) : Int)] := by
  obtain rfl | rfl | rfl | rfl : id = 11 ∨ id = 12 ∨ id = 13 ∨ id = 14 := by omega
  all_goals rfl
theorem Frz.any {C : Ctx} {s : St} {ks : List Nat} {a : A} : Frz C s ks a .any := fun fr f act w hr v hv => by simp only [V]
theorem Frz.of_eq {C : Ctx} {s : St} {ks : List Nat} {a a' : A} (h : a = a') : Frz C s ks a a' := h ▸ Frz.refl a
def sigD (k : Nat) : Nat := if k < 4 then k else k + 2
theorem sigD_inj : ∀ a b, sigD a = sigD b → a = b := by
  intro a b h; unfold sigD at h; repeat' split at h
  all_goals omega
theorem sigD_hi (a : Nat) (ha : 5 ≤ a) : 7 ≤ sigD a := by
  unfold sigD; repeat' split
  all_goals omega
theorem sigD_q (a : Nat) (ha : a < 3) : sigD a = a := by
  unfold sigD; repeat' split
  all_goals omega
set_option maxHeartbeats 16000000 in
theorem mdef_fc (E : Ev) (k : EvOk E) (h4 : E.ds.length ≤ 3) (id : Nat) (hid : 11 ≤ id ∧ id ≤ 14) (th : Bool) (s : Ms) (hs : s.t ≤ 6000) (hlo : s.loop ≤ 100)
    (hst : ∀ D, Ev.ok { E with D := D } → ∀ (n : Nat) (s : Ms), n ≤ 1000000 → Rm s → s.loop + 2 ≤ 1000 → FC Tryz.prog ge 107 [.ptr 0 [] 0, i64 (n : Int), i64 ((2 : Nat) : Int)] [.one (mC { E with D := D } s), .one (hsC E), .one (dsC E)] (.ro (gSts { E with D := D } 2 n s).1.length (smC (gSts { E with D := D } 2 n s).1)) [.one (mC { E with D := D } (gSts { E with D := D } 2 n s).2), .one (hsC E), .one (dsC E)] NoP) :
    FC Tryz.prog ge 96 [.ptr 0 [] 0, i64 (id : Int), .val (.bool th)] [.one (mD E nilA s), .one (hsC E), .one (dsC E)] (.tup []) [.one (mE (evAdd E (gDef E id th s).1) (gDef E id th s).2), .gone, .gone, .one (hsC (evAdd E (gDef E id th s).1)), .one (dsC (evAdd E (gDef E id th s).1))] NoP := by
  obtain ⟨F, hF⟩ : ∃ F, F = gDef E id th s := ⟨_, rfl⟩
  rw [← hF]
  unfold gDef at hF
  dsimp only at hF
  have okG := gD5_ok E id th s
  have ctG := gD5_ct E id th s
  obtain ⟨G, hG⟩ : ∃ G, G = gD5 E id th s := ⟨_, rfl⟩
  rw [← hG] at hF okG ctG
  unfold gD5 at hG
  dsimp only at hG
  obtain ⟨r0, hr0⟩ : ∃ r, r = gD0 E id s := ⟨_, rfl⟩
  rw [← hr0] at hG
  unfold gD0 at hr0
  dsimp only at hr0
  have c1 := nxA_fc E k.L k.Ll 2 (by decide) (by decide) s (by omega)
  have t1 := gN_ct (E := E) 2 s
  obtain ⟨q1, h1⟩ : ∃ q, q = gN E 2 s := ⟨_, rfl⟩
  rw [← h1] at c1 t1 hr0
  obtain ⟨v1, s1⟩ := q1
  dsimp only at c1 t1 hr0
  clear h1
  have e1 := t1.t
  have c2 := nxA_fc E k.L k.Ll 6 (by decide) (by decide) s1 (by omega)
  have t2 := gN_ct (E := E) 6 s1
  obtain ⟨q1, h1⟩ : ∃ q, q = gN E 6 s1 := ⟨_, rfl⟩
  have l2 := gN_lt (E := E) (n := 6) s1 (by decide)
  rw [← h1] at c2 t2 hr0 l2
  obtain ⟨v2, s2⟩ := q1
  dsimp only at c2 t2 hr0 l2
  clear h1
  have e2 := t2.t
  have c3 := nxA_fc E k.L k.Ll 4 (by decide) (by decide) s2 (by omega)
  have t3 := gN_ct (E := E) 4 s2
  obtain ⟨q1, h1⟩ : ∃ q, q = gN E 4 s2 := ⟨_, rfl⟩
  have l3 := gN_lt (E := E) (n := 4) s2 (by decide)
  rw [← h1] at c3 t3 hr0 l3
  obtain ⟨v3, s3⟩ := q1
  dsimp only at c3 t3 hr0 l3
  clear h1
  have e3 := t3.t
  obtain ⟨bud, hb⟩ : ∃ b, b = budM.getD v3 0 := ⟨_, rfl⟩
  have hbat := flC_at (cl := icl) (st := 1) (fun _ => rfl) budM v3 bud (by rw [hb, List.getD_eq_getElem?_getD, List.getElem?_eq_getElem (show v3 < budM.length from l3)]; rfl)
  rw [← hb] at hr0
  clear hb
  obtain ⟨D0, hD0⟩ : ∃ D : Df, D = ⟨id, 0, [97 + ((id % 8 : Nat) : Int)], v1, ((v2 / 2 % 3 : Nat) : Int), [], [], 0, 0, [], bud, []⟩ := ⟨_, rfl⟩
  have htd : (v2 : Int).tdiv 2 = ((v2 / 2 : Nat) : Int) := Int.ofNat_tdiv v2 2 ▸ rfl
  have htm3 : ((v2 / 2 : Nat) : Int).tmod 3 = ((v2 / 2 % 3 : Nat) : Int) := Int.ofNat_tmod (v2 / 2) 3 ▸ rfl
  have htm : (id : Int).tmod 8 = ((id % 8 : Nat) : Int) := Int.ofNat_tmod id 8 ▸ rfl
  refine FC.of_AWG tok Tryz.func96 (by kernel_rfl) rfl Tryz.ntmps96 [6, 4] rfl rfl rfl ?_; intro w0 X0 Y f0 hI0 hX0
  (repeat (first | refine K1 ?_))
  refine S1 ?_
  refine S2 ?_
  (repeat (first | refine K2 ?_ | refine K4 ?_ | refine K5 ?_))
  refine RG.put 14 rfl (v' := i64 ((id : Int).tmod 8 + 1)) (by rw [htm]) ?_
  refine RG.val tok rfl rfl rfl ⟨by omega, by omega, by show (id : Int).tmod 8 + 1 ≤ (8 : Int); omega⟩ rfl rfl ?_
  refine RG.put 15 rfl (v' := strA (unb [97 + ((id % 8 : Nat) : Int)])) (by rw [nm_ok id hid]; rfl) ?_
  (repeat (first | refine KM c1 ?_ | refine KM c2 ?_ | refine KM c3 ?_ | refine K4 ?_ | refine K5 ?_ | refine L2 ?_))
  refine RG.load tok rfl rfl rfl (ldM_at (c := flC icl budM) rfl rfl (by rw [show 0 + iNat (v3 : Int) * 1 = v3 * 1 from Nat.zero_add _]; exact hbat)) rfl rfl ?_
  refine RG.put 21 rfl (v' := i64 ((v2 / 2 % 3 : Nat) : Int)) (by rw [htd, wrap_i64 (by omega), htm3]) ?_
  (repeat (first | refine K4 ?_ | refine L3 ?_ | refine RG.dd ?_))
  refine AW.sub (Sub.frzH (ks := [3]) (c' := mX { E with D := D0 } (hsA E) (dsA E) nilA nilA (arA { E with D := D0 }) s3) 0 rfl (by decide) (by rw [hD0]; repeat (first | exact Frzs.nil | refine Frzs.cons (Frz.wk (Frz.refl _) Wk.nil) ?_ | refine Frzs.cons (Frz.refl _) ?_))) ?_
  refine AW.sub (t := ⟨put 0 (some (.ptr 0 [] 0)) (put 1 (some (i64 (id : Int))) (put 2 (some (.val (.bool th))) noE)), hput 0 (.one (mX { E with D := D0 } (hsA E) (dsA E) nilA nilA (arA { E with D := D0 }) s3)) (hput 1 (.one (hsC E)) (hput 2 (.one (dsC E)) noH)), 3⟩) (Sub.down (by repeat (first | exact SubE.no _ | refine SubE.put rfl ?_)) (by repeat (first | exact SubH.no _ | refine SubH.put rfl ?_)) (by repeat (first | exact LtE.no _ | refine LtE.put rfl ?_)) (by repeat (first | exact LtH.no _ | refine LtH.put rfl rfl ?_ | refine LtH.put rfl (ltL_mono (Nat.zero_le _) _ (hsC_free E)) ?_ | refine LtH.put rfl (ltL_mono (Nat.zero_le _) _ (dsC_free E)) ?_)) rfl) ?_
  have gEE : ∀ D n s, gN { E with D := D } n s = gN E n s := fun _ _ _ => rfl
  have c4 := nxE_fc { E with D := D0 } k.L k.Ll 2 (by decide) (by decide) s3 (by omega)
  rw [gEE] at c4
  have t4 := gN_ct (E := E) 2 s3
  obtain ⟨q1, h1⟩ : ∃ q, q = gN E 2 s3 := ⟨_, rfl⟩
  rw [← h1] at c4 t4  hr0
  obtain ⟨v4, s4⟩ := q1
  dsimp only at c4 t4  hr0
  clear h1
  have e4 := t4.t
  refine AW.seqJ (α := Unit) (fun _ => ⟨put 0 (some (.ptr 0 [] 0)) (put 1 (some (i64 (id : Int))) (put 2 (some (.val (.bool th))) noE)), hput 0 (.one (mX { E with D := r0.1 } (hsA E) (dsA E) nilA nilA (arA { E with D := r0.1 }) r0.2)) (hput 1 (.one (hsC E)) (hput 2 (.one (dsC E)) noH)), 3⟩) (fun _ => True) ?_ (fun _ _ => ?_)
  · by_cases hz : v4 = 0
    · rw [if_pos hz] at hr0
      rw [hr0]
      (repeat (first | refine KM c4 ?_ | refine K4 ?_ | refine RG.d ?_ | refine S1 ?_ | refine S2 ?_))
      refine AW.condD rfl (fun _ => ?_) (fun kk => absurd (show (v4 : Int) = 0 by omega) kk)
      (repeat (first | refine K4 ?_ | refine L3 ?_ | refine RG.d ?_ | refine S2 ?_))
      subst hD0
      exact ⟨(), trivial, Sub.down (by repeat (first | exact SubE.no _ | refine SubE.put rfl ?_)) (by repeat (first | exact SubH.no _ | refine SubH.put rfl ?_)) (by repeat (first | exact LtE.no _ | refine LtE.put rfl ?_)) (by repeat (first | exact LtH.no _ | refine LtH.put rfl rfl ?_ | refine LtH.put rfl (ltL_mono (Nat.zero_le _) _ (hsC_free E)) ?_ | refine LtH.put rfl (ltL_mono (Nat.zero_le _) _ (dsC_free E)) ?_)) rfl⟩
    · rw [if_neg hz] at hr0
      rw [hr0]
      (repeat (first | refine KM c4 ?_ | refine K4 ?_ | refine RG.d ?_ | refine S1 ?_ | refine S2 ?_))
      refine AW.condD rfl (fun kk => absurd (show (v4 : Int) = 0 from kk) (by omega)) (fun _ => ?_)
      (repeat (first | refine S3 ?_))
      subst hD0
      exact ⟨(), trivial, Sub.down (by repeat (first | exact SubE.no _ | refine SubE.put rfl ?_)) (by repeat (first | exact SubH.no _ | refine SubH.put rfl ?_)) (by repeat (first | exact LtE.no _ | refine LtE.put rfl ?_)) (by repeat (first | exact LtH.no _ | refine LtH.put rfl rfl ?_ | refine LtH.put rfl (ltL_mono (Nat.zero_le _) _ (hsC_free E)) ?_ | refine LtH.put rfl (ltL_mono (Nat.zero_le _) _ (dsC_free E)) ?_)) rfl⟩
  have er0 : r0.2.t ≤ s.t + 4 := by rw [hr0]; show s4.t ≤ _; omega
  have hg0 : r0.1.given = [] := by rw [hr0]
  clear hr0 hD0 hbat htd htm3 htm
  obtain ⟨D, u⟩ := r0
  dsimp only at hG er0 hg0 ⊢
  obtain ⟨r1, hr1⟩ : ∃ r, r = gD1 E D th u := ⟨_, rfl⟩
  rw [← hr1] at hG
  unfold gD1 at hr1
  dsimp only at hr1
  have c5 := nxE_fc { E with D := D } k.L k.Ll 3 (by decide) (by decide) u (by omega)
  rw [gEE] at c5
  have t5 := gN_ct (E := E) 3 u
  have l5 := gN_lt (E := E) (n := 3) u (by decide)
  obtain ⟨q1, h1⟩ : ∃ q, q = gN E 3 u := ⟨_, rfl⟩
  rw [← h1] at c5 t5 l5 hr1
  obtain ⟨v5, s5⟩ := q1
  dsimp only at c5 t5 l5 hr1
  clear h1
  have e5 := t5.t

  obtain ⟨m, hm⟩ : ∃ m : Nat, m = if th = true then 0 else v5 := ⟨_, rfl⟩
  rw [← hm] at hr1
  obtain ⟨R, hR⟩ : ∃ R, R = gRep (gPr E) m [] s5 := ⟨_, rfl⟩
  rw [← hR] at hr1
  (repeat (first | refine KM c5 ?_))
  iterate 3 (refine S1 ?_; (repeat (first | refine K4 ?_ | refine L1 ?_ | refine L2 ?_ | refine RG.d ?_ | refine S2 ?_ | refine S3 ?_ | refine S8 ?_)))
  refine AW.seqJ (α := Unit) (fun _ => ⟨put 0 (some (.ptr 0 [] 0)) (put 1 (some (i64 (id : Int))) (put 2 (some (.val (.bool th))) noE)), hput 0 (.one (mC { E with D := r1.1 } r1.2)) (hput 1 (.one (hsC E)) (hput 2 (.one (dsC E)) noH)), 3⟩) (fun _ => True) ?_ (fun _ _ => ?_)
  · refine S1 ?_
    (repeat (first | refine KM c5 ?_ | refine K4 ?_ | refine RG.d ?_ | refine S2 ?_ | refine S4 ?_))
    refine AW.sub (Sub.nilH 0 17 3 rfl rfl rfl rfl) ?_
    refine AW.loopS (fun q : Nat × List Rg × Ms => ⟨put 0 (some (.ptr 0 [] 0)) (put 1 (some (i64 (id : Int))) (put 2 (some (.val (.bool th))) (put 6 (some (.sl 3 [] 3 0 4)) (put 7 (some (i64 (q.1 : Int))) noE)))), hput 0 (.one (mX { E with D := D } (hsA E) (dsA E) nilA (.sl 4 [] 3 0 q.2.1.length) (arA { E with D := D }) q.2.2)) (hput 1 (.one (hsC E)) (hput 2 (.one (dsC E)) (hput 3 (.one (flC Rg.cl rgsM)) (hput 4 (.one (flC Rg.cl q.2.1)) noH)))), 5⟩) (fun q => gRep (gPr E) (if th = true then 0 else q.1) q.2.1 q.2.2 = R ∧ q.1 + q.2.1.length ≤ 2 ∧ q.2.2.t + q.1 ≤ 7000) (fun q => q.1)
      (v5, [], s5) ⟨by rw [← hm]; exact hR.symm, by simp only [List.length_nil]; omega, by dsimp only; omega⟩ (Sub.of (by repeat (first | exact SubE.no _ | refine SubE.put rfl ?_)) (by repeat (first | exact SubH.no _ | refine SubH.put rfl ?_)) rfl) ?_
    clear hm hR
    rintro ⟨i, xs, w⟩ ⟨hRj, hxl, hw⟩
    dsimp only at hRj hxl hw
    have hlen := flC_len Rg.cl_len xs
    have hfree : ltL 0 (flC Rg.cl xs) = true := flC_free (fun _ => rfl) xs
    by_cases hi : 0 < i ∧ th = false
    · obtain ⟨hi, rfl⟩ := hi
      obtain ⟨j, rfl⟩ : ∃ j, i = j + 1 := ⟨i - 1, by omega⟩
      have hRj : gRep (gPr E) (j + 1) xs w = R := hRj
      have hRj : gRep (gPr E) j (xs ++ [rgsM.getD (gN E 4 w).1 zRg]) (gN E 4 w).2 = R := hRj
      have c6 := nxC_fc { E with D := D } xs.length (flC Rg.cl xs) hfree k.L k.Ll 4 (by decide) (by decide) w (by omega)
      rw [gEE] at c6
      have t6 := gN_ct (E := E) 4 w
      have l6 := gN_lt (E := E) (n := 4) w (by decide)
      obtain ⟨q1, h1⟩ : ∃ q, q = gN E 4 w := ⟨_, rfl⟩
      rw [← h1] at c6 t6 l6 hRj
      obtain ⟨v6, s6⟩ := q1
      dsimp only at c6 t6 l6 hRj
      clear h1
      have e6 := t6.t
      obtain ⟨rg, hrg⟩ : ∃ b, b = rgsM.getD v6 zRg := ⟨_, rfl⟩
      have hgat := flC_at (cl := Rg.cl) Rg.cl_len rgsM v6 rg (by rw [hrg, List.getD_eq_getElem?_getD, List.getElem?_eq_getElem (show v6 < rgsM.length from l6)]; rfl)
      rw [← hrg] at hRj
      clear hrg
      obtain ⟨g1, g2, g3⟩ := rg
      have happ := flC_append Rg.cl xs [⟨g1, g2, g3⟩]
      obtain ⟨Z, hZ⟩ : ∃ Z, Z = xs ++ [(⟨g1, g2, g3⟩ : Rg)] := ⟨_, rfl⟩
      have lZ : xs.length + 1 = Z.length := by rw [hZ, List.length_append]; rfl
      rw [← hZ] at happ hRj
      (repeat (first | refine K4 ?_ | refine S1 ?_ | refine S2 ?_))
      refine RG.put 54 rfl (v' := .val (.bool true)) (by rw [decide_eq_true (show ((j + 1 : Nat) : Int) > 0 by omega)]) ?_
      (repeat (first | refine L4 ?_ | refine K4 ?_ | refine RG.d ?_ | refine S1 ?_ | refine S2 ?_ | refine S3 ?_ | refine S4 ?_ | refine S7 ?_))
      refine RG.call (m1 := 0) (es := [(0, .one (mX { E with D := D } (hsA E) (dsA E) nilA (.sl 4 [] 3 0 xs.length) (arA { E with D := D }) s6)), (1, .one (hsC E)), (2, .one (dsC E)), (4, .one (flC Rg.cl xs))]) rfl rfl rfl rfl (c6) [0, 1, 2, 4] rfl rfl rfl rfl (.cons rfl (.one rfl) (Reg.lt_one rfl) ⟨[], _, rfl⟩ (.one rfl (hsC_free E) (.one rfl (dsC_free E) (.one rfl (hfree) (.nil _))))) (.cons (.one rfl) (.one (hsC_free E) (.one (dsC_free E) (.one (hfree) (.nil _))))) (fun _ h => False.elim h) rfl rfl rfl ?_
      (repeat (first | refine K5 ?_))
      refine RG.load tok rfl rfl rfl (ldM_row rfl rfl (by rw [show 0 + iNat (v6 : Int) * 3 = v6 * 3 from Nat.zero_add _]; exact hgat) rfl) rfl rfl ?_
      (repeat (first | refine L2 ?_))
      refine RG.append tok rfl rfl rfl rfl rfl rfl rfl rfl (n1 := xs.length) (c := flC Rg.cl xs) (ks := [4]) rfl (m := 1) (ks' := [5]) rfl rfl (by omega) rfl (by omega) (by omega) rfl (c' := flC Rg.cl Z) (by rw [List.take_of_length_le (by omega), happ]; rfl) ?_
      rw [lZ]
      iterate 3 (first | refine K4 ?_)
      refine L3 ?_
      refine RG.dS ?_ (hs := by repeat (first | exact SoftU.nil _ | refine SoftU.cons ?_ ?_ | exact SoftX.nil | refine SoftX.cons (by exact rfl) ?_ ?_ | exact SoftT.nil _ | exact SoftT.skip rfl | refine SoftT.cons SoftE.nil ?_ | refine SoftT.cons (SoftE.eq rfl (SoftE.ne rfl (SoftE.ne rfl (SoftE.ne rfl SoftE.nil)))) ?_ | (refine SoftT.cons (SoftE.ne ?_ SoftE.nil) ?_; exact rfl) | (refine SoftT.cons (SoftE.ne ?_ (SoftE.ne ?_ SoftE.nil)) ?_; exact rfl; exact rfl) | refine SoftT.late (by kernel_rfl) ?_))
      (repeat (first | refine K2 ?_ | refine K4 ?_ | refine RG.d ?_ | refine S2 ?_))
      refine ⟨(j, Z, s6), ⟨hRj, by dsimp only; omega, by dsimp only; omega⟩, Nat.lt_succ_self _, Sub.renB sigD ?_ ?_ sigD_inj (fun a ha => sigD_hi a ha) (fun a ha => sigD_q a ha)⟩
      · repeat (first | exact SubEr.no _ _ | refine SubEr.put rfl ?_ | refine SubEr.put (show some (A.val (.int .i64 (((j + 1 : Nat) : Int) - 1))) = some (i64 ((j : Nat) : Int)) by rw [show ((j + 1 : Nat) : Int) - 1 = (j : Int) by omega]) ?_)
      · repeat (first | exact SubHr.no _ _ | refine SubHr.put rfl rfl ?_ | refine SubHr.put rfl (hsC_free _) ?_ | refine SubHr.put rfl (dsC_free _) ?_ | refine SubHr.put rfl (flC_free (fun _ => rfl) _) ?_ | refine SubHr.putR rfl rfl ?_)
    · have hRj : (xs, w) = R := by
        by_cases ht : th = true
        · rw [if_pos ht] at hRj; exact hRj
        · have : i = 0 := by
            by_cases h0 : 0 < i
            · exact absurd ⟨h0, by simpa using ht⟩ hi
            · omega
          subst this
          rw [if_neg ht] at hRj; exact hRj
      subst hRj
      dsimp only at hr1
      obtain ⟨b, hb⟩ : ∃ b, b = decide ((i : Int) > 0) := ⟨_, rfl⟩
      (repeat (first | refine K4 ?_ | refine S1 ?_ | refine S2 ?_))
      refine RG.put 54 rfl (v' := .val (.bool b)) (by rw [hb]) ?_
      have hbt : (b && !th) = false := by
        rw [hb]
        cases th
        · have : ¬ (i : Int) > 0 := fun h => hi ⟨by omega, rfl⟩
          rw [decide_eq_false this]; rfl
        · simp
      cases b
      · (repeat (first | refine K1 ?_ | refine K4 ?_ | refine RG.d ?_ | refine S5 ?_ | refine S8 ?_))
        refine ⟨(), trivial, Sub.trans (Sub.frzH (ks := [3, 4]) (c' := mC { E with D := r1.1 } r1.2) 0 rfl (by decide) (by rw [hr1]; repeat (first | exact Frzs.nil | refine Frzs.cons (frzC (st := 3) (n := xs.length) rfl (.tail _ (.head _)) hlen hfree) ?_ | refine Frzs.cons (Frz.refl _) ?_))) ?_⟩
        rw [hr1]; exact Sub.down (by repeat (first | exact SubE.no _ | refine SubE.put rfl ?_)) (by repeat (first | exact SubH.no _ | refine SubH.put rfl ?_)) (by repeat (first | exact LtE.no _ | refine LtE.put rfl ?_)) (by repeat (first | exact LtH.no _ | refine LtH.put rfl rfl ?_ | refine LtH.put rfl (ltL_mono (Nat.zero_le _) _ (hsC_free E)) ?_ | refine LtH.put rfl (ltL_mono (Nat.zero_le _) _ (dsC_free E)) ?_)) rfl
      · cases th
        · cases hbt
        · (repeat (first | refine K4 ?_ | refine RG.d ?_ | refine S5 ?_ | refine S8 ?_))
          refine ⟨(), trivial, Sub.trans (Sub.frzH (ks := [3, 4]) (c' := mC { E with D := r1.1 } r1.2) 0 rfl (by decide) (by rw [hr1]; repeat (first | exact Frzs.nil | refine Frzs.cons (frzC (st := 3) (n := xs.length) rfl (.tail _ (.head _)) hlen hfree) ?_ | refine Frzs.cons (Frz.refl _) ?_))) ?_⟩
          rw [hr1]; exact Sub.down (by repeat (first | exact SubE.no _ | refine SubE.put rfl ?_)) (by repeat (first | exact SubH.no _ | refine SubH.put rfl ?_)) (by repeat (first | exact LtE.no _ | refine LtE.put rfl ?_)) (by repeat (first | exact LtH.no _ | refine LtH.put rfl rfl ?_ | refine LtH.put rfl (ltL_mono (Nat.zero_le _) _ (hsC_free E)) ?_ | refine LtH.put rfl (ltL_mono (Nat.zero_le _) _ (dsC_free E)) ?_)) rfl
  have hm2 : m ≤ 2 := by rw [hm]; split <;> omega
  have hpl : r1.1.params.length ≤ 2 := by
    rw [hr1]; show R.1.length ≤ 2
    rw [hR, gRep_len, List.length_nil]; omega
  have er1 : r1.2.t ≤ u.t + 4 := by
    rw [hr1]; show R.2.t ≤ _
    have := (gRep_ct (f := gPr E) (c := 1) gPr_ct m [] s5).t
    rw [← hR] at this
    omega
  have hg1 : r1.1.given = [] := by rw [hr1]; exact hg0
  clear hr1 hR hm
  obtain ⟨D, u1⟩ := r1
  dsimp only at hG er1 hpl hg1 ⊢
  have hDg : ({ D with given := [] } : Df) = D := by rw [← hg1]
  obtain ⟨r2, hr2⟩ : ∃ r, r = gD2 E D th u1 := ⟨_, rfl⟩
  rw [← hr2] at hG
  unfold gD2 at hr2
  dsimp only at hr2
  have c7 := gn_fc { E with D := D } k.L k.Ll 4 (by decide) (by decide) u1 (by omega)
  rw [gEE] at c7
  have t7 := gN_ct (E := E) 4 u1
  obtain ⟨q1, h1⟩ : ∃ q, q = gN E 4 u1 := ⟨_, rfl⟩
  rw [← h1] at c7 t7  hr2
  obtain ⟨v7, s7⟩ := q1
  dsimp only at c7 t7  hr2
  clear h1
  have e7 := t7.t
  refine AW.seqJ (α := Unit) (fun _ => ⟨put 0 (some (.ptr 0 [] 0)) (put 1 (some (i64 (id : Int))) (put 2 (some (.val (.bool th))) noE)), hput 0 (.one (mC { E with D := r2.1 } r2.2)) (hput 1 (.one (hsC E)) (hput 2 (.one (dsC E)) noH)), 3⟩) (fun _ => True) ?_ (fun _ _ => ?_)
  · obtain ⟨b, hb⟩ : ∃ b, b = decide ((v7 : Int) = 0) := ⟨_, rfl⟩
    (repeat (first | refine KM c7 ?_ | refine K4 ?_ | refine S1 ?_ | refine S2 ?_))
    refine RG.put 79 rfl (v' := .val (.bool b)) (by rw [hb]) ?_
    cases b
    · have hz : ¬ (v7 = 0 ∧ th = false) := fun h => by
        rw [h.1] at hb; cases hb
      rw [if_neg hz] at hr2
      rw [hDg] at hr2
      rw [hr2]
      (repeat (first | refine K1 ?_ | refine K4 ?_ | refine RG.d ?_ | refine S3 ?_ | refine S8 ?_))
      exact ⟨(), trivial, Sub.down (by repeat (first | exact SubE.no _ | refine SubE.put rfl ?_)) (by repeat (first | exact SubH.no _ | refine SubH.put rfl ?_)) (by repeat (first | exact LtE.no _ | refine LtE.put rfl ?_)) (by repeat (first | exact LtH.no _ | refine LtH.put rfl rfl ?_ | refine LtH.put rfl (ltL_mono (Nat.zero_le _) _ (hsC_free E)) ?_ | refine LtH.put rfl (ltL_mono (Nat.zero_le _) _ (dsC_free E)) ?_)) rfl⟩
    · have hz : v7 = 0 := by
        have := of_decide_eq_true hb.symm
        omega
      cases th
      · rw [if_pos ⟨hz, rfl⟩] at hr2
        rw [hr2]
        (repeat (first | refine K4 ?_ | refine L2 ?_ | refine L3 ?_ | refine RG.d ?_ | refine S2 ?_ | refine S7 ?_))
        refine ⟨(), trivial, Sub.trans (Sub.frzH (ks := [3]) (c' := mC { E with D := { D with given := [⟨-10, 10, 1⟩] } } s7) 0 rfl (by decide) (by repeat (first | exact Frzs.nil | refine Frzs.cons (frzC (st := 3) (n := 1) rfl (.head _) rfl rfl) ?_ | refine Frzs.cons (Frz.refl _) ?_))) ?_⟩
        exact Sub.down (by repeat (first | exact SubE.no _ | refine SubE.put rfl ?_)) (by repeat (first | exact SubH.no _ | refine SubH.put rfl ?_)) (by repeat (first | exact LtE.no _ | refine LtE.put rfl ?_)) (by repeat (first | exact LtH.no _ | refine LtH.put rfl rfl ?_ | refine LtH.put rfl (ltL_mono (Nat.zero_le _) _ (hsC_free E)) ?_ | refine LtH.put rfl (ltL_mono (Nat.zero_le _) _ (dsC_free E)) ?_)) rfl
      · rw [if_neg (fun h => by cases h.2)] at hr2
        rw [hDg] at hr2
        rw [hr2]
        (repeat (first | refine K4 ?_ | refine RG.d ?_ | refine S3 ?_ | refine S8 ?_))
        exact ⟨(), trivial, Sub.down (by repeat (first | exact SubE.no _ | refine SubE.put rfl ?_)) (by repeat (first | exact SubH.no _ | refine SubH.put rfl ?_)) (by repeat (first | exact LtE.no _ | refine LtE.put rfl ?_)) (by repeat (first | exact LtH.no _ | refine LtH.put rfl rfl ?_ | refine LtH.put rfl (ltL_mono (Nat.zero_le _) _ (hsC_free E)) ?_ | refine LtH.put rfl (ltL_mono (Nat.zero_le _) _ (dsC_free E)) ?_)) rfl⟩
  have er2 : r2.2.t ≤ u1.t + 1 := by rw [hr2]; exact e7
  have hpl2 : r2.1.params.length ≤ 2 := by rw [hr2]; exact hpl
  clear hr2 hpl
  obtain ⟨D, u2⟩ := r2
  dsimp only at hG er2 hpl2 ⊢
  obtain ⟨r3, hr3⟩ : ∃ r, r = gD3 E D u2 := ⟨_, rfl⟩
  rw [← hr3] at hG
  unfold gD3 at hr3
  dsimp only at hr3
  have c8 := gn_fc { E with D := D } k.L k.Ll 2 (by decide) (by decide) u2 (by omega)
  rw [gEE] at c8
  have t8 := gN_ct (E := E) 2 u2
  have l8 := gN_lt (E := E) (n := 2) u2 (by decide)
  obtain ⟨q1, h1⟩ : ∃ q, q = gN E 2 u2 := ⟨_, rfl⟩
  rw [← h1] at c8 t8 l8 hr3
  obtain ⟨v8, s8⟩ := q1
  dsimp only at c8 t8 l8 hr3
  clear h1
  have e8 := t8.t
  (repeat (first | refine KM c8 ?_))
  iterate 2 (refine S1 ?_; (repeat (first | refine KM c8 ?_ | refine L4 ?_ | refine RG.dS ?_ | refine K4 ?_ | refine L3 ?_ | refine RG.d ?_ | refine S2 ?_)))
  have e99 : IntKind.i64.wrap (IntKind.i64.wrap ((D.params.length : Int) + 2) + (v8 : Int)) = ((D.params.length + 2 + v8 : Nat) : Int) := by
    rw [wrap_i64 (n := (D.params.length : Int) + 2) (by omega), wrap_i64 (by omega)]; omega
  refine AW.sub (Sub.frzH (ks := []) (c' := mC { E with D := r3.1 } r3.2) 0 rfl (by decide) (by rw [hr3]; repeat (first | exact Frzs.nil | refine Frzs.cons (Frz.refl _) ?_ | refine Frzs.cons (Frz.of_eq (congrArg (fun x => A.val (.int .i64 x)) e99)) ?_))) ?_
  refine AW.sub (t := ⟨put 0 (some (.ptr 0 [] 0)) (put 1 (some (i64 (id : Int))) (put 2 (some (.val (.bool th))) noE)), hput 0 (.one (mC { E with D := r3.1 } r3.2)) (hput 1 (.one (hsC E)) (hput 2 (.one (dsC E)) noH)), 3⟩) (Sub.down (by repeat (first | exact SubE.no _ | refine SubE.put rfl ?_)) (by repeat (first | exact SubH.no _ | refine SubH.put rfl ?_)) (by repeat (first | exact LtE.no _ | refine LtE.put rfl ?_)) (by repeat (first | exact LtH.no _ | refine LtH.put rfl rfl ?_ | refine LtH.put rfl (ltL_mono (Nat.zero_le _) _ (hsC_free E)) ?_ | refine LtH.put rfl (ltL_mono (Nat.zero_le _) _ (dsC_free E)) ?_)) rfl) ?_
  have er3 : r3.2.t ≤ u2.t + 1 := by rw [hr3]; exact e8
  have hpl3 : r3.1.params.length ≤ 2 := by rw [hr3]; exact hpl2
  clear hr3 hpl2 e99
  obtain ⟨D, u3⟩ := r3
  dsimp only at hG er3 hpl3 ⊢
  obtain ⟨r4, hr4⟩ : ∃ r, r = gD4 E D u3 := ⟨_, rfl⟩
  rw [← hr4] at hG
  unfold gD4 at hr4
  refine S1 ?_
  (repeat (first | refine K4 ?_ | refine L2 ?_ | refine L3 ?_ | refine RG.d ?_ | refine S2 ?_))
  refine AW.seqJ (α := Unit) (fun _ => ⟨put 0 (some (.ptr 0 [] 0)) (put 1 (some (i64 (id : Int))) (put 2 (some (.val (.bool th))) noE)), hput 0 (.one (mC { E with D := r4.1 } r4.2)) (hput 1 (.one (hsC E)) (hput 2 (.one (dsC E)) noH)), 3⟩) (fun _ => True) ?_ (fun _ _ => ?_)
  · by_cases hp0 : D.params.length = 0
    · rw [if_pos hp0] at hr4
      rw [hr4]
      (repeat (first | refine K4 ?_ | refine L1 ?_ | refine S1 ?_ | refine S2 ?_))
      refine RG.put 119 rfl (v' := .val (.bool false)) (by rw [decide_eq_false (show ¬ ((D.params.length : Nat) : Int) > 0 by omega)]) ?_
      refine RG.put 120 rfl (v' := .val (.bool false)) (by rw [decide_eq_false (show ¬ ((D.params.length : Nat) : Int) > 0 by omega)]) ?_
      (repeat (first | refine K1 ?_ | refine K4 ?_ | refine RG.d ?_ | refine S3 ?_ | refine S8 ?_))
      refine ⟨(), trivial, Sub.trans (Sub.frzH (ks := [3]) (c' := mC { E with D := { D with arrays := [⟨4, 0⟩] } } u3) 0 rfl (by decide) (by repeat (first | exact Frzs.nil | refine Frzs.cons (frzC (st := 2) (n := 1) rfl (.head _) rfl rfl) ?_ | refine Frzs.cons (Frz.refl _) ?_))) ?_⟩
      exact Sub.down (by repeat (first | exact SubE.no _ | refine SubE.put rfl ?_)) (by repeat (first | exact SubH.no _ | refine SubH.put rfl ?_)) (by repeat (first | exact LtE.no _ | refine LtE.put rfl ?_)) (by repeat (first | exact LtH.no _ | refine LtH.put rfl rfl ?_ | refine LtH.put rfl (ltL_mono (Nat.zero_le _) _ (hsC_free E)) ?_ | refine LtH.put rfl (ltL_mono (Nat.zero_le _) _ (dsC_free E)) ?_)) rfl
    · rw [if_neg hp0] at hr4
      dsimp only at hr4
      have c9 := nxD_fc { E with D := D } k.L k.Ll 2 (by decide) (by decide) u3 (by omega)
      rw [gEE] at c9
      have t9 := gN_ct (E := E) 2 u3
      obtain ⟨q1, h1⟩ : ∃ q, q = gN E 2 u3 := ⟨_, rfl⟩
      rw [← h1] at c9 t9  hr4
      obtain ⟨v9, s9⟩ := q1
      dsimp only at c9 t9  hr4
      clear h1
      have e9 := t9.t
      (repeat (first | refine K4 ?_ | refine L1 ?_ | refine S1 ?_ | refine S2 ?_))
      refine RG.put 119 rfl (v' := .val (.bool true)) (by rw [decide_eq_true (show ((D.params.length : Nat) : Int) > 0 by omega)]) ?_
      refine RG.put 120 rfl (v' := .val (.bool true)) (by rw [decide_eq_true (show ((D.params.length : Nat) : Int) > 0 by omega)]) ?_
      (repeat (first | refine K4 ?_))
      refine RG.call (m1 := 0) (es := [(0, .one (mX { E with D := D } (hsA E) (dsA E) nilA (paA { E with D := D }) (.sl 3 [] 2 0 1) s9)), (1, .one (hsC E)), (2, .one (dsC E)), (3, .one [i64 4, i64 0])]) rfl rfl rfl rfl (c9) [0, 1, 2, 3] rfl rfl rfl rfl (.cons rfl (.one rfl) (Reg.lt_one rfl) ⟨[], _, rfl⟩ (.one rfl (hsC_free E) (.one rfl (dsC_free E) (.one rfl rfl (.nil _))))) (.cons (.one rfl) (.one (hsC_free E) (.one (dsC_free E) (.one rfl (.nil _))))) (fun _ h => False.elim h) rfl rfl rfl ?_
      (repeat (first | refine K4 ?_ | refine RG.d ?_))
      refine AW.condD rfl (fun hz => ?_) (fun hz => ?_)
      · have hz : v9 = 0 := by have : (v9 : Int) = 0 := hz; omega
        rw [if_pos hz] at hr4
        rw [hr4]
        (repeat (first | refine K4 ?_ | refine L1 ?_ | refine L2 ?_ | refine S2 ?_))
        refine RG.append tok rfl rfl rfl rfl rfl rfl rfl rfl (n1 := 1) (c := [i64 4, i64 0]) (ks := [3]) rfl (m := 1) (ks' := [4]) rfl rfl (by decide) rfl (by decide) (by decide) rfl (c' := [i64 4, i64 0, i64 8, i64 1]) rfl ?_
        (repeat (first | refine K4 ?_ | refine L3 ?_ | refine RG.d ?_))
        refine ⟨(), trivial, Sub.trans (Sub.frzH (ks := [5]) (c' := mC { E with D := { D with arrays := [⟨4, 0⟩, ⟨8, 1⟩] } } s9) 0 rfl (by decide) (by repeat (first | exact Frzs.nil | refine Frzs.cons (frzC (st := 2) (n := 2) rfl (.head _) rfl rfl) ?_ | refine Frzs.cons (Frz.refl _) ?_))) ?_⟩
        exact Sub.down (by repeat (first | exact SubE.no _ | refine SubE.put rfl ?_)) (by repeat (first | exact SubH.no _ | refine SubH.put rfl ?_)) (by repeat (first | exact LtE.no _ | refine LtE.put rfl ?_)) (by repeat (first | exact LtH.no _ | refine LtH.put rfl rfl ?_ | refine LtH.put rfl (ltL_mono (Nat.zero_le _) _ (hsC_free E)) ?_ | refine LtH.put rfl (ltL_mono (Nat.zero_le _) _ (dsC_free E)) ?_)) rfl
      · have hz : ¬ v9 = 0 := by have : ¬ (v9 : Int) = 0 := hz; omega
        rw [if_neg hz] at hr4
        rw [hr4]
        (repeat (first | refine S3 ?_))
        refine ⟨(), trivial, Sub.trans (Sub.frzH (ks := [3]) (c' := mC { E with D := { D with arrays := [⟨4, 0⟩] } } s9) 0 rfl (by decide) (by repeat (first | exact Frzs.nil | refine Frzs.cons (frzC (st := 2) (n := 1) rfl (.head _) rfl rfl) ?_ | refine Frzs.cons (Frz.refl _) ?_))) ?_⟩
        exact Sub.down (by repeat (first | exact SubE.no _ | refine SubE.put rfl ?_)) (by repeat (first | exact SubH.no _ | refine SubH.put rfl ?_)) (by repeat (first | exact LtE.no _ | refine LtE.put rfl ?_)) (by repeat (first | exact LtH.no _ | refine LtH.put rfl rfl ?_ | refine LtH.put rfl (ltL_mono (Nat.zero_le _) _ (hsC_free E)) ?_ | refine LtH.put rfl (ltL_mono (Nat.zero_le _) _ (dsC_free E)) ?_)) rfl
  have er4 : r4.2.t ≤ u3.t + 1 := by
    rw [hr4]
    split
    · show u3.t ≤ _; omega
    · exact (gN_ct (E := E) 2 u3).t
  clear hr4
  obtain ⟨D, u4⟩ := r4
  dsimp only at er4 ⊢
  subst hG
  dsimp only at hF okG
  have ok := Ev.of k (by omega) okG
  unfold gD6 at hF
  dsimp only at hF
  have lE : u4.loop ≤ 100 := by have : u4.loop = s.loop := ctG.loop; omega
  have c11 := gn_fc { E with D := D } k.L k.Ll 5 (by decide) (by decide) { u4 with left := 9, done := 0 } (by show u4.t ≤ _; omega)
  have t11 := gN_ct (E := { E with D := D }) 5 { u4 with left := 9, done := 0 }
  have l11 := gN_lt (E := { E with D := D }) (n := 5) { u4 with left := 9, done := 0 } (by decide)
  obtain ⟨q1, h1⟩ : ∃ q, q = gN { E with D := D } 5 { u4 with left := 9, done := 0 } := ⟨_, rfl⟩
  rw [← h1] at c11 t11 l11 hF
  obtain ⟨v11, s11⟩ := q1
  dsimp only at c11 t11 l11 hF
  clear h1
  have e11 : s11.t ≤ u4.t + 1 := t11.t
  have d11 : s11.left = 9 ∧ s11.done = 0 := ⟨t11.left, t11.done⟩
  have lo11 : s11.loop = u4.loop := t11.loop
  have rm : Rm s11 := ⟨by omega, by omega⟩
  have c12 := hst D ok (1 + v11) s11 (by omega) rm (by omega)
  have bd := gSts_bd ok 2 (1 + v11) s11 rm
  obtain ⟨q1, h1⟩ : ∃ q, q = gSts { E with D := D } 2 (1 + v11) s11 := ⟨_, rfl⟩
  rw [← h1] at c12 bd hF
  obtain ⟨l, s12⟩ := q1
  dsimp only at c12 bd hF
  rw [smC_eq] at c12
  clear h1
  have b12 := bd.e
  have c13 := siteB_fc { E with D := D } l.length (flC Sm.cl l) s12 (by omega)
  obtain ⟨q1, h1⟩ : ∃ q, q = gS s12 := ⟨_, rfl⟩
  rw [← h1] at c13 hF
  obtain ⟨v13, s13⟩ := q1
  dsimp only at c13 hF
  clear h1
  iterate 3 (refine S1 ?_; (repeat (first | refine KM c11 ?_ | refine K2 ?_ | refine K4 ?_ | refine L3 ?_ | refine RG.d ?_ | refine S2 ?_)))
  refine RG.put 147 rfl (v' := i64 ((1 + v11 : Nat) : Int)) (by rw [show (1 : Int) + (v11 : Int) = ((1 + v11 : Nat) : Int) by omega]) ?_
  (repeat (first | refine KM c12 ?_ | refine KM c13 ?_ | refine K1 ?_ | refine K4 ?_ | refine L1 ?_ | refine L2 ?_ | refine L3 ?_ | refine RG.d ?_ | refine S1 ?_ | refine S2 ?_ | refine S3 ?_ | refine S8 ?_))
  obtain ⟨D', hD'⟩ : ∃ D' : Df, D' = { D with site := (v13 : Int), body := l } := ⟨_, rfl⟩
  rw [← hD'] at hF
  have hE1 : dsC (evAdd E F.1) = dsC E ++ D'.cl := by
    rw [hF]
    show flC Df.cl (E.ds ++ [D']) = _; rw [flC_append]; simp [flC, dsC]
  have hE2 : hsC (evAdd E F.1) = hsC E ++ (hdOf D').cl := by
    rw [hF]
    show flC Hd.cl (E.hs ++ [hdOf D']) = _; rw [flC_append]; simp [flC, hsC]
  have lE1 : (dsC E).length = E.ds.length * 12 := flC_len (cl := Df.cl) (fun _ => rfl) _
  have lE2 : (hsC E).length = E.hs.length * 5 := flC_len (cl := Hd.cl) (fun _ => rfl) _
  have hsl : E.hs.length = E.ds.length := by rw [k.hs, List.length_map]
  obtain ⟨C1, hC1⟩ : ∃ C1, C1 = dsC (evAdd E F.1) := ⟨_, rfl⟩
  obtain ⟨C2, hC2⟩ : ∃ C2, C2 = hsC (evAdd E F.1) := ⟨_, rfl⟩
  have fC1 : ltL 0 C1 = true := by rw [hC1]; exact dsC_free _
  have fC2 : ltL 0 C2 = true := by rw [hC2]; exact hsC_free _
  have hh := head_fc D'
  refine RG.append tok rfl rfl rfl rfl rfl rfl rfl rfl (n1 := E.ds.length) (c := dsC E) (ks := [2]) rfl (m := 1) (l := D'.cl) (ks' := [3]) (by rw [hD']; rfl) (by rw [hD']; rfl) (by omega) (by rw [hD']; rfl) (by omega) (by omega) rfl (c' := C1) (by rw [List.take_of_length_le (by omega), hC1, hE1]) ?_
  subst hD'
  (repeat (first | refine RG.call rfl rfl rfl rfl (hh) [] rfl rfl rfl rfl (.nil _) (.nil _) (fun _ h => False.elim h) rfl (A.ren_free _ _ (by first | exact rfl | exact Ex.agg_free _ | exact Co.agg_free _)) rfl ?_ | refine K4 ?_ | refine L1 ?_ | refine L2 ?_ | refine L3 ?_ | refine RG.dd ?_ | refine S2 ?_))
  refine RG.append tok rfl rfl rfl rfl rfl rfl rfl rfl (n1 := E.hs.length) (c := hsC E) (ks := [1]) rfl (m := 1) (ks' := [5]) rfl rfl (by omega) rfl (by omega) (by omega) rfl (c' := C2) (by rw [List.take_of_length_le (by omega), hC2, hE2]; rfl) ?_
  (repeat (first | refine K4 ?_ | refine L3 ?_ | refine RG.dd ?_))
  rw [← hC1, ← hC2, hF]
  exact ⟨⟨_, rfl, rfl⟩, rfl, .cons rfl (.one (by simp only [mE, evAdd, List.length_append, List.length_cons, List.length_nil]; rfl)) (Reg.lt_one rfl) (.gone (.gone (.cons rfl (Same.free fC2) (Reg.lt_one (ltL_mono (Nat.zero_le _) _ fC2)) (.cons rfl (Same.free fC1) (Reg.lt_one (ltL_mono (Nat.zero_le _) _ fC1)) (.nil _)))))⟩
end Go.Proofs.YtifeioddiddnoaaGreatDoor
