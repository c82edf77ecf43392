/- The maker of programs: programs. No conditions. -/
import Derived.Test.YtifeioddiddnoaaGreatDoorEc41
import Derived.Test.YtifeioddiddnoaaGreatDoorEc43
import Derived.Test.YtifeioddiddnoaaGreatDoorEpB
set_option linter.unusedVariables false
set_option linter.unusedSimpArgs false
namespace Go.Proofs.YtifeioddiddnoaaGreatDoor
open Go.Abs Go Go.RowKit
set_option maxRecDepth 20000
def Qu.cl (q : Qu) : List A := [i64 q.cap, i64 q.r.lo, i64 q.r.hi, i64 q.r.mask]
def Dc.cl (d : Dc) : List A := [.ro d.globals.length (flC Rg.cl d.globals), .ro d.classes.length (flC Rg.cl d.classes), .ro d.queues.length (flC Qu.cl d.queues), .ro d.sinks.length (ints .i64 d.sinks), i64 d.locks, i64 d.parts, i64 d.firms]
def Pg.cl (p : Pg) : List A := p.dc.cl ++ [.ro p.heads.length (flC Hd.cl p.heads), .ro p.defs.length (flC Df.cl p.defs), .ro p.threads.length (ints .i64 p.threads)]
theorem dcM_cl : dcM.cl = [gA1, gA2, gA3, gA4, i64 3, i64 3, i64 2] := rfl
def sigP (k : Nat) : Nat := if k = 0 then 2 else if k = 1 then 3 else if k = 2 then 4 else if k = 3 then 1 else k + 1
theorem sigP_inj : ∀ a b, sigP a = sigP b → a = b := by
  intro a b h; unfold sigP at h; repeat' split at h
  all_goals omega
theorem sigP_hi (a : Nat) (ha : 4 ≤ a) : 5 ≤ sigP a := by
  unfold sigP; repeat' split
  all_goals omega
def sigQ (k : Nat) : Nat := if k = 0 then 0 else if k = 1 then 4 else if k = 2 then 5 else if k = 3 then 3 else k + 2
theorem sigQ_inj : ∀ a b, sigQ a = sigQ b → a = b := by
  intro a b h; unfold sigQ at h; repeat' split at h
  all_goals omega
theorem sigQ_hi (a : Nat) (ha : 4 ≤ a) : 6 ≤ sigQ a := by
  unfold sigQ; repeat' split
  all_goals omega
theorem dropO_plus : ∀ (a b : Nat) (l r : List A), dropO a l = some r → dropO (a + b) l = dropO b r
  | 0, b, l, r, h => by cases h; rw [Nat.zero_add]
  | a + 1, b, [], r, h => by cases h
  | a + 1, b, x :: l, r, h => by rw [Nat.succ_add]; exact dropO_plus a b l r h
theorem no_lt {C : Ctx} (h : C.q = 0) {σ : Nat → Nat} : ∀ k, k < C.q → σ k = k := fun k hk => by rw [h] at hk; exact absurd hk (Nat.not_lt_zero k)
set_option maxHeartbeats 16000000 in
theorem made_fc (L : List Int) (hL : ∀ x, x ∈ L → 0 ≤ x ∧ x ≤ 255) (hl : L.length ≤ 9223372036854775807) : FC Tryz.prog ge 66 [.agg [.ro L.length (ints .u8 L)], .val (.bool false)] [] (.agg (gMade L).cl) [] NoP := by
  obtain ⟨F, hF⟩ : ∃ F, F = gMade L := ⟨_, rfl⟩
  rw [← hF]
  unfold gMade at hF
  dsimp only at hF
  have k0 : EvOk ⟨L, [], [], zDf⟩ := ⟨hL, hl, by simp, rfl⟩
  have c1 := nxA_fc ⟨L, [], [], zDf⟩ hL hl 4 (by decide) (by decide) ⟨0, 100, 0, 0, 0⟩ (by decide)
  have t1 := gN_ct (E := ⟨L, [], [], zDf⟩) 4 ⟨0, 100, 0, 0, 0⟩
  have l1 := gN_lt (E := ⟨L, [], [], zDf⟩) (n := 4) ⟨0, 100, 0, 0, 0⟩ (by decide)
  obtain ⟨q1, h1⟩ : ∃ q, q = gN ⟨L, [], [], zDf⟩ 4 ⟨0, 100, 0, 0, 0⟩ := ⟨_, rfl⟩
  rw [← h1] at c1 t1 l1 hF
  obtain ⟨v1, s1⟩ := q1
  dsimp only at c1 t1 l1 hF
  clear h1
  have e1 : s1.t ≤ 101 := t1.t
  have lo1 : s1.loop = 0 := t1.loop
  have lE := gDefs_ok (1 + v1) (1 + v1) ⟨L, [], [], zDf⟩ s1 k0 (by simp) (by omega) (by omega)
  have hP := gThr_pos (1 + v1) ⟨L, [], [], zDf⟩ s1 (by omega) lE.2.1
  obtain ⟨R, hR⟩ : ∃ R, R = gDefs (1 + v1) (1 + v1) ⟨L, [], [], zDf⟩ s1 := ⟨_, rfl⟩
  rw [← hR] at hF lE hP
  refine FC.of_AW tok Tryz.func66 (by kernel_rfl) rfl Tryz.ntmps66 [] rfl rfl rfl ?_; intro w0 X0 Y f0 hI0 hX0
  (repeat (first | refine K1 ?_))
  refine S1 ?_
  (repeat (first | refine L2 ?_ | refine RG.d ?_ | refine S2 ?_))
  refine S1 ?_
  (repeat (first | refine RG.call rfl rfl rfl rfl (declared_fc) [] rfl rfl rfl rfl (.nil _) (.nil _) (fun _ h => False.elim h) rfl (A.ren_free _ _ (by first | exact rfl | exact Ex.agg_free _ | exact Co.agg_free _)) rfl ?_ | refine K4 ?_ | refine L1 ?_ | refine L2 ?_ | refine RG.dd ?_ | refine S2 ?_))
  refine AW.sub (Sub.nilH 2 9 5 rfl rfl rfl rfl) ?_
  refine AW.sub (Sub.nilH 2 10 12 rfl rfl rfl rfl) ?_
  refine AW.sub (Sub.frzH (ks := []) (c' := renL sigP (mD ⟨L, [], [], zDf⟩ nilA ⟨0, 100, 0, 0, 0⟩)) 2 rfl (by decide) (by repeat (first | exact Frzs.nil | refine Frzs.cons (Frz.refl _) ?_ | refine Frzs.cons Frz.any ?_))) ?_
  refine AW.sub (t := ⟨put 4 (some (.ptr 3 [] 0)) (put 5 (some (.ptr 0 [] 0)) noE), hput 0 (.one (mD ⟨L, [], [], zDf⟩ nilA ⟨0, 100, 0, 0, 0⟩)) (hput 1 (.one (hsC ⟨L, [], [], zDf⟩)) (hput 2 (.one (dsC ⟨L, [], [], zDf⟩)) (hput 3 (.one ([nilA, nilA, nilA, nilA, i64 0, i64 0, i64 0, nilA, nilA, nilA])) noH))), 4⟩) (Sub.renB sigP (by repeat (first | exact SubEr.no _ _ | refine SubEr.put rfl ?_)) (by repeat (first | exact SubHr.no _ _ | refine SubHr.put rfl rfl ?_ | refine SubHr.putR rfl rfl ?_)) sigP_inj (fun a ha => sigP_hi a ha) (no_lt rfl)) ?_
  refine S1 ?_
  (repeat (first | refine KM c1 ?_ | refine K2 ?_ | refine K4 ?_ | refine RG.d ?_ | refine S2 ?_))
  have e6 : some (A.val (.int .i64 (1 + (v1 : Int)))) = some (i64 ((1 + v1 : Nat) : Int)) := by rw [show (1 : Int) + (v1 : Int) = ((1 + v1 : Nat) : Int) by omega]
  obtain ⟨n, hn⟩ : ∃ n, n = 1 + v1 := ⟨_, rfl⟩
  rw [← hn] at e6 hF lE hP hR
  refine AW.seqJ (α := Unit) (fun _ => ⟨put 4 (some (.ptr 3 [] 0)) (put 5 (some (.ptr 0 [] 0)) (put 6 (some (i64 (n : Int))) noE)), hput 0 (.one (mD R.1 nilA R.2)) (hput 1 (.one (hsC R.1)) (hput 2 (.one (dsC R.1)) (hput 3 (.one ([nilA, nilA, nilA, nilA, i64 0, i64 0, i64 0, nilA, nilA, nilA])) noH))), 4⟩) (fun _ => True) ?_ (fun _ _ => ?_)
  · refine S1 ?_
    (repeat (first | refine K4 ?_ | refine RG.d ?_ | refine S2 ?_ | refine S4 ?_))
    refine AW.loopS (fun q : Nat × Nat × Ev × Ms => ⟨put 4 (some (.ptr 3 [] 0)) (put 5 (some (.ptr 0 [] 0)) (put 6 (some (i64 (n : Int))) (put 7 (some (i64 (q.1 : Int))) noE))), hput 0 (.one (mD q.2.2.1 nilA q.2.2.2)) (hput 1 (.one (hsC q.2.2.1)) (hput 2 (.one (dsC q.2.2.1)) (hput 3 (.one ([nilA, nilA, nilA, nilA, i64 0, i64 0, i64 0, nilA, nilA, nilA])) noH))), 4⟩) (fun q => EvOk q.2.2.1 ∧ q.2.2.1.ds.length = q.1 ∧ q.1 + q.2.1 = n ∧ q.2.2.2.t + q.2.1 * 1201 ≤ 6000 ∧ q.2.2.2.loop ≤ 100 ∧ gDefs n q.2.1 q.2.2.1 q.2.2.2 = R) (fun q => q.2.1)
      (0, n, ⟨L, [], [], zDf⟩, s1) ⟨k0, rfl, by dsimp only; omega, by dsimp only; omega, by dsimp only; omega, hR.symm⟩ (Sub.of (by repeat (first | exact SubE.no _ | refine SubE.put rfl ?_ | refine SubE.put e6 ?_)) (by repeat (first | exact SubH.no _ | refine SubH.put rfl ?_)) rfl) ?_
    clear hR lE hP hF k0
    rintro ⟨i, j, E, s⟩ ⟨k, hdl, hij, hs, hlo, hRj⟩
    dsimp only at k hdl hij hs hlo hRj
    have hst : ∀ D, Ev.ok { E with D := D } → ∀ (n : Nat) (s : Ms), n ≤ 1000000 → Rm s → s.loop + 2 ≤ 1000 → FC Tryz.prog ge 107 [.ptr 0 [] 0, i64 (n : Int), i64 ((2 : Nat) : Int)] [.one (mC { E with D := D } s), .one (hsC E), .one (dsC E)] (.ro (gSts { E with D := D } 2 n s).1.length (smC (gSts { E with D := D } 2 n s).1)) [.one (mC { E with D := D } (gSts { E with D := D } 2 n s).2), .one (hsC E), .one (dsC E)] NoP :=
      fun D ok n s h1 h2 h3 => sts_fc { E with D := D } ok 2 n s h1 h2 h3
    cases j with
    | zero =>
      obtain rfl : (E, s) = R := hRj
      (repeat (first | refine K4 ?_ | refine RG.d ?_ | refine S1 ?_ | refine S2 ?_))
      refine AW.condD rfl (fun kk => absurd (show (i : Int) < (n : Int) from kk) (by omega)) (fun _ => ?_)
      (repeat (first | refine S5 ?_))
      exact ⟨(), trivial, Sub.down (by repeat (first | exact SubE.no _ | refine SubE.put rfl ?_)) (by repeat (first | exact SubH.no _ | refine SubH.put rfl ?_)) (by repeat (first | exact LtE.no _ | refine LtE.put rfl ?_)) (by repeat (first | exact LtH.no _ | refine LtH.put rfl rfl ?_ | refine LtH.put rfl (ltL_mono (Nat.zero_le _) _ (hsC_free E)) ?_ | refine LtH.put rfl (ltL_mono (Nat.zero_le _) _ (dsC_free E)) ?_)) rfl⟩
    | succ j =>
      by_cases hz : j = 0
      · subst hz
        have hRj : gDefs n 0 (evAdd E (gDef E (11 + (n - 1)) true s).1) (gDef E (11 + (n - 1)) true s).2 = R := hRj
        have hd := mdef_fc E k (by omega) (11 + (n - 1)) (by omega) true s (by omega) hlo hst
        obtain ⟨o1, o2, o3⟩ := gDef_ok k (by omega) (11 + (n - 1)) (by omega) true s (by omega)
        obtain ⟨G, hG⟩ : ∃ G, G = gDef E (11 + (n - 1)) true s := ⟨_, rfl⟩
        rw [← hG] at hRj hd o1 o2 o3
        (repeat (first | refine K4 ?_ | refine RG.d ?_ | refine S1 ?_ | refine S2 ?_))
        refine AW.condD rfl (fun _ => ?_) (fun kk => absurd (show (i : Int) < (n : Int) by omega) kk)
        (repeat (first | refine K2 ?_ | refine K4 ?_ | refine S1 ?_ | refine S2 ?_ | refine S3 ?_ | refine S4 ?_))
        refine RG.put 26 rfl (v' := i64 ((11 + (n - 1) : Nat) : Int)) (by rw [show (11 : Int) + (i : Int) = ((11 + (n - 1) : Nat) : Int) by omega]) ?_
        refine RG.put 30 rfl (v' := .val (.bool true)) (by rw [decide_eq_true (show (i : Int) = (n : Int) - 1 by omega)]) ?_
        refine RG.put 31 rfl (v' := .val (.bool true)) (by rw [decide_eq_true (show (i : Int) = (n : Int) - 1 by omega)]) ?_
        (repeat (first | refine K1 ?_ | refine K4 ?_))
        refine RG.call (m1 := 2) (es := [(0, .one (renL (sig [0, 1, 2] 4) (mE (evAdd E G.1) G.2))), (1, .gone), (2, .gone), (4, .one (hsC (evAdd E G.1))), (5, .one (dsC (evAdd E G.1)))]) rfl rfl rfl rfl (hd) [0, 1, 2] rfl rfl rfl rfl (.cons rfl (.one rfl) (Reg.lt_one rfl) ⟨[], _, rfl⟩ (.one rfl (hsC_free E) (.one rfl (dsC_free E) (.nil _)))) (.cons (.one rfl) (.cons Same.gone (.cons Same.gone (.one (hsC_free _) (.one (dsC_free _) (.nil _)))))) (fun _ h => False.elim h) rfl rfl rfl ?_
        (repeat (first | refine K2 ?_ | refine K4 ?_ | refine RG.d ?_ | refine S2 ?_))
        refine ⟨(i + 1, 0, evAdd E G.1, G.2), ⟨evAdd_ok k o3, by show (E.ds ++ [G.1]).length = i + 1; simp [hdl], by dsimp only; omega, by dsimp only; omega, by dsimp only; omega, hRj⟩, by dsimp only; omega, Sub.trans (Sub.frzH (ks := []) (c' := (renL sigQ (mD (evAdd E G.1) nilA G.2))) 0 rfl (by decide) (by repeat (first | exact Frzs.nil | refine Frzs.cons (Frz.refl _) ?_ | refine Frzs.cons Frz.any ?_))) ?_⟩
        refine Sub.renB sigQ ?_ (by repeat (first | exact SubHr.no _ _ | refine SubHr.put rfl rfl ?_ | refine SubHr.put rfl (hsC_free _) ?_ | refine SubHr.put rfl (dsC_free _) ?_ | refine SubHr.putR rfl rfl ?_)) sigQ_inj (fun a ha => sigQ_hi a ha) (no_lt rfl)
        repeat (first | exact SubEr.no _ _ | refine SubEr.put rfl ?_)
      · have hRj : gDefs n j (evAdd E (gDef E (11 + (n - (j + 1))) (decide ((gN E 5 s).1 = 0)) (gN E 5 s).2).1) (gDef E (11 + (n - (j + 1))) (decide ((gN E 5 s).1 = 0)) (gN E 5 s).2).2 = R := by rw [← hRj, gDefs, if_neg hz]
        have c2 := nxA_fc E k.L k.Ll 5 (by decide) (by decide) s (by omega)
        have t2 := gN_ct (E := E) 5 s
        obtain ⟨q2, h2⟩ : ∃ q, q = gN E 5 s := ⟨_, rfl⟩
        rw [← h2] at c2 t2 hRj
        obtain ⟨z, s2⟩ := q2
        dsimp only at c2 t2 hRj
        clear h2
        have e2 := t2.t
        have lo2 := t2.loop
        have hst := fun D (ok : Ev.ok { E with D := D }) (n : Nat) (s : Ms) h1 h2 h3 => sts_fc { E with D := D } ok 2 n s h1 h2 h3
        have hd := mdef_fc E k (by omega) (11 + (n - (j + 1))) (by omega) (decide (z = 0)) s2 (by omega) (by omega) hst
        obtain ⟨o1, o2, o3⟩ := gDef_ok k (by omega) (11 + (n - (j + 1))) (by omega) (decide (z = 0)) s2 (by omega)
        obtain ⟨G, hG⟩ : ∃ G, G = gDef E (11 + (n - (j + 1))) (decide (z = 0)) s2 := ⟨_, rfl⟩
        rw [← hG] at hRj hd o1 o2 o3
        (repeat (first | refine K4 ?_ | refine RG.d ?_ | refine S1 ?_ | refine S2 ?_))
        refine AW.condD rfl (fun _ => ?_) (fun kk => absurd (show (i : Int) < (n : Int) by omega) kk)
        (repeat (first | refine K2 ?_ | refine K4 ?_ | refine S1 ?_ | refine S2 ?_ | refine S3 ?_ | refine S4 ?_))
        refine RG.put 26 rfl (v' := i64 ((11 + (n - (j + 1)) : Nat) : Int)) (by rw [show (11 : Int) + (i : Int) = ((11 + (n - (j + 1)) : Nat) : Int) by omega]) ?_
        refine RG.put 30 rfl (v' := .val (.bool false)) (by rw [decide_eq_false (show ¬ (i : Int) = (n : Int) - 1 by omega)]) ?_
        refine RG.put 31 rfl (v' := .val (.bool false)) (by rw [decide_eq_false (show ¬ (i : Int) = (n : Int) - 1 by omega)]) ?_
        have ez : decide ((z : Int) = 0) = decide (z = 0) := by
          by_cases h : z = 0
          · rw [decide_eq_true h, decide_eq_true (by omega)]
          · rw [decide_eq_false h, decide_eq_false (by omega)]
        (repeat (first | refine KM c2 ?_ | refine K4 ?_))
        refine RG.put 35 rfl (v' := .val (.bool (decide (z = 0)))) (by rw [ez]) ?_
        refine RG.call (m1 := 2) (es := [(0, .one (renL (sig [0, 1, 2] 4) (mE (evAdd E G.1) G.2))), (1, .gone), (2, .gone), (4, .one (hsC (evAdd E G.1))), (5, .one (dsC (evAdd E G.1)))]) rfl rfl rfl rfl (hd) [0, 1, 2] rfl rfl rfl rfl (.cons rfl (.one rfl) (Reg.lt_one rfl) ⟨[], _, rfl⟩ (.one rfl (hsC_free E) (.one rfl (dsC_free E) (.nil _)))) (.cons (.one rfl) (.cons Same.gone (.cons Same.gone (.one (hsC_free _) (.one (dsC_free _) (.nil _)))))) (fun _ h => False.elim h) rfl rfl rfl ?_
        (repeat (first | refine K2 ?_ | refine K4 ?_ | refine RG.d ?_ | refine S2 ?_))
        refine ⟨(i + 1, j, evAdd E G.1, G.2), ⟨evAdd_ok k o3, by show (E.ds ++ [G.1]).length = i + 1; simp [hdl], by dsimp only; omega, by dsimp only; omega, by dsimp only; omega, hRj⟩, by dsimp only; omega, Sub.trans (Sub.frzH (ks := []) (c' := (renL sigQ (mD (evAdd E G.1) nilA G.2))) 0 rfl (by decide) (by repeat (first | exact Frzs.nil | refine Frzs.cons (Frz.refl _) ?_ | refine Frzs.cons Frz.any ?_))) ?_⟩
        refine Sub.renB sigQ ?_ (by repeat (first | exact SubHr.no _ _ | refine SubHr.put rfl rfl ?_ | refine SubHr.put rfl (hsC_free _) ?_ | refine SubHr.put rfl (dsC_free _) ?_ | refine SubHr.putR rfl rfl ?_)) sigQ_inj (fun a ha => sigQ_hi a ha) (no_lt rfl)
        repeat (first | exact SubEr.no _ _ | refine SubEr.put rfl ?_)
  obtain ⟨E, s2⟩ := R
  dsimp only at hF lE hP ⊢
  obtain ⟨kE, lds, -, lt2⟩ := lE
  have hn4 : n ≤ 4 := by omega
  obtain ⟨T, hT⟩ : ∃ T, T = gThr E.ds n [] := ⟨_, rfl⟩
  have hT2 := (gThr_ok E.ds kE.ds n [] (by omega) (by simp) Sml.nil).1
  rw [← hT] at hF hP hT2
  have c3 := nxB_fc E T.length T kE.L kE.Ll 3 (by decide) (by decide) s2 (by omega)
  obtain ⟨q3, h3⟩ : ∃ q, q = gN E 3 s2 := ⟨_, rfl⟩
  rw [← h3] at c3 hF
  obtain ⟨v3, s3⟩ := q3
  dsimp only at c3 hF
  clear h3
  refine AW.seqJ (α := Unit) (fun _ => ⟨put 4 (some (.ptr 3 [] 0)) (put 5 (some (.ptr 0 [] 0)) noE), hput 0 (.one (mD E (.ro T.length (ints .i64 T)) s2)) (hput 1 (.one (hsC E)) (hput 2 (.one (dsC E)) (hput 3 (.one ([nilA, nilA, nilA, nilA, i64 0, i64 0, i64 0, nilA, nilA, nilA])) noH))), 4⟩) (fun _ => True) ?_ (fun _ _ => ?_)
  · refine AW.sub (Sub.nilH 0 11 1 rfl rfl rfl rfl) ?_
    refine S1 ?_
    (repeat (first | refine K2 ?_ | refine K4 ?_ | refine RG.d ?_ | refine S2 ?_ | refine S4 ?_))
    refine AW.loopS (fun q : Nat × List Int => ⟨put 4 (some (.ptr 3 [] 0)) (put 5 (some (.ptr 0 [] 0)) (put 8 (some (i64 ((q.1 : Int) - 1))) noE)), hput 0 (.one (mD E (.sl 4 [] 1 0 q.2.length) s2)) (hput 1 (.one (hsC E)) (hput 2 (.one (dsC E)) (hput 3 (.one ([nilA, nilA, nilA, nilA, i64 0, i64 0, i64 0, nilA, nilA, nilA])) (hput 4 (.one (ints .i64 q.2)) noH)))), 5⟩) (fun q => q.1 ≤ n ∧ q.2.length ≤ 2 ∧ gThr E.ds q.1 q.2 = T) (fun q => q.1) (n, []) ⟨Nat.le_refl _, by simp, hT.symm⟩ (Sub.of (by repeat (first | exact SubE.no _ | refine SubE.put rfl ?_)) (by repeat (first | exact SubH.no _ | refine SubH.put rfl ?_)) rfl) ?_
    clear hT
    rintro ⟨i, l⟩ ⟨hi, hl2, hTl⟩
    dsimp only at hi hl2 hTl
    cases i with
    | zero =>
      obtain rfl : l = T := hTl
      (repeat (first | refine K1 ?_ | refine K4 ?_ | refine RG.d ?_ | refine S1 ?_ | refine S2 ?_ | refine S5 ?_ | refine S8 ?_))
      · refine ⟨(), trivial, Sub.trans (Sub.frzH (ks := [4]) (c' := mD E (.ro l.length (ints .i64 l)) s2) 0 rfl (by decide) (by repeat (first | exact Frzs.nil | refine Frzs.cons (Frz.refl _) ?_ | refine Frzs.cons (frzI rfl (.head _) rfl) ?_))) ?_⟩
        exact Sub.down (by repeat (first | exact SubE.no _ | refine SubE.put rfl ?_)) (by repeat (first | exact SubH.no _ | refine SubH.put rfl ?_)) (by repeat (first | exact LtE.no _ | refine LtE.put rfl ?_)) (by repeat (first | exact LtH.no _ | refine LtH.put rfl rfl ?_ | refine LtH.put rfl (ltL_mono (Nat.zero_le _) _ (hsC_free E)) ?_ | refine LtH.put rfl (ltL_mono (Nat.zero_le _) _ (dsC_free E)) ?_)) rfl
    | succ i =>
      by_cases hll : l.length < 2
      · obtain ⟨d, hd⟩ : ∃ d, E.ds[i]? = some d := ⟨_, List.getElem?_eq_getElem (by omega)⟩
        have hat := flC_at (cl := Df.cl) (st := 12) (fun _ => rfl) E.ds i d hd
        have hat5 := dropO_plus (i * 12) 5 _ _ hat
        have hat6 := dropO_plus (i * 12) 6 _ _ hat
        have hat0 := dropO_plus (i * 12) 0 _ _ hat
        rw [gThr, if_pos hll, show E.ds.getD i zDf = d by rw [List.getD_eq_getElem?_getD, hd]; rfl] at hTl
        have dk := kE.ds d (List.mem_of_getElem? hd)
        have dp := dk.params
        have dg := dk.given
        clear hat hd
        obtain ⟨did, dsite, dname, dfirm, dpart, dpar, dgiv, dvars, drefs, darr, dbud, dbody⟩ := d
        dsimp only at dp dg hTl
        (repeat (first | refine K4 ?_ | refine S1 ?_ | refine S2 ?_))
        refine RG.put 41 rfl (v' := .val (.bool true)) (by rw [decide_eq_true (show (((i + 1 : Nat) : Int) - 1) ≥ 0 by omega)]) ?_
        (repeat (first | refine K4 ?_ | refine L1 ?_ | refine RG.d ?_))
        refine AW.condD rfl (fun _ => ?_) (fun kk => absurd (show (l.length : Int) < 2 by omega) kk)
        (repeat (first | refine K4 ?_ | refine K5 ?_ | refine L1 ?_ | refine S1 ?_ | refine S2 ?_ | refine S3 ?_ | refine S4 ?_))
        have ei : iNat (((i + 1 : Nat) : Int) - 1) = i := by rw [show ((i + 1 : Nat) : Int) - 1 = (i : Int) by omega]; exact Int.toNat_natCast i
        refine RG.load tok rfl rfl rfl (ldM_at rfl rfl (by show dropO (0 + iNat (((i + 1 : Nat) : Int) - 1) * 12 + 5) (dsC E) = _; rw [ei, Nat.zero_add]; exact hat5.trans rfl)) rfl rfl ?_
        (repeat (first | refine K4 ?_ | refine K5 ?_ | refine L1 ?_))
        refine RG.load tok rfl rfl rfl (ldM_at rfl rfl (by show dropO (0 + iNat (((i + 1 : Nat) : Int) - 1) * 12 + 6) (dsC E) = _; rw [ei, Nat.zero_add]; exact hat6.trans rfl)) rfl rfl ?_
        (repeat (first | refine K4 ?_ | refine RG.dd ?_))
        by_cases hz : dpar.length + dgiv.length = 0
        · rw [if_pos hz] at hTl
          refine AW.condD rfl (fun _ => ?_) (fun kk => absurd (show IntKind.i64.wrap ((dpar.length : Int) + (dgiv.length : Int)) = 0 by rw [wrap_i64 (by omega)]; omega) kk)
          obtain ⟨Z, hZ⟩ : ∃ Z, Z = l ++ [did] := ⟨_, rfl⟩
          have lZ : l.length + 1 = Z.length := by rw [hZ, List.length_append]; rfl
          have happ : ints .i64 Z = ints .i64 l ++ [i64 did] := by rw [hZ]; simp [ints]
          have hil : (ints .i64 l).length = l.length := ints_length _ _
          rw [← hZ] at hTl
          (repeat (first | refine K4 ?_ | refine K5 ?_ | refine L1 ?_ | refine S2 ?_))
          refine RG.load tok rfl rfl rfl (ldM_at rfl rfl (by show dropO (0 + iNat (((i + 1 : Nat) : Int) - 1) * 12 + 0) (dsC E) = _; rw [ei, Nat.zero_add]; exact hat0.trans rfl)) rfl rfl ?_
          (repeat (first | refine L2 ?_))
          refine RG.append tok rfl rfl rfl rfl rfl rfl rfl rfl (n1 := l.length) (c := ints .i64 l) (ks := [4]) rfl (m := 1) (ks' := [5]) rfl rfl (by omega) rfl (by omega) (by omega) rfl (c' := ints .i64 Z) (by rw [List.take_of_length_le (by omega), happ]; rfl) ?_
          rw [lZ]
          (repeat (first | refine K2 ?_ | refine K4 ?_ | refine L3 ?_ | refine RG.d ?_ | refine RG.dd ?_ | refine S2 ?_))
          refine ⟨(i, Z), ⟨by dsimp only; omega, by dsimp only; omega, hTl⟩, Nat.lt_succ_self _, Sub.renB sigD (by repeat (first | exact SubEr.no _ _ | refine SubEr.put rfl ?_ | refine SubEr.put (show some (A.val (.int .i64 ((((i + 1 : Nat) : Int) - 1) - 1))) = some (i64 ((i : Int) - 1)) by rw [show (((i + 1 : Nat) : Int) - 1) - 1 = (i : Int) - 1 by omega]) ?_)) (by repeat (first | exact SubHr.no _ _ | refine SubHr.put rfl rfl ?_ | refine SubHr.put rfl (hsC_free _) ?_ | refine SubHr.put rfl (dsC_free _) ?_ | refine SubHr.put rfl (ints_free _ _ _) ?_ | refine SubHr.putR rfl rfl ?_)) sigD_inj (fun a ha => sigD_hi a ha) (no_lt rfl)⟩
        · rw [if_neg hz] at hTl
          refine AW.condD rfl (fun kk => absurd ((wrap_i64 (n := (dpar.length : Int) + (dgiv.length : Int)) (by omega)).symm.trans (show IntKind.i64.wrap ((dpar.length : Int) + (dgiv.length : Int)) = 0 from kk)) (by omega)) (fun _ => ?_)
          (repeat (first | refine K2 ?_ | refine K4 ?_ | refine RG.d ?_ | refine S2 ?_ | refine S3 ?_))
          refine ⟨(i, l), ⟨by dsimp only; omega, hl2, hTl⟩, Nat.lt_succ_self _, Sub.of (by repeat (first | exact SubE.no _ | refine SubE.put rfl ?_ | refine SubE.put (show some (A.val (.int .i64 ((((i + 1 : Nat) : Int) - 1) - 1))) = some (i64 ((i : Int) - 1)) by rw [show (((i + 1 : Nat) : Int) - 1) - 1 = (i : Int) - 1 by omega]) ?_)) (by repeat (first | exact SubH.no _ | refine SubH.put rfl ?_)) rfl⟩
      · obtain rfl : l = T := by rw [← hTl, gThr, if_neg hll]
        (repeat (first | refine K4 ?_ | refine S1 ?_ | refine S2 ?_))
        refine RG.put 41 rfl (v' := .val (.bool true)) (by rw [decide_eq_true (show (((i + 1 : Nat) : Int) - 1) ≥ 0 by omega)]) ?_
        (repeat (first | refine K4 ?_ | refine L1 ?_ | refine RG.d ?_))
        refine AW.condD rfl (fun kk => absurd (show (l.length : Int) < 2 from kk) (by omega)) (fun _ => ?_)
        (repeat (first | refine S5 ?_))
        refine ⟨(), trivial, Sub.trans (Sub.frzH (ks := [4]) (c' := mD E (.ro l.length (ints .i64 l)) s2) 0 rfl (by decide) (by repeat (first | exact Frzs.nil | refine Frzs.cons (Frz.refl _) ?_ | refine Frzs.cons (frzI rfl (.head _) rfl) ?_))) ?_⟩
        exact Sub.down (by repeat (first | exact SubE.no _ | refine SubE.put rfl ?_)) (by repeat (first | exact SubH.no _ | refine SubH.put rfl ?_)) (by repeat (first | exact LtE.no _ | refine LtE.put rfl ?_)) (by repeat (first | exact LtH.no _ | refine LtH.put rfl rfl ?_ | refine LtH.put rfl (ltL_mono (Nat.zero_le _) _ (hsC_free E)) ?_ | refine LtH.put rfl (ltL_mono (Nat.zero_le _) _ (dsC_free E)) ?_)) rfl
  obtain ⟨U, hU⟩ : ∃ U, U = (if v3 = 0 then T.take 1 else T) := ⟨_, rfl⟩
  rw [← hU] at hF
  refine AW.seqJ (α := Unit) (fun _ => ⟨put 4 (some (.ptr 3 [] 0)) (put 5 (some (.ptr 0 [] 0)) noE), hput 0 (.one (mD E (.ro U.length (ints .i64 U)) s3)) (hput 1 (.one (hsC E)) (hput 2 (.one (dsC E)) (hput 3 (.one ([nilA, nilA, nilA, nilA, i64 0, i64 0, i64 0, nilA, nilA, nilA])) noH))), 4⟩) (fun _ => True) ?_ (fun _ _ => ?_)
  · by_cases hz : v3 = 0
    · rw [if_pos hz] at hU
      subst hU
      (repeat (first | refine KM c3 ?_ | refine K4 ?_ | refine RG.d ?_ | refine S1 ?_ | refine S2 ?_))
      refine AW.condD rfl (fun _ => ?_) (fun kk => absurd (show (v3 : Int) = 0 by omega) kk)
      (repeat (first | refine K4 ?_ | refine L1 ?_ | refine S2 ?_))
      refine RG.val tok rfl rfl rfl ⟨by decide, by omega, by rw [ints_length, Nat.mul_one]⟩ rfl rfl ?_
      refine RG.put 103 rfl (v' := .ro (T.take 1).length (ints .i64 (T.take 1))) (by rw [List.length_take, Nat.min_eq_left hP]; exact congrArg (A.ro 1) (by simp [ints]; rfl)) ?_
      (repeat (first | refine K4 ?_ | refine L3 ?_ | refine RG.d ?_))
      exact ⟨(), trivial, Sub.down (by repeat (first | exact SubE.no _ | refine SubE.put rfl ?_)) (by repeat (first | exact SubH.no _ | refine SubH.put rfl ?_)) (by repeat (first | exact LtE.no _ | refine LtE.put rfl ?_)) (by repeat (first | exact LtH.no _ | refine LtH.put rfl rfl ?_ | refine LtH.put rfl (ltL_mono (Nat.zero_le _) _ (hsC_free E)) ?_ | refine LtH.put rfl (ltL_mono (Nat.zero_le _) _ (dsC_free E)) ?_)) rfl⟩
    · rw [if_neg hz] at hU
      subst hU
      (repeat (first | refine KM c3 ?_ | refine K4 ?_ | refine RG.d ?_ | refine S1 ?_ | refine S2 ?_))
      refine AW.condD rfl (fun kk => absurd (show (v3 : Int) = 0 from kk) (by omega)) (fun _ => ?_)
      (repeat (first | refine S3 ?_))
      exact ⟨(), trivial, Sub.down (by repeat (first | exact SubE.no _ | refine SubE.put rfl ?_)) (by repeat (first | exact SubH.no _ | refine SubH.put rfl ?_)) (by repeat (first | exact LtE.no _ | refine LtE.put rfl ?_)) (by repeat (first | exact LtH.no _ | refine LtH.put rfl rfl ?_ | refine LtH.put rfl (ltL_mono (Nat.zero_le _) _ (hsC_free E)) ?_ | refine LtH.put rfl (ltL_mono (Nat.zero_le _) _ (dsC_free E)) ?_)) rfl⟩
  have lE1 : (dsC E).length = E.ds.length * 12 := flC_len (cl := Df.cl) (fun _ => rfl) _
  have lE2 : (hsC E).length = E.hs.length * 5 := flC_len (cl := Hd.cl) (fun _ => rfl) _
  refine AW.sub (Sub.frzH (ks := [1, 2]) (c' := (mD E (.ro U.length (ints .i64 U)) s3).set 9 (.ro E.hs.length (hsC E)) |>.set 10 (.ro E.ds.length (dsC E))) 0 rfl (by decide) (by repeat (first | exact Frzs.nil | refine Frzs.cons (Frz.refl _) ?_ | refine Frzs.cons (frzC (st := 5) rfl (.head _) lE2 (hsC_free E)) ?_ | refine Frzs.cons (frzC (st := 12) rfl (.tail _ (.head _)) lE1 (dsC_free E)) ?_))) ?_
  refine S1 ?_
  (repeat (first | refine K4 ?_ | refine L1 ?_ | refine L3 ?_ | refine RG.d ?_ | refine S2 ?_))
  subst hF
  (repeat (first | refine S6 ?_))
  exact ⟨⟨_, rfl, rfl⟩, rfl, .nil _⟩
end Go.Proofs.YtifeioddiddnoaaGreatDoor
