/- The reference's reader: expressions, conditions, statements. No conditions. -/
import Derived.Test.YtmfccaidgaelcaaEc29
import Derived.Test.YtmfccaidgaelcaaAbsE
import Derived.Test.YtmfccaidgaelcaaEc8
set_option linter.unusedVariables false
set_option linter.unusedSimpArgs false
namespace Go.Proofs.Ytmfccaidgaelcaa
open Go.Abs Go Go.RowKit
def sigI (k : Nat) : Nat := if k = 0 then 0 else k + 2
theorem sigI_inj : ∀ a b, sigI a = sigI b → a = b := by
  intro a b h; unfold sigI at h; repeat' split at h
  all_goals omega
theorem sigI_hi (a : Nat) (ha : 2 ≤ a) : 4 ≤ sigI a := by
  unfold sigI; repeat' split
  all_goals omega
theorem sigI_q (a : Nat) (ha : a < 1) : sigI a = a := by
  unfold sigI; repeat' split
  all_goals omega
def sigJ (k : Nat) : Nat := if k < 3 then k else k + 2
theorem sigJ_inj : ∀ a b, sigJ a = sigJ b → a = b := by
  intro a b h; unfold sigJ at h; repeat' split at h
  all_goals omega
theorem sigJ_hi (a : Nat) (ha : 4 ≤ a) : 6 ≤ sigJ a := by
  unfold sigJ; repeat' split
  all_goals omega
theorem sigJ_q (a : Nat) (ha : a < 1) : sigJ a = a := by
  unfold sigJ; repeat' split
  all_goals omega
def sigK (k : Nat) : Nat := if k = 0 then 0 else k + 3
theorem sigK_inj : ∀ a b, sigK a = sigK b → a = b := by
  intro a b h; unfold sigK at h; repeat' split at h
  all_goals omega
theorem sigK_hi (a : Nat) (ha : 2 ≤ a) : 5 ≤ sigK a := by
  unfold sigK; repeat' split
  all_goals omega
theorem sigK_q (a : Nat) (ha : a < 1) : sigK a = a := by
  unfold sigK; repeat' split
  all_goals omega

set_option maxHeartbeats 8000000 in
theorem iints_fc (L : List Int) (hB : L.length ≤ 200000) (f : Inp → Int × Inp) (s : Inp) (hs : s.p ≤ L.length) (hf : ∀ s1 : Inp, s1.p ≤ L.length → s1.p ≤ (f s1).2.p ∧ (f s1).2.p ≤ L.length)
    (c : ∀ s1 : Inp, s1.p ≤ L.length → FC Try.prog ge 91 [.ptr 0 [] 0] [.one (inC L s1)] ((fun x => i64 x) (f s1).1) [.one (inC L (f s1).2)] NoP) :
    FC Try.prog ge 117 [.ptr 0 [] 0] [.one (inC L s)] (.ro (mLst L 1 f s).1.length (flC icl (mLst L 1 f s).1)) [.one (inC L (mLst L 1 f s).2)] NoP := by
  have cm := imany_fc L 1 (by decide) (by decide) s hs (by unfold BW; omega)
  have ct := ct_many 1 s hs (by decide)
  have hn := ct.n_le (by decide)
  obtain ⟨q, hq⟩ : ∃ q, q = mMany L 1 s := ⟨_, rfl⟩
  obtain ⟨R, hR⟩ : ∃ R, R = mLst L 1 f s := ⟨_, rfl⟩
  rw [← hR]
  rw [show mLst L 1 f s = mLoop f (mMany L 1 s).1 [] (mMany L 1 s).2 from rfl] at hR
  rw [← hq] at cm ct hn hR
  obtain ⟨n, s1⟩ := q
  dsimp only at cm ct hn hR
  refine FC.of_AW tok Try.func117 (by kernel_rfl) rfl Try.ntmps117 [] rfl rfl rfl ?_; intro w0 X0 Y f0 hI0 hX0
  refine S1 ?_; (repeat (first | refine K1 ?_ | refine K2 ?_ | refine K3 ?_ | refine K4 ?_ | refine K5 ?_ | refine K6 ?_ | refine K7 ?_ | refine L1 ?_ | refine L2 ?_ | refine L3 ?_ | refine RG.d ?_ | refine RG.dd ?_ | refine S2 ?_ | refine S3 ?_ | refine S4 ?_ | refine S5 ?_ | refine S7 ?_ | refine S8 ?_))
  refine S1 ?_; (repeat (first | refine K1 ?_ | refine K2 ?_ | refine K3 ?_ | refine K4 ?_ | refine K5 ?_ | refine K6 ?_ | refine K7 ?_ | refine L1 ?_ | refine L2 ?_ | refine L3 ?_ | refine RG.d ?_ | refine RG.dd ?_ | refine S2 ?_ | refine S3 ?_ | refine S4 ?_ | refine S5 ?_ | refine S7 ?_ | refine S8 ?_))
  refine AW.seqJ (fun _ : Unit => ⟨put 3 (some (.ro R.1.length (flC icl R.1))) noE, hput 0 (.one (inC L R.2)) noH, 1⟩) (fun _ => True) ?_ ?_
  · refine S1 ?_
    (repeat (first | refine RG.call rfl rfl rfl rfl (cm) [0] rfl rfl rfl rfl (.cons rfl (.one rfl) (Reg.lt_one rfl) ⟨[], _, rfl⟩ (.nil _)) (.cons (.one rfl) (.nil _)) (fun _ h => by first | exact h | exact False.elim h) rfl rfl rfl ?_ | refine K1 ?_ | refine K2 ?_ | refine K3 ?_ | refine K4 ?_ | refine K5 ?_ | refine K6 ?_ | refine K7 ?_ | refine L1 ?_ | refine L2 ?_ | refine L3 ?_ | refine RG.d ?_ | refine RG.dd ?_ | refine S2 ?_ | refine S3 ?_ | refine S4 ?_ | refine S5 ?_ | refine S7 ?_ | refine S8 ?_))
    first | refine S4 ?_ | skip
    refine AW.loopS (fun q : Nat × List Int × Inp => ⟨put 0 (some (.ptr 0 [] 0)) (put 3 (some (.sl 1 [] 1 0 q.2.1.length)) (put 4 (some (i64 (q.1 : Int))) noE)), hput 0 (.one (inC L q.2.2)) (hput 1 (.one (flC icl q.2.1)) noH), 2⟩)
      (fun q => q.1 + q.2.1.length = n ∧ q.2.2.p ≤ L.length ∧ mLoop f q.1 q.2.1 q.2.2 = R) (fun q => q.1) (n, [], s1) ⟨rfl, ct.top, hR.symm⟩ (Sub.of (by repeat (first | exact SubE.no _ | refine SubE.put rfl ?_)) (by repeat (first | exact SubH.no _ | refine SubH.put rfl ?_)) rfl) ?_
    rintro ⟨j, xs, s2⟩ ⟨hj, htop, hRj⟩
    dsimp only at hj htop hRj
    cases j with
    | zero =>
      obtain rfl : R = (xs, s2) := hRj.symm
      (repeat (first | refine K1 ?_ | refine K2 ?_ | refine K3 ?_ | refine K4 ?_ | refine K5 ?_ | refine K6 ?_ | refine K7 ?_ | refine L1 ?_ | refine L2 ?_ | refine L3 ?_ | refine RG.d ?_ | refine RG.dd ?_ | refine S1 ?_ | refine S2 ?_ | refine S3 ?_ | refine S4 ?_ | refine S5 ?_ | refine S7 ?_ | refine S8 ?_))
      exact ⟨(), trivial, Sub.trans (Sub.frz (ks := [1]) 3 rfl (frzC rfl (by decide) (flC_len (cl := icl) (st := 1) (fun _ => rfl) xs) (flC_free (fun _ => rfl) xs))) (Sub.down (by repeat (first | exact SubE.no _ | refine SubE.put rfl ?_)) (by repeat (first | exact SubH.no _ | refine SubH.put rfl ?_)) (by repeat (first | exact LtE.no _ | refine LtE.put rfl ?_)) (by repeat (first | exact LtH.no _ | refine LtH.put rfl rfl ?_)) rfl)⟩
    | succ j =>
      have hRj : mLoop f j (xs ++ [(f s2).1]) (f s2).2 = R := hRj
      have cx := c s2 htop
      have hfx := hf s2 htop
      skip
      obtain ⟨w, hw⟩ : ∃ w, w = f s2 := ⟨_, rfl⟩
      rw [← hw] at cx hfx hRj
      obtain ⟨x, s3⟩ := w
      dsimp only at cx hfx hRj
      have hfl : (flC icl xs).length = xs.length * 1 := flC_len (cl := icl) (st := 1) (fun _ => rfl) xs
      have happ := flC_append icl xs [x]
      obtain ⟨Z, hZ⟩ : ∃ Z, Z = xs ++ [x] := ⟨_, rfl⟩
      have lZ : xs.length + 1 = Z.length := by rw [hZ, List.length_append]; rfl
      rw [← hZ] at happ hRj
      skip
      (repeat (first | refine K1 ?_ | refine K2 ?_ | refine K3 ?_ | refine K4 ?_ | refine K5 ?_ | refine K6 ?_ | refine K7 ?_ | refine L1 ?_ | refine L2 ?_ | refine L3 ?_ | refine RG.d ?_ | refine RG.dd ?_ | refine S1 ?_ | refine S2 ?_ | refine S3 ?_ | refine S4 ?_ | refine S5 ?_ | refine S7 ?_ | refine S8 ?_))
      refine AW.condD rfl (fun _ => ?_) (fun k => absurd (show (0 : Int) < ((j + 1 : Nat) : Int) by omega) k)
      (repeat (first | refine K1 ?_ | refine K2 ?_ | refine K3 ?_ | refine K4 ?_ | refine K5 ?_ | refine K6 ?_ | refine K7 ?_ | refine L1 ?_ | refine L2 ?_ | refine L3 ?_ | refine RG.d ?_ | refine RG.dd ?_ | refine S1 ?_ | refine S2 ?_ | refine S3 ?_ | refine S4 ?_ | refine S5 ?_ | refine S7 ?_ | refine S8 ?_))
      refine RG.call rfl rfl rfl rfl (cx) [0] rfl rfl rfl rfl (.cons rfl (.one rfl) (Reg.lt_one rfl) ⟨[], _, rfl⟩ (.nil _)) (.cons (.one rfl) (.nil _)) (fun _ h => by first | exact h | exact False.elim h) rfl rfl rfl ?_
      (first | refine K1 ?_ | refine K2 ?_ | refine K3 ?_ | refine K4 ?_ | refine K5 ?_ | refine K6 ?_ | refine K7 ?_ | refine L1 ?_ | refine L2 ?_ | refine L3 ?_)
      refine RG.append tok rfl rfl rfl rfl rfl rfl rfl rfl (n1 := xs.length) (c := flC icl xs) (ks := [1]) rfl (m := 1) (ks' := [2]) rfl rfl (by omega) rfl (by omega) (by omega) rfl (c' := flC icl Z) (by rw [List.take_of_length_le (by omega), happ]; rfl) ?_
      rw [lZ]
      (repeat (first | refine K1 ?_ | refine K2 ?_ | refine K3 ?_ | refine K4 ?_ | refine K5 ?_ | refine K6 ?_ | refine K7 ?_ | refine L1 ?_ | refine L2 ?_ | refine L3 ?_ | refine RG.d ?_ | refine RG.dd ?_ | refine S1 ?_ | refine S2 ?_ | refine S3 ?_ | refine S4 ?_ | refine S5 ?_ | refine S7 ?_ | refine S8 ?_))
      rw [show ((j + 1 : Nat) : Int) - 1 = (j : Int) by omega]
      refine ⟨(j, Z, s3), ⟨by dsimp only; omega, hfx.2, hRj⟩, Nat.lt_succ_self _, Sub.renB sigI ?_ ?_ sigI_inj (fun a ha => sigI_hi a ha) (fun a ha => sigI_q a ha)⟩
      · exact SubEr.put rfl (SubEr.put rfl (SubEr.put rfl (SubEr.no _ _)))
      · exact SubHr.put rfl rfl (SubHr.put rfl (flC_free (fun _ => rfl) _) (SubHr.no _ _))
  intro _ _
  (repeat (first | refine K1 ?_ | refine K2 ?_ | refine K3 ?_ | refine K4 ?_ | refine K5 ?_ | refine K6 ?_ | refine K7 ?_ | refine L1 ?_ | refine L2 ?_ | refine L3 ?_ | refine RG.d ?_ | refine RG.dd ?_ | refine S1 ?_ | refine S2 ?_ | refine S3 ?_ | refine S4 ?_ | refine S5 ?_ | refine S6 ?_ | refine S7 ?_ | refine S8 ?_))
  exact ⟨⟨_, rfl, rfl⟩, rfl, .cons rfl (.one rfl) (Reg.lt_one rfl) ⟨[], _, rfl⟩ (.nil _)⟩

set_option maxHeartbeats 4000000 in
theorem irg_fc (L : List Int) (hB : L.length ≤ 200000) (s : Inp) : FC Try.prog ge 113 [.ptr 0 [] 0] [.one (inC L s)] (.agg (mRg L s).1.cl) [.one (inC L (mRg L s).2)] NoP := by
  have c1 := inext_fc L s (by unfold BW; omega)
  have c2 := inext_fc L (mNext L s).2 (by unfold BW; omega)
  have c3 := inext_fc L (mNext L (mNext L s).2).2 (by unfold BW; omega)
  unfold mRg
  obtain ⟨q1, h1⟩ : ∃ q, q = mNext L s := ⟨_, rfl⟩
  rw [← h1] at c1 c2 c3 ⊢
  obtain ⟨x1, s1⟩ := q1
  dsimp only at c1 c2 c3 ⊢
  obtain ⟨q2, h2⟩ : ∃ q, q = mNext L s1 := ⟨_, rfl⟩
  rw [← h2] at c2 c3 ⊢
  obtain ⟨x2, s2⟩ := q2
  dsimp only at c2 c3 ⊢
  obtain ⟨q3, h3⟩ : ∃ q, q = mNext L s2 := ⟨_, rfl⟩
  rw [← h3] at c3 ⊢
  obtain ⟨x3, s3⟩ := q3
  dsimp only at c3 ⊢
  simp only [Rg.cl]
  clear h1 h2 h3
  refine FC.of_AW tok Try.func113 (by kernel_rfl) rfl Try.ntmps113 [] rfl rfl rfl ?_; intro w0 X0 Y f0 hI0 hX0
  (repeat (first | refine K1 ?_ | refine K2 ?_ | refine K3 ?_ | refine K4 ?_ | refine K5 ?_ | refine K6 ?_ | refine K7 ?_ | refine L1 ?_ | refine L2 ?_ | refine L3 ?_ | refine RG.d ?_ | refine RG.dd ?_ | refine S1 ?_ | refine S2 ?_ | refine S3 ?_ | refine S4 ?_ | refine S5 ?_ | refine S7 ?_ | refine S8 ?_))
  refine RG.call rfl rfl rfl rfl (c1) [0] rfl rfl rfl rfl (.cons rfl (.one rfl) (Reg.lt_one rfl) ⟨[], _, rfl⟩ (.nil _)) (.cons (.one rfl) (.nil _)) (fun _ h => by first | exact h | exact False.elim h) rfl rfl rfl ?_
  (repeat (first | refine K1 ?_ | refine K2 ?_ | refine K3 ?_ | refine K4 ?_ | refine K5 ?_ | refine K6 ?_ | refine K7 ?_ | refine L1 ?_ | refine L2 ?_ | refine L3 ?_ | refine RG.d ?_ | refine RG.dd ?_ | refine S1 ?_ | refine S2 ?_ | refine S3 ?_ | refine S4 ?_ | refine S5 ?_ | refine S7 ?_ | refine S8 ?_))
  refine RG.call rfl rfl rfl rfl (c2) [0] rfl rfl rfl rfl (.cons rfl (.one rfl) (Reg.lt_one rfl) ⟨[], _, rfl⟩ (.nil _)) (.cons (.one rfl) (.nil _)) (fun _ h => by first | exact h | exact False.elim h) rfl rfl rfl ?_
  (repeat (first | refine K1 ?_ | refine K2 ?_ | refine K3 ?_ | refine K4 ?_ | refine K5 ?_ | refine K6 ?_ | refine K7 ?_ | refine L1 ?_ | refine L2 ?_ | refine L3 ?_ | refine RG.d ?_ | refine RG.dd ?_ | refine S1 ?_ | refine S2 ?_ | refine S3 ?_ | refine S4 ?_ | refine S5 ?_ | refine S7 ?_ | refine S8 ?_))
  refine RG.call rfl rfl rfl rfl (c3) [0] rfl rfl rfl rfl (.cons rfl (.one rfl) (Reg.lt_one rfl) ⟨[], _, rfl⟩ (.nil _)) (.cons (.one rfl) (.nil _)) (fun _ h => by first | exact h | exact False.elim h) rfl rfl rfl ?_
  (repeat (first | refine K1 ?_ | refine K2 ?_ | refine K3 ?_ | refine K4 ?_ | refine K5 ?_ | refine K6 ?_ | refine K7 ?_ | refine L1 ?_ | refine L2 ?_ | refine L3 ?_ | refine RG.d ?_ | refine RG.dd ?_ | refine S1 ?_ | refine S2 ?_ | refine S3 ?_ | refine S4 ?_ | refine S5 ?_ | refine S6 ?_ | refine S7 ?_ | refine S8 ?_))
  exact ⟨⟨_, rfl, rfl⟩, rfl, .cons rfl (.one rfl) (Reg.lt_one rfl) ⟨[], _, rfl⟩ (.nil _)⟩

set_option maxHeartbeats 8000000 in
theorem irgs_fc (L : List Int) (hB : L.length ≤ 200000) (f : Inp → Rg × Inp) (s : Inp) (hs : s.p ≤ L.length) (hf : ∀ s1 : Inp, s1.p ≤ L.length → s1.p ≤ (f s1).2.p ∧ (f s1).2.p ≤ L.length)
    (c : ∀ s1 : Inp, s1.p ≤ L.length → FC Try.prog ge 113 [.ptr 0 [] 0] [.one (inC L s1)] ((fun x => .agg x.cl) (f s1).1) [.one (inC L (f s1).2)] NoP) :
    FC Try.prog ge 93 [.ptr 0 [] 0] [.one (inC L s)] (.ro (mLst L 3 f s).1.length (flC Rg.cl (mLst L 3 f s).1)) [.one (inC L (mLst L 3 f s).2)] NoP := by
  have cm := imany_fc L 3 (by decide) (by decide) s hs (by unfold BW; omega)
  have ct := ct_many 3 s hs (by decide)
  have hn := ct.n_le (by decide)
  obtain ⟨q, hq⟩ : ∃ q, q = mMany L 3 s := ⟨_, rfl⟩
  obtain ⟨R, hR⟩ : ∃ R, R = mLst L 3 f s := ⟨_, rfl⟩
  rw [← hR]
  rw [show mLst L 3 f s = mLoop f (mMany L 3 s).1 [] (mMany L 3 s).2 from rfl] at hR
  rw [← hq] at cm ct hn hR
  obtain ⟨n, s1⟩ := q
  dsimp only at cm ct hn hR
  refine FC.of_AW tok Try.func93 (by kernel_rfl) rfl Try.ntmps93 [] rfl rfl rfl ?_; intro w0 X0 Y f0 hI0 hX0
  refine S1 ?_; (repeat (first | refine K1 ?_ | refine K2 ?_ | refine K3 ?_ | refine K4 ?_ | refine K5 ?_ | refine K6 ?_ | refine K7 ?_ | refine L1 ?_ | refine L2 ?_ | refine L3 ?_ | refine RG.d ?_ | refine RG.dd ?_ | refine S2 ?_ | refine S3 ?_ | refine S4 ?_ | refine S5 ?_ | refine S7 ?_ | refine S8 ?_))
  refine S1 ?_; (repeat (first | refine K1 ?_ | refine K2 ?_ | refine K3 ?_ | refine K4 ?_ | refine K5 ?_ | refine K6 ?_ | refine K7 ?_ | refine L1 ?_ | refine L2 ?_ | refine L3 ?_ | refine RG.d ?_ | refine RG.dd ?_ | refine S2 ?_ | refine S3 ?_ | refine S4 ?_ | refine S5 ?_ | refine S7 ?_ | refine S8 ?_))
  refine AW.seqJ (fun _ : Unit => ⟨put 3 (some (.ro R.1.length (flC Rg.cl R.1))) noE, hput 0 (.one (inC L R.2)) noH, 1⟩) (fun _ => True) ?_ ?_
  · refine S1 ?_
    (repeat (first | refine RG.call rfl rfl rfl rfl (cm) [0] rfl rfl rfl rfl (.cons rfl (.one rfl) (Reg.lt_one rfl) ⟨[], _, rfl⟩ (.nil _)) (.cons (.one rfl) (.nil _)) (fun _ h => by first | exact h | exact False.elim h) rfl rfl rfl ?_ | refine K1 ?_ | refine K2 ?_ | refine K3 ?_ | refine K4 ?_ | refine K5 ?_ | refine K6 ?_ | refine K7 ?_ | refine L1 ?_ | refine L2 ?_ | refine L3 ?_ | refine RG.d ?_ | refine RG.dd ?_ | refine S2 ?_ | refine S3 ?_ | refine S4 ?_ | refine S5 ?_ | refine S7 ?_ | refine S8 ?_))
    first | refine S4 ?_ | skip
    refine AW.loopS (fun q : Nat × List Rg × Inp => ⟨put 0 (some (.ptr 0 [] 0)) (put 3 (some (.sl 1 [] 3 0 q.2.1.length)) (put 4 (some (i64 (q.1 : Int))) noE)), hput 0 (.one (inC L q.2.2)) (hput 1 (.one (flC Rg.cl q.2.1)) noH), 2⟩)
      (fun q => q.1 + q.2.1.length = n ∧ q.2.2.p ≤ L.length ∧ mLoop f q.1 q.2.1 q.2.2 = R) (fun q => q.1) (n, [], s1) ⟨rfl, ct.top, hR.symm⟩ (Sub.of (by repeat (first | exact SubE.no _ | refine SubE.put rfl ?_)) (by repeat (first | exact SubH.no _ | refine SubH.put rfl ?_)) rfl) ?_
    rintro ⟨j, xs, s2⟩ ⟨hj, htop, hRj⟩
    dsimp only at hj htop hRj
    cases j with
    | zero =>
      obtain rfl : R = (xs, s2) := hRj.symm
      (repeat (first | refine K1 ?_ | refine K2 ?_ | refine K3 ?_ | refine K4 ?_ | refine K5 ?_ | refine K6 ?_ | refine K7 ?_ | refine L1 ?_ | refine L2 ?_ | refine L3 ?_ | refine RG.d ?_ | refine RG.dd ?_ | refine S1 ?_ | refine S2 ?_ | refine S3 ?_ | refine S4 ?_ | refine S5 ?_ | refine S7 ?_ | refine S8 ?_))
      exact ⟨(), trivial, Sub.trans (Sub.frz (ks := [1]) 3 rfl (frzC rfl (by decide) (flC_len (cl := Rg.cl) (st := 3) (fun _ => rfl) xs) (flC_free (fun _ => rfl) xs))) (Sub.down (by repeat (first | exact SubE.no _ | refine SubE.put rfl ?_)) (by repeat (first | exact SubH.no _ | refine SubH.put rfl ?_)) (by repeat (first | exact LtE.no _ | refine LtE.put rfl ?_)) (by repeat (first | exact LtH.no _ | refine LtH.put rfl rfl ?_)) rfl)⟩
    | succ j =>
      have hRj : mLoop f j (xs ++ [(f s2).1]) (f s2).2 = R := hRj
      have cx := c s2 htop
      have hfx := hf s2 htop
      skip
      obtain ⟨w, hw⟩ : ∃ w, w = f s2 := ⟨_, rfl⟩
      rw [← hw] at cx hfx hRj
      obtain ⟨x, s3⟩ := w
      dsimp only at cx hfx hRj
      have hfl : (flC Rg.cl xs).length = xs.length * 3 := flC_len (cl := Rg.cl) (st := 3) (fun _ => rfl) xs
      have happ := flC_append Rg.cl xs [x]
      obtain ⟨Z, hZ⟩ : ∃ Z, Z = xs ++ [x] := ⟨_, rfl⟩
      have lZ : xs.length + 1 = Z.length := by rw [hZ, List.length_append]; rfl
      rw [← hZ] at happ hRj
      simp only [Rg.cl] at cx
      (repeat (first | refine K1 ?_ | refine K2 ?_ | refine K3 ?_ | refine K4 ?_ | refine K5 ?_ | refine K6 ?_ | refine K7 ?_ | refine L1 ?_ | refine L2 ?_ | refine L3 ?_ | refine RG.d ?_ | refine RG.dd ?_ | refine S1 ?_ | refine S2 ?_ | refine S3 ?_ | refine S4 ?_ | refine S5 ?_ | refine S7 ?_ | refine S8 ?_))
      refine AW.condD rfl (fun _ => ?_) (fun k => absurd (show (0 : Int) < ((j + 1 : Nat) : Int) by omega) k)
      (repeat (first | refine K1 ?_ | refine K2 ?_ | refine K3 ?_ | refine K4 ?_ | refine K5 ?_ | refine K6 ?_ | refine K7 ?_ | refine L1 ?_ | refine L2 ?_ | refine L3 ?_ | refine RG.d ?_ | refine RG.dd ?_ | refine S1 ?_ | refine S2 ?_ | refine S3 ?_ | refine S4 ?_ | refine S5 ?_ | refine S7 ?_ | refine S8 ?_))
      refine RG.call rfl rfl rfl rfl (cx) [0] rfl rfl rfl rfl (.cons rfl (.one rfl) (Reg.lt_one rfl) ⟨[], _, rfl⟩ (.nil _)) (.cons (.one rfl) (.nil _)) (fun _ h => by first | exact h | exact False.elim h) rfl rfl rfl ?_
      (first | refine K1 ?_ | refine K2 ?_ | refine K3 ?_ | refine K4 ?_ | refine K5 ?_ | refine K6 ?_ | refine K7 ?_ | refine L1 ?_ | refine L2 ?_ | refine L3 ?_)
      refine RG.append tok rfl rfl rfl rfl rfl rfl rfl rfl (n1 := xs.length) (c := flC Rg.cl xs) (ks := [1]) rfl (m := 1) (ks' := [2]) rfl rfl (by omega) rfl (by omega) (by omega) rfl (c' := flC Rg.cl Z) (by rw [List.take_of_length_le (by omega), happ]; rfl) ?_
      rw [lZ]
      (repeat (first | refine K1 ?_ | refine K2 ?_ | refine K3 ?_ | refine K4 ?_ | refine K5 ?_ | refine K6 ?_ | refine K7 ?_ | refine L1 ?_ | refine L2 ?_ | refine L3 ?_ | refine RG.d ?_ | refine RG.dd ?_ | refine S1 ?_ | refine S2 ?_ | refine S3 ?_ | refine S4 ?_ | refine S5 ?_ | refine S7 ?_ | refine S8 ?_))
      rw [show ((j + 1 : Nat) : Int) - 1 = (j : Int) by omega]
      refine ⟨(j, Z, s3), ⟨by dsimp only; omega, hfx.2, hRj⟩, Nat.lt_succ_self _, Sub.renB sigI ?_ ?_ sigI_inj (fun a ha => sigI_hi a ha) (fun a ha => sigI_q a ha)⟩
      · exact SubEr.put rfl (SubEr.put rfl (SubEr.put rfl (SubEr.no _ _)))
      · exact SubHr.put rfl rfl (SubHr.put rfl (flC_free (fun _ => rfl) _) (SubHr.no _ _))
  intro _ _
  (repeat (first | refine K1 ?_ | refine K2 ?_ | refine K3 ?_ | refine K4 ?_ | refine K5 ?_ | refine K6 ?_ | refine K7 ?_ | refine L1 ?_ | refine L2 ?_ | refine L3 ?_ | refine RG.d ?_ | refine RG.dd ?_ | refine S1 ?_ | refine S2 ?_ | refine S3 ?_ | refine S4 ?_ | refine S5 ?_ | refine S6 ?_ | refine S7 ?_ | refine S8 ?_))
  exact ⟨⟨_, rfl, rfl⟩, rfl, .cons rfl (.one rfl) (Reg.lt_one rfl) ⟨[], _, rfl⟩ (.nil _)⟩

set_option maxHeartbeats 8000000 in
theorem iexs_fc (L : List Int) (hB : L.length ≤ 200000) (f : Inp → Ex × Inp) (s : Inp) (hs : s.p ≤ L.length) (hf : ∀ s1 : Inp, s1.p ≤ L.length → s.p < s1.p → s1.p ≤ (f s1).2.p ∧ (f s1).2.p ≤ L.length)
    (c : ∀ s1 : Inp, s1.p ≤ L.length → s.p < s1.p → FC Try.prog ge 114 [.ptr 0 [] 0] [.one (inC L s1)] ((fun x => .agg x.cl) (f s1).1) [.one (inC L (f s1).2)] NoP) :
    FC Try.prog ge 116 [.ptr 0 [] 0] [.one (inC L s)] (.ro (mLstC L 4 f s).1.length (flC Ex.cl (mLstC L 4 f s).1)) [.one (inC L (mLstC L 4 f s).2)] NoP := by
  have cm := imany_fc L 4 (by decide) (by decide) s hs (by unfold BW; omega)
  have ct := ct_many 4 s hs (by decide)
  have hn := ct.n_le (by decide)
  obtain ⟨q, hq⟩ : ∃ q, q = mMany L 4 s := ⟨_, rfl⟩
  obtain ⟨R, hR⟩ : ∃ R, R = mLstC L 4 f s := ⟨_, rfl⟩
  rw [← hR]
  rw [show mLstC L 4 f s = mLoopC f (mMany L 4 s).1 [] (mMany L 4 s).2 from rfl] at hR
  rw [← hq] at cm ct hn hR
  obtain ⟨n, s1⟩ := q
  dsimp only at cm ct hn hR
  refine FC.of_AW tok Try.func116 (by kernel_rfl) rfl Try.ntmps116 [] rfl rfl rfl ?_; intro w0 X0 Y f0 hI0 hX0
  refine S1 ?_; (repeat (first | refine K1 ?_ | refine K2 ?_ | refine K3 ?_ | refine K4 ?_ | refine K5 ?_ | refine K6 ?_ | refine K7 ?_ | refine L1 ?_ | refine L2 ?_ | refine L3 ?_ | refine RG.d ?_ | refine RG.dd ?_ | refine S2 ?_ | refine S3 ?_ | refine S4 ?_ | refine S5 ?_ | refine S7 ?_ | refine S8 ?_))
  refine S1 ?_; (repeat (first | refine K1 ?_ | refine K2 ?_ | refine K3 ?_ | refine K4 ?_ | refine K5 ?_ | refine K6 ?_ | refine K7 ?_ | refine L1 ?_ | refine L2 ?_ | refine L3 ?_ | refine RG.d ?_ | refine RG.dd ?_ | refine S2 ?_ | refine S3 ?_ | refine S4 ?_ | refine S5 ?_ | refine S7 ?_ | refine S8 ?_))
  refine AW.seqJ (fun _ : Unit => ⟨put 3 (some (.ro R.1.length (flC Ex.cl R.1))) noE, hput 0 (.one (inC L R.2)) noH, 1⟩) (fun _ => True) ?_ ?_
  · refine S1 ?_
    (repeat (first | refine RG.call rfl rfl rfl rfl (cm) [0] rfl rfl rfl rfl (.cons rfl (.one rfl) (Reg.lt_one rfl) ⟨[], _, rfl⟩ (.nil _)) (.cons (.one rfl) (.nil _)) (fun _ h => by first | exact h | exact False.elim h) rfl rfl rfl ?_ | refine K1 ?_ | refine K2 ?_ | refine K3 ?_ | refine K4 ?_ | refine K5 ?_ | refine K6 ?_ | refine K7 ?_ | refine L1 ?_ | refine L2 ?_ | refine L3 ?_ | refine RG.d ?_ | refine RG.dd ?_ | refine S2 ?_ | refine S3 ?_ | refine S4 ?_ | refine S5 ?_ | refine S7 ?_ | refine S8 ?_))
    first | refine S4 ?_ | skip
    refine AW.loopS (fun q : Nat × List Ex × Inp => ⟨put 0 (some (.ptr 0 [] 0)) (put 3 (some (.sl 1 [] 4 0 q.2.1.length)) (put 4 (some (i64 (q.1 : Int))) noE)), hput 0 (.one (inC L q.2.2)) (hput 1 (.one (flC Ex.cl q.2.1)) noH), 2⟩)
      (fun q => q.1 + q.2.1.length = n ∧ q.2.2.p ≤ L.length ∧ (q.2.2.bad = false → s.p < q.2.2.p) ∧ mLoopC f q.1 q.2.1 q.2.2 = R) (fun q => q.1) (n, [], s1) ⟨rfl, ct.top, ct.up, hR.symm⟩ (Sub.of (by repeat (first | exact SubE.no _ | refine SubE.put rfl ?_)) (by repeat (first | exact SubH.no _ | refine SubH.put rfl ?_)) rfl) ?_
    rintro ⟨j, xs, s2⟩ ⟨hj, htop, hup, hRj⟩
    dsimp only at hj htop hup hRj
    cases j with
    | zero =>
      obtain rfl : R = (xs, s2) := hRj.symm
      (repeat (first | refine K1 ?_ | refine K2 ?_ | refine K3 ?_ | refine K4 ?_ | refine K5 ?_ | refine K6 ?_ | refine K7 ?_ | refine L1 ?_ | refine L2 ?_ | refine L3 ?_ | refine RG.d ?_ | refine RG.dd ?_ | refine S1 ?_ | refine S2 ?_ | refine S3 ?_ | refine S4 ?_ | refine S5 ?_ | refine S7 ?_ | refine S8 ?_))
      exact ⟨(), trivial, Sub.trans (Sub.frz (ks := [1]) 3 rfl (frzC rfl (by decide) (flC_len Ex.cl_len xs) (flC_free Ex.cl_free xs))) (Sub.down (by repeat (first | exact SubE.no _ | refine SubE.put rfl ?_)) (by repeat (first | exact SubH.no _ | refine SubH.put rfl ?_)) (by repeat (first | exact LtE.no _ | refine LtE.put rfl ?_)) (by repeat (first | exact LtH.no _ | refine LtH.put rfl rfl ?_)) rfl)⟩
    | succ j =>
      obtain ⟨p2, b2⟩ := s2
      cases b2 with
      | true =>
        obtain rfl : R = (xs, ⟨p2, true⟩) := hRj.symm
        (repeat (first | refine K1 ?_ | refine K2 ?_ | refine K3 ?_ | refine K4 ?_ | refine K5 ?_ | refine K6 ?_ | refine K7 ?_ | refine L1 ?_ | refine L2 ?_ | refine L3 ?_ | refine RG.d ?_ | refine RG.dd ?_ | refine S1 ?_ | refine S2 ?_ | refine S3 ?_ | refine S4 ?_ | refine S5 ?_ | refine S7 ?_ | refine S8 ?_))
        refine RG.split 10 rfl (fun _ => ?_) (fun k => absurd (show (0 : Int) < ((j + 1 : Nat) : Int) by omega) k)
        (repeat (first | refine K1 ?_ | refine K2 ?_ | refine K3 ?_ | refine K4 ?_ | refine K5 ?_ | refine K6 ?_ | refine K7 ?_ | refine L1 ?_ | refine L2 ?_ | refine L3 ?_ | refine RG.d ?_ | refine RG.dd ?_ | refine S1 ?_ | refine S2 ?_ | refine S3 ?_ | refine S4 ?_ | refine S5 ?_ | refine S7 ?_ | refine S8 ?_))
        exact ⟨(), trivial, Sub.trans (Sub.frz (ks := [1]) 3 rfl (frzC rfl (by decide) (flC_len Ex.cl_len xs) (flC_free Ex.cl_free xs))) (Sub.down (by repeat (first | exact SubE.no _ | refine SubE.put rfl ?_)) (by repeat (first | exact SubH.no _ | refine SubH.put rfl ?_)) (by repeat (first | exact LtE.no _ | refine LtE.put rfl ?_)) (by repeat (first | exact LtH.no _ | refine LtH.put rfl rfl ?_)) rfl)⟩
      | false =>
        have hbad : (⟨p2, false⟩ : Inp).bad = false := rfl
        obtain ⟨s2, hs2⟩ : ∃ s2 : Inp, s2 = ⟨p2, false⟩ := ⟨_, rfl⟩
        have hRj : mLoopC f j (xs ++ [(f ⟨p2, false⟩).1]) (f ⟨p2, false⟩).2 = R := hRj
        have cx := c ⟨p2, false⟩ htop (hup rfl)
        have hfx := hf ⟨p2, false⟩ htop (hup rfl)
        have hpos := hup rfl
        obtain ⟨w, hw⟩ : ∃ w, w = f ⟨p2, false⟩ := ⟨_, rfl⟩
        rw [← hw] at cx hfx hRj
        obtain ⟨x, s3⟩ := w
        dsimp only at cx hfx hRj
        have hfl : (flC Ex.cl xs).length = xs.length * 4 := flC_len Ex.cl_len xs
        have happ := flC_append Ex.cl xs [x]
        obtain ⟨Z, hZ⟩ : ∃ Z, Z = xs ++ [x] := ⟨_, rfl⟩
        have lZ : xs.length + 1 = Z.length := by rw [hZ, List.length_append]; rfl
        rw [← hZ] at happ hRj
        obtain ⟨op, en, v, a⟩ := x; simp only [Ex.cl] at cx
        (repeat (first | refine K1 ?_ | refine K2 ?_ | refine K3 ?_ | refine K4 ?_ | refine K5 ?_ | refine K6 ?_ | refine K7 ?_ | refine L1 ?_ | refine L2 ?_ | refine L3 ?_ | refine RG.d ?_ | refine RG.dd ?_ | refine S1 ?_ | refine S2 ?_ | refine S3 ?_ | refine S4 ?_ | refine S5 ?_ | refine S7 ?_ | refine S8 ?_))
        refine RG.split 10 rfl (fun _ => ?_) (fun k => absurd (show (0 : Int) < ((j + 1 : Nat) : Int) by omega) k)
        (repeat (first | refine K1 ?_ | refine K2 ?_ | refine K3 ?_ | refine K4 ?_ | refine K5 ?_ | refine K6 ?_ | refine K7 ?_ | refine L1 ?_ | refine L2 ?_ | refine L3 ?_ | refine RG.d ?_ | refine RG.dd ?_ | refine S1 ?_ | refine S2 ?_ | refine S3 ?_ | refine S4 ?_ | refine S5 ?_ | refine S7 ?_ | refine S8 ?_))
        refine RG.call rfl rfl rfl rfl (cx) [0] rfl rfl rfl rfl (.cons rfl (.one rfl) (Reg.lt_one rfl) ⟨[], _, rfl⟩ (.nil _)) (.cons (.one rfl) (.nil _)) (fun _ h => by first | exact h | exact False.elim h) rfl rfl rfl ?_
        (first | refine K1 ?_ | refine K2 ?_ | refine K3 ?_ | refine K4 ?_ | refine K5 ?_ | refine K6 ?_ | refine K7 ?_ | refine L1 ?_ | refine L2 ?_ | refine L3 ?_)
        refine RG.append tok rfl rfl rfl rfl rfl rfl rfl rfl (n1 := xs.length) (c := flC Ex.cl xs) (ks := [1]) rfl (m := 1) (ks' := [2]) rfl rfl (by omega) rfl (by omega) (by omega) rfl (c' := flC Ex.cl Z) (by rw [List.take_of_length_le (by omega), happ]; rfl) ?_
        rw [lZ]
        (repeat (first | refine K1 ?_ | refine K2 ?_ | refine K3 ?_ | refine K4 ?_ | refine K5 ?_ | refine K6 ?_ | refine K7 ?_ | refine L1 ?_ | refine L2 ?_ | refine L3 ?_ | refine RG.d ?_ | refine RG.dd ?_ | refine S1 ?_ | refine S2 ?_ | refine S3 ?_ | refine S4 ?_ | refine S5 ?_ | refine S7 ?_ | refine S8 ?_))
        rw [show ((j + 1 : Nat) : Int) - 1 = (j : Int) by omega]
        refine ⟨(j, Z, s3), ⟨by dsimp only; omega, hfx.2, fun _ => Nat.lt_of_lt_of_le hpos hfx.1, hRj⟩, Nat.lt_succ_self _, Sub.renB sigI ?_ ?_ sigI_inj (fun a ha => sigI_hi a ha) (fun a ha => sigI_q a ha)⟩
        · exact SubEr.put rfl (SubEr.put rfl (SubEr.put rfl (SubEr.no _ _)))
        · exact SubHr.put rfl rfl (SubHr.put rfl (flC_free Ex.cl_free _) (SubHr.no _ _))
  intro _ _
  (repeat (first | refine K1 ?_ | refine K2 ?_ | refine K3 ?_ | refine K4 ?_ | refine K5 ?_ | refine K6 ?_ | refine K7 ?_ | refine L1 ?_ | refine L2 ?_ | refine L3 ?_ | refine RG.d ?_ | refine RG.dd ?_ | refine S1 ?_ | refine S2 ?_ | refine S3 ?_ | refine S4 ?_ | refine S5 ?_ | refine S6 ?_ | refine S7 ?_ | refine S8 ?_))
  exact ⟨⟨_, rfl, rfl⟩, rfl, .cons rfl (.one rfl) (Reg.lt_one rfl) ⟨[], _, rfl⟩ (.nil _)⟩
end Go.Proofs.Ytmfccaidgaelcaa
