/- The reference's reader: statements. No conditions. -/
import Derived.Test.YtmfccaidgaelcaaEc31
set_option linter.unusedVariables false
set_option linter.unusedSimpArgs false
namespace Go.Proofs.Ytmfccaidgaelcaa
open Go.Abs Go Go.RowKit
set_option maxHeartbeats 16000000 in
set_option maxRecDepth 10000 in
theorem isms_fc (L : List Int) (hB : L.length ≤ 200000) : ∀ (k : Nat) (s : Inp), s.p ≤ L.length → L.length - s.p < k → FC Try.prog ge 94 [.ptr 0 [] 0] [.one (inC L s)] (.ro (mLstC L 20 (mSm L k) s).1.length (flC Sm.cl (mLstC L 20 (mSm L k) s).1)) [.one (inC L (mLstC L 20 (mSm L k) s).2)] NoP
  | 0, s, hs, hk => by omega
  | k + 1, s, hs, hk => by
    have cm := imany_fc L 20 (by decide) (by decide) s hs (by unfold BW; omega)
    have ct := ct_many 20 s hs (by decide)
    have hn := ct.n_le (by decide)
    obtain ⟨q, hq⟩ : ∃ q, q = mMany L 20 s := ⟨_, rfl⟩
    obtain ⟨R, hR⟩ : ∃ R, R = mLstC L 20 (mSm L (k + 1)) s := ⟨_, rfl⟩
    rw [← hR]
    rw [show mLstC L 20 (mSm L (k + 1)) s = mLoopC (mSm L (k + 1)) (mMany L 20 s).1 [] (mMany L 20 s).2 from rfl] at hR
    rw [← hq] at cm ct hn hR
    obtain ⟨n, s0⟩ := q
    dsimp only at cm ct hn hR
    refine FC.of_AW tok Try.func94 (by kernel_rfl) rfl Try.ntmps94 [] rfl rfl rfl ?_; intro w0 X0 Y f0 hI0 hX0
    refine S1 ?_; (repeat (first | refine K1 ?_ | refine K2 ?_ | refine K3 ?_ | refine K4 ?_ | refine K5 ?_ | refine K6 ?_ | refine K7 ?_ | refine L1 ?_ | refine L2 ?_ | refine L3 ?_ | refine RG.d ?_ | refine RG.dd ?_ | refine S2 ?_ | refine S3 ?_ | refine S4 ?_ | refine S5 ?_ | refine S7 ?_ | refine S8 ?_))
    refine S1 ?_; (repeat (first | refine K1 ?_ | refine K2 ?_ | refine K3 ?_ | refine K4 ?_ | refine K5 ?_ | refine K6 ?_ | refine K7 ?_ | refine L1 ?_ | refine L2 ?_ | refine L3 ?_ | refine RG.d ?_ | refine RG.dd ?_ | refine S2 ?_ | refine S3 ?_ | refine S4 ?_ | refine S5 ?_ | refine S7 ?_ | refine S8 ?_))
    refine AW.seqJ (fun _ : Unit => ⟨put 3 (some (.ro R.1.length (flC Sm.cl R.1))) noE, hput 0 (.one (inC L R.2)) noH, 1⟩) (fun _ => True) ?_ ?_
    · refine S1 ?_
      (repeat (first | refine RG.call rfl rfl rfl rfl (cm) [0] rfl rfl rfl rfl (.cons rfl (.one rfl) (Reg.lt_one rfl) ⟨[], _, rfl⟩ (.nil _)) (.cons (.one rfl) (.nil _)) (fun _ h => by first | exact h | exact False.elim h) rfl rfl rfl ?_ | refine K1 ?_ | refine K2 ?_ | refine K3 ?_ | refine K4 ?_ | refine K5 ?_ | refine K6 ?_ | refine K7 ?_ | refine L1 ?_ | refine L2 ?_ | refine L3 ?_ | refine RG.d ?_ | refine RG.dd ?_ | refine S2 ?_ | refine S3 ?_ | refine S4 ?_ | refine S5 ?_ | refine S7 ?_ | refine S8 ?_))
      first | refine S4 ?_ | skip
      refine AW.loopS (fun q : Nat × List Sm × Inp => ⟨put 0 (some (.ptr 0 [] 0)) (put 3 (some (.sl 1 [] 20 0 q.2.1.length)) (put 4 (some (i64 (q.1 : Int))) noE)), hput 0 (.one (inC L q.2.2)) (hput 1 (.one (flC Sm.cl q.2.1)) noH), 2⟩)
        (fun q => q.1 + q.2.1.length = n ∧ q.2.2.p ≤ L.length ∧ (q.2.2.bad = false → s.p < q.2.2.p) ∧ mLoopC (mSm L (k + 1)) q.1 q.2.1 q.2.2 = R) (fun q => q.1) (n, [], s0) ⟨rfl, ct.top, ct.up, hR.symm⟩ (Sub.of (by repeat (first | exact SubE.no _ | refine SubE.put rfl ?_)) (by repeat (first | exact SubH.no _ | refine SubH.put rfl ?_)) rfl) ?_
      rintro ⟨j, xs, t⟩ ⟨hj, htop, hup, hRj⟩
      dsimp only at hj htop hup hRj
      cases j with
      | zero =>
        obtain rfl : R = (xs, t) := hRj.symm
        (repeat (first | refine K1 ?_ | refine K2 ?_ | refine K3 ?_ | refine K4 ?_ | refine K5 ?_ | refine K6 ?_ | refine K7 ?_ | refine L1 ?_ | refine L2 ?_ | refine L3 ?_ | refine RG.d ?_ | refine RG.dd ?_ | refine S1 ?_ | refine S2 ?_ | refine S3 ?_ | refine S4 ?_ | refine S5 ?_ | refine S7 ?_ | refine S8 ?_))
        exact ⟨(), trivial, Sub.trans (Sub.frz (ks := [1]) 3 rfl (frzC rfl (by decide) (flC_len Sm.cl_len xs) (flC_free Sm.cl_free xs))) (Sub.down (by repeat (first | exact SubE.no _ | refine SubE.put rfl ?_)) (by repeat (first | exact SubH.no _ | refine SubH.put rfl ?_)) (by repeat (first | exact LtE.no _ | refine LtE.put rfl ?_)) (by repeat (first | exact LtH.no _ | refine LtH.put rfl rfl ?_)) rfl)⟩
      | succ j =>
        obtain ⟨p0, b0⟩ := t
        cases b0 with
        | true =>
          obtain rfl : R = (xs, ⟨p0, true⟩) := hRj.symm
          (repeat (first | refine K1 ?_ | refine K2 ?_ | refine K3 ?_ | refine K4 ?_ | refine K5 ?_ | refine K6 ?_ | refine K7 ?_ | refine L1 ?_ | refine L2 ?_ | refine L3 ?_ | refine RG.d ?_ | refine RG.dd ?_ | refine S1 ?_ | refine S2 ?_ | refine S3 ?_ | refine S4 ?_ | refine S5 ?_ | refine S7 ?_ | refine S8 ?_))
          refine RG.split 11 rfl (fun _ => ?_) (fun k => absurd (show (0 : Int) < ((j + 1 : Nat) : Int) by omega) k)
          (repeat (first | refine K1 ?_ | refine K2 ?_ | refine K3 ?_ | refine K4 ?_ | refine K5 ?_ | refine K6 ?_ | refine K7 ?_ | refine L1 ?_ | refine L2 ?_ | refine L3 ?_ | refine RG.d ?_ | refine RG.dd ?_ | refine S1 ?_ | refine S2 ?_ | refine S3 ?_ | refine S4 ?_ | refine S5 ?_ | refine S7 ?_ | refine S8 ?_))
          exact ⟨(), trivial, Sub.trans (Sub.frz (ks := [1]) 3 rfl (frzC rfl (by decide) (flC_len Sm.cl_len xs) (flC_free Sm.cl_free xs))) (Sub.down (by repeat (first | exact SubE.no _ | refine SubE.put rfl ?_)) (by repeat (first | exact SubH.no _ | refine SubH.put rfl ?_)) (by repeat (first | exact LtE.no _ | refine LtE.put rfl ?_)) (by repeat (first | exact LtH.no _ | refine LtH.put rfl rfl ?_)) rfl)⟩
        | false =>
          obtain ⟨w, hw⟩ : ∃ w, w = mSm L (k + 1) ⟨p0, false⟩ := ⟨_, rfl⟩
          have hRj : mLoopC (mSm L (k + 1)) j (xs ++ [(mSm L (k + 1) ⟨p0, false⟩).1]) (mSm L (k + 1) ⟨p0, false⟩).2 = R := hRj
          have hpos : s.p < p0 := hup rfl
          have htop : p0 ≤ L.length := htop
          have ht0 : L.length - p0 < k := by omega
          rw [← hw] at hRj
          obtain ⟨t, ht⟩ : ∃ t : Inp, t = ⟨p0, false⟩ := ⟨_, rfl⟩
          have k0 : Tp L t := ⟨by rw [ht]; exact htop⟩
          have htk : L.length - t.p < k := by rw [ht]; exact ht0
          have hpt : s.p < t.p := by rw [ht]; exact hpos
          simp only [mSm] at hw
          rw [← ht] at hw
          have c1 := inext_fc L t (by unfold BW; omega)
          have k1 := sp_next t k0.top
          obtain ⟨q1, h1⟩ : ∃ q, q = mNext L t := ⟨_, rfl⟩
          rw [← h1] at c1 k1 hw
          obtain ⟨site, t_1⟩ := q1
          dsimp only at c1 k1 hw
          clear h1
          have c2 := inext_fc L t_1 (by unfold BW; omega)
          have k2 := sp_next t_1 k1.top
          obtain ⟨q2, h2⟩ : ∃ q, q = mNext L t_1 := ⟨_, rfl⟩
          rw [← h2] at c2 k2 hw
          obtain ⟨op, t_2⟩ := q2
          dsimp only at c2 k2 hw
          clear h2
          have c3 := inext_fc L t_2 (by unfold BW; omega)
          have k3 := sp_next t_2 k2.top
          obtain ⟨q3, h3⟩ : ∃ q, q = mNext L t_2 := ⟨_, rfl⟩
          rw [← h3] at c3 k3 hw
          obtain ⟨sn, t_3⟩ := q3
          dsimp only at c3 k3 hw
          clear h3
          have c4 := inext_fc L t_3 (by unfold BW; omega)
          have k4 := sp_next t_3 k3.top
          obtain ⟨q4, h4⟩ : ∃ q, q = mNext L t_3 := ⟨_, rfl⟩
          rw [← h4] at c4 k4 hw
          obtain ⟨sm, t_4⟩ := q4
          dsimp only at c4 k4 hw
          clear h4
          have c5 := inext_fc L t_4 (by unfold BW; omega)
          have k5 := sp_next t_4 k4.top
          obtain ⟨q5, h5⟩ : ∃ q, q = mNext L t_4 := ⟨_, rfl⟩
          rw [← h5] at c5 k5 hw
          obtain ⟨sv, t_5⟩ := q5
          dsimp only at c5 k5 hw
          clear h5
          have c6 := iex_fc L hB k t_5 k5.top (by have := k1.le; have := k2.le; have := k3.le; have := k4.le; have := k5.le; omega)
          have k6 := sp_ex k t_5 k5.top (by have := k1.le; have := k2.le; have := k3.le; have := k4.le; have := k5.le; omega)
          obtain ⟨q6, h6⟩ : ∃ q, q = mEx L k t_5 := ⟨_, rfl⟩
          rw [← h6] at c6 k6 hw
          obtain ⟨⟨x1, x2, x3, x4⟩, t_6⟩ := q6
          dsimp only at c6 k6 hw
          clear h6
          simp only [Ex.cl] at c6
          have c7 := iex_fc L hB k t_6 k6.top (by have := k1.le; have := k2.le; have := k3.le; have := k4.le; have := k5.le; have := k6.le; omega)
          have k7 := sp_ex k t_6 k6.top (by have := k1.le; have := k2.le; have := k3.le; have := k4.le; have := k5.le; have := k6.le; omega)
          obtain ⟨q7, h7⟩ : ∃ q, q = mEx L k t_6 := ⟨_, rfl⟩
          rw [← h7] at c7 k7 hw
          obtain ⟨⟨y1, y2, y3, y4⟩, t_7⟩ := q7
          dsimp only at c7 k7 hw
          clear h7
          simp only [Ex.cl] at c7
          have c8 := ico_fc L hB k t_7 k7.top (by have := k1.le; have := k2.le; have := k3.le; have := k4.le; have := k5.le; have := k6.le; have := k7.le; omega)
          have k8 := sp_co k t_7 k7.top (by have := k1.le; have := k2.le; have := k3.le; have := k4.le; have := k5.le; have := k6.le; have := k7.le; omega)
          obtain ⟨q8, h8⟩ : ∃ q, q = mCo L k t_7 := ⟨_, rfl⟩
          rw [← h8] at c8 k8 hw
          obtain ⟨⟨z1, z2, z3⟩, t_8⟩ := q8
          dsimp only at c8 k8 hw
          clear h8
          simp only [Co.cl] at c8
          have c9 := iexs L hB k t_8 k8.top (by have := k1.le; have := k2.le; have := k3.le; have := k4.le; have := k5.le; have := k6.le; have := k7.le; have := k8.le; omega)
          have k9 := sp_exs k t_8 k8.top (by have := k1.le; have := k2.le; have := k3.le; have := k4.le; have := k5.le; have := k6.le; have := k7.le; have := k8.le; omega)
          obtain ⟨q9, h9⟩ : ∃ q, q = mLstC L 4 (mEx L k) t_8 := ⟨_, rfl⟩
          rw [← h9] at c9 k9 hw
          obtain ⟨args, t_9⟩ := q9
          dsimp only at c9 k9 hw
          clear h9
          have c10 := iints L hB t_9 k9.top
          have k10 := sp_ints t_9 k9.top
          obtain ⟨q10, h10⟩ : ∃ q, q = mLst L 1 (mNext L) t_9 := ⟨_, rfl⟩
          rw [← h10] at c10 k10 hw
          obtain ⟨ptrs, t_10⟩ := q10
          dsimp only at c10 k10 hw
          clear h10
          have c11 := isms_fc L hB k t_10 k10.top (by have := k1.le; have := k2.le; have := k3.le; have := k4.le; have := k5.le; have := k6.le; have := k7.le; have := k8.le; have := k9.le; have := k10.le; omega)
          have k11 := sp_sms k t_10 k10.top (by have := k1.le; have := k2.le; have := k3.le; have := k4.le; have := k5.le; have := k6.le; have := k7.le; have := k8.le; have := k9.le; have := k10.le; omega)
          obtain ⟨q11, h11⟩ : ∃ q, q = mLstC L 20 (mSm L k) t_10 := ⟨_, rfl⟩
          rw [← h11] at c11 k11 hw
          obtain ⟨body, t_11⟩ := q11
          dsimp only at c11 k11 hw
          clear h11
          have c12 := isms_fc L hB k t_11 k11.top (by have := k1.le; have := k2.le; have := k3.le; have := k4.le; have := k5.le; have := k6.le; have := k7.le; have := k8.le; have := k9.le; have := k10.le; have := k11.le; omega)
          have k12 := sp_sms k t_11 k11.top (by have := k1.le; have := k2.le; have := k3.le; have := k4.le; have := k5.le; have := k6.le; have := k7.le; have := k8.le; have := k9.le; have := k10.le; have := k11.le; omega)
          obtain ⟨q12, h12⟩ : ∃ q, q = mLstC L 20 (mSm L k) t_11 := ⟨_, rfl⟩
          rw [← h12] at c12 k12 hw
          obtain ⟨els, t_12⟩ := q12
          dsimp only at c12 k12 hw
          clear h12
          subst ht
          subst hw
          dsimp only at hRj
          have hge : s.p < t_12.p := by have := k1.le; have := k2.le; have := k3.le; have := k4.le; have := k5.le; have := k6.le; have := k7.le; have := k8.le; have := k9.le; have := k10.le; have := k11.le; have := k12.le; omega
          have htop2 := k12.top
          clear k0 k1 k2 k3 k4 k5 k6 k7 k8 k9 k10 k11 k12
          have hfl : (flC Sm.cl xs).length = xs.length * 20 := flC_len Sm.cl_len xs
          obtain ⟨x, hx⟩ : ∃ x : Sm, x = .mk site op sn sm sv (.mk x1 x2 x3 x4) (.mk y1 y2 y3 y4) (.mk z1 z2 z3) args ptrs body els := ⟨_, rfl⟩
          have hxc : [i64 site, i64 op, i64 sn, i64 sm, i64 sv, i64 x1, i64 x2, i64 x3, .ro x4.length (exC x4), i64 y1, i64 y2, i64 y3, .ro y4.length (exC y4), i64 z1, .ro z2.length (exC z2), .ro z3.length (coC z3), .ro args.length (flC Ex.cl args), rdi ptrs, .ro body.length (flC Sm.cl body), .ro els.length (flC Sm.cl els)] = x.cl := by
            rw [hx, ← exC_eq, ← smC_eq, ← smC_eq]; rfl
          rw [← hx] at hRj
          have happ := flC_append Sm.cl xs [x]
          rw [show flC Sm.cl [x] = x.cl by rw [flC, flC, List.append_nil], ← hxc] at happ
          obtain ⟨Z, hZ⟩ : ∃ Z, Z = xs ++ [x] := ⟨_, rfl⟩
          have lZ : xs.length + 1 = Z.length := by rw [hZ, List.length_append]; rfl
          rw [← hZ] at happ hRj
          (repeat (first | refine K1 ?_ | refine K2 ?_ | refine K3 ?_ | refine K4 ?_ | refine K5 ?_ | refine K6 ?_ | refine K7 ?_ | refine L1 ?_ | refine L2 ?_ | refine L3 ?_ | refine RG.d ?_ | refine RG.dd ?_ | refine S1 ?_ | refine S2 ?_ | refine S3 ?_ | refine S4 ?_ | refine S5 ?_ | refine S7 ?_ | refine S8 ?_))
          refine RG.split 11 rfl (fun _ => ?_) (fun k => absurd (show (0 : Int) < ((j + 1 : Nat) : Int) by omega) k)
          (repeat (first | refine K1 ?_ | refine K2 ?_ | refine K3 ?_ | refine K4 ?_ | refine K5 ?_ | refine K6 ?_ | refine K7 ?_ | refine L1 ?_ | refine L2 ?_ | refine L3 ?_ | refine RG.d ?_ | refine RG.dd ?_ | refine S1 ?_ | refine S2 ?_ | refine S3 ?_ | refine S4 ?_ | refine S5 ?_ | refine S7 ?_ | refine S8 ?_))
          refine RG.call rfl rfl rfl rfl (c1) [0] rfl rfl rfl rfl (.cons rfl (.one rfl) (Reg.lt_one rfl) ⟨[], _, rfl⟩ (.nil _)) (.cons (.one rfl) (.nil _)) (fun _ h => by first | exact h | exact False.elim h) rfl rfl rfl ?_
          (repeat (first | refine K1 ?_ | refine K2 ?_ | refine K3 ?_ | refine K4 ?_ | refine K5 ?_ | refine K6 ?_ | refine K7 ?_ | refine L1 ?_ | refine L2 ?_ | refine L3 ?_ | refine RG.d ?_ | refine RG.dd ?_ | refine S1 ?_ | refine S2 ?_ | refine S3 ?_ | refine S4 ?_ | refine S5 ?_ | refine S7 ?_ | refine S8 ?_))
          refine RG.call rfl rfl rfl rfl (c2) [0] rfl rfl rfl rfl (.cons rfl (.one rfl) (Reg.lt_one rfl) ⟨[], _, rfl⟩ (.nil _)) (.cons (.one rfl) (.nil _)) (fun _ h => by first | exact h | exact False.elim h) rfl rfl rfl ?_
          (repeat (first | refine K1 ?_ | refine K2 ?_ | refine K3 ?_ | refine K4 ?_ | refine K5 ?_ | refine K6 ?_ | refine K7 ?_ | refine L1 ?_ | refine L2 ?_ | refine L3 ?_ | refine RG.d ?_ | refine RG.dd ?_ | refine S1 ?_ | refine S2 ?_ | refine S3 ?_ | refine S4 ?_ | refine S5 ?_ | refine S7 ?_ | refine S8 ?_))
          refine RG.call rfl rfl rfl rfl (c3) [0] rfl rfl rfl rfl (.cons rfl (.one rfl) (Reg.lt_one rfl) ⟨[], _, rfl⟩ (.nil _)) (.cons (.one rfl) (.nil _)) (fun _ h => by first | exact h | exact False.elim h) rfl rfl rfl ?_
          (repeat (first | refine K1 ?_ | refine K2 ?_ | refine K3 ?_ | refine K4 ?_ | refine K5 ?_ | refine K6 ?_ | refine K7 ?_ | refine L1 ?_ | refine L2 ?_ | refine L3 ?_ | refine RG.d ?_ | refine RG.dd ?_ | refine S1 ?_ | refine S2 ?_ | refine S3 ?_ | refine S4 ?_ | refine S5 ?_ | refine S7 ?_ | refine S8 ?_))
          refine RG.call rfl rfl rfl rfl (c4) [0] rfl rfl rfl rfl (.cons rfl (.one rfl) (Reg.lt_one rfl) ⟨[], _, rfl⟩ (.nil _)) (.cons (.one rfl) (.nil _)) (fun _ h => by first | exact h | exact False.elim h) rfl rfl rfl ?_
          (repeat (first | refine K1 ?_ | refine K2 ?_ | refine K3 ?_ | refine K4 ?_ | refine K5 ?_ | refine K6 ?_ | refine K7 ?_ | refine L1 ?_ | refine L2 ?_ | refine L3 ?_ | refine RG.d ?_ | refine RG.dd ?_ | refine S1 ?_ | refine S2 ?_ | refine S3 ?_ | refine S4 ?_ | refine S5 ?_ | refine S7 ?_ | refine S8 ?_))
          refine RG.call rfl rfl rfl rfl (c5) [0] rfl rfl rfl rfl (.cons rfl (.one rfl) (Reg.lt_one rfl) ⟨[], _, rfl⟩ (.nil _)) (.cons (.one rfl) (.nil _)) (fun _ h => by first | exact h | exact False.elim h) rfl rfl rfl ?_
          (repeat (first | refine K1 ?_ | refine K2 ?_ | refine K3 ?_ | refine K4 ?_ | refine K5 ?_ | refine K6 ?_ | refine K7 ?_ | refine L1 ?_ | refine L2 ?_ | refine L3 ?_ | refine RG.d ?_ | refine RG.dd ?_ | refine S1 ?_ | refine S2 ?_ | refine S3 ?_ | refine S4 ?_ | refine S5 ?_ | refine S7 ?_ | refine S8 ?_))
          refine RG.call rfl rfl rfl rfl (c6) [0] rfl rfl rfl rfl (.cons rfl (.one rfl) (Reg.lt_one rfl) ⟨[], _, rfl⟩ (.nil _)) (.cons (.one rfl) (.nil _)) (fun _ h => by first | exact h | exact False.elim h) rfl rfl rfl ?_
          (repeat (first | refine K1 ?_ | refine K2 ?_ | refine K3 ?_ | refine K4 ?_ | refine K5 ?_ | refine K6 ?_ | refine K7 ?_ | refine L1 ?_ | refine L2 ?_ | refine L3 ?_ | refine RG.d ?_ | refine RG.dd ?_ | refine S1 ?_ | refine S2 ?_ | refine S3 ?_ | refine S4 ?_ | refine S5 ?_ | refine S7 ?_ | refine S8 ?_))
          refine RG.call rfl rfl rfl rfl (c7) [0] rfl rfl rfl rfl (.cons rfl (.one rfl) (Reg.lt_one rfl) ⟨[], _, rfl⟩ (.nil _)) (.cons (.one rfl) (.nil _)) (fun _ h => by first | exact h | exact False.elim h) rfl rfl rfl ?_
          (repeat (first | refine K1 ?_ | refine K2 ?_ | refine K3 ?_ | refine K4 ?_ | refine K5 ?_ | refine K6 ?_ | refine K7 ?_ | refine L1 ?_ | refine L2 ?_ | refine L3 ?_ | refine RG.d ?_ | refine RG.dd ?_ | refine S1 ?_ | refine S2 ?_ | refine S3 ?_ | refine S4 ?_ | refine S5 ?_ | refine S7 ?_ | refine S8 ?_))
          refine RG.call rfl rfl rfl rfl (c8) [0] rfl rfl rfl rfl (.cons rfl (.one rfl) (Reg.lt_one rfl) ⟨[], _, rfl⟩ (.nil _)) (.cons (.one rfl) (.nil _)) (fun _ h => by first | exact h | exact False.elim h) rfl rfl rfl ?_
          (repeat (first | refine K1 ?_ | refine K2 ?_ | refine K3 ?_ | refine K4 ?_ | refine K5 ?_ | refine K6 ?_ | refine K7 ?_ | refine L1 ?_ | refine L2 ?_ | refine L3 ?_ | refine RG.d ?_ | refine RG.dd ?_ | refine S1 ?_ | refine S2 ?_ | refine S3 ?_ | refine S4 ?_ | refine S5 ?_ | refine S7 ?_ | refine S8 ?_))
          refine RG.call rfl rfl rfl rfl (c9) [0] rfl rfl rfl rfl (.cons rfl (.one rfl) (Reg.lt_one rfl) ⟨[], _, rfl⟩ (.nil _)) (.cons (.one rfl) (.nil _)) (fun _ h => by first | exact h | exact False.elim h) rfl rfl rfl ?_
          (repeat (first | refine K1 ?_ | refine K2 ?_ | refine K3 ?_ | refine K4 ?_ | refine K5 ?_ | refine K6 ?_ | refine K7 ?_ | refine L1 ?_ | refine L2 ?_ | refine L3 ?_ | refine RG.d ?_ | refine RG.dd ?_ | refine S1 ?_ | refine S2 ?_ | refine S3 ?_ | refine S4 ?_ | refine S5 ?_ | refine S7 ?_ | refine S8 ?_))
          refine RG.call rfl rfl rfl rfl (c10) [0] rfl rfl rfl rfl (.cons rfl (.one rfl) (Reg.lt_one rfl) ⟨[], _, rfl⟩ (.nil _)) (.cons (.one rfl) (.nil _)) (fun _ h => by first | exact h | exact False.elim h) rfl rfl rfl ?_
          (repeat (first | refine K1 ?_ | refine K2 ?_ | refine K3 ?_ | refine K4 ?_ | refine K5 ?_ | refine K6 ?_ | refine K7 ?_ | refine L1 ?_ | refine L2 ?_ | refine L3 ?_ | refine RG.d ?_ | refine RG.dd ?_ | refine S1 ?_ | refine S2 ?_ | refine S3 ?_ | refine S4 ?_ | refine S5 ?_ | refine S7 ?_ | refine S8 ?_))
          refine RG.call rfl rfl rfl rfl (c11) [0] rfl rfl rfl rfl (.cons rfl (.one rfl) (Reg.lt_one rfl) ⟨[], _, rfl⟩ (.nil _)) (.cons (.one rfl) (.nil _)) (fun _ h => by first | exact h | exact False.elim h) rfl rfl rfl ?_
          (repeat (first | refine K1 ?_ | refine K2 ?_ | refine K3 ?_ | refine K4 ?_ | refine K5 ?_ | refine K6 ?_ | refine K7 ?_ | refine L1 ?_ | refine L2 ?_ | refine L3 ?_ | refine RG.d ?_ | refine RG.dd ?_ | refine S1 ?_ | refine S2 ?_ | refine S3 ?_ | refine S4 ?_ | refine S5 ?_ | refine S7 ?_ | refine S8 ?_))
          refine RG.call rfl rfl rfl rfl (c12) [0] rfl rfl rfl rfl (.cons rfl (.one rfl) (Reg.lt_one rfl) ⟨[], _, rfl⟩ (.nil _)) (.cons (.one rfl) (.nil _)) (fun _ h => by first | exact h | exact False.elim h) rfl rfl rfl ?_
          (repeat (first | refine K1 ?_ | refine K2 ?_ | refine K3 ?_ | refine K4 ?_ | refine K5 ?_ | refine K6 ?_ | refine K7 ?_ | refine L1 ?_ | refine L2 ?_ | refine L3 ?_ | refine RG.d ?_ | refine RG.dd ?_ | refine S1 ?_ | refine S2 ?_ | refine S3 ?_ | refine S4 ?_ | refine S5 ?_ | refine S7 ?_ | refine S8 ?_))
          refine RG.append tok rfl rfl rfl rfl rfl rfl rfl rfl (n1 := xs.length) (c := flC Sm.cl xs) (ks := [1]) rfl (m := 1) (ks' := [3]) rfl rfl (by omega) rfl (by omega) (by omega) rfl (c' := flC Sm.cl Z) (by rw [List.take_of_length_le (by omega), happ]; rfl) ?_
          rw [lZ]
          (repeat (first | refine K1 ?_ | refine K2 ?_ | refine K3 ?_ | refine K4 ?_ | refine K5 ?_ | refine K6 ?_ | refine K7 ?_ | refine L1 ?_ | refine L2 ?_ | refine L3 ?_ | refine RG.d ?_ | refine RG.dd ?_ | refine S1 ?_ | refine S2 ?_ | refine S3 ?_ | refine S4 ?_ | refine S5 ?_ | refine S7 ?_ | refine S8 ?_))
          rw [show ((j + 1 : Nat) : Int) - 1 = (j : Int) by omega]
          refine ⟨(j, Z, t_12), ⟨by dsimp only; omega, htop2, fun _ => hge, hRj⟩, Nat.lt_succ_self _, Sub.renB sigK ?_ ?_ sigK_inj (fun a ha => sigK_hi a ha) (fun a ha => sigK_q a ha)⟩
          · exact SubEr.put rfl (SubEr.put rfl (SubEr.put rfl (SubEr.no _ _)))
          · exact SubHr.put rfl rfl (SubHr.put rfl (flC_free Sm.cl_free _) (SubHr.no _ _))
    intro _ _
    (repeat (first | refine K1 ?_ | refine K2 ?_ | refine K3 ?_ | refine K4 ?_ | refine K5 ?_ | refine K6 ?_ | refine K7 ?_ | refine L1 ?_ | refine L2 ?_ | refine L3 ?_ | refine RG.d ?_ | refine RG.dd ?_ | refine S1 ?_ | refine S2 ?_ | refine S3 ?_ | refine S4 ?_ | refine S5 ?_ | refine S6 ?_ | refine S7 ?_ | refine S8 ?_))
    exact ⟨⟨_, rfl, rfl⟩, rfl, .cons rfl (.one rfl) (Reg.lt_one rfl) ⟨[], _, rfl⟩ (.nil _)⟩
end Go.Proofs.Ytmfccaidgaelcaa
