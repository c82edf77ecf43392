/- The reference's reader: expressions, conditions, statements. No conditions. -/
import Derived.Test.YtmfccaidgaelcaaEc30
set_option linter.unusedVariables false
set_option linter.unusedSimpArgs false
namespace Go.Proofs.Ytmfccaidgaelcaa
open Go.Abs Go Go.RowKit
structure Tp (L : List Int) (s : Inp) : Prop where
  top : s.p ≤ L.length
theorem sp_le' {α : Type} {L : List Int} {rd : Rdr α} {s s' : Inp} {x : α} (h : Sp L rd s x s') : s.p ≤ s'.p ∧ s'.p ≤ L.length := ⟨h.le, h.top⟩
theorem iints (L : List Int) (hB : L.length ≤ 200000) (s : Inp) (hs : s.p ≤ L.length) : FC Try.prog ge 117 [.ptr 0 [] 0] [.one (inC L s)] (rdi (mLst L 1 (mNext L) s).1) [.one (inC L (mLst L 1 (mNext L) s).2)] NoP := by
  have c := iints_fc L hB (mNext L) s hs (fun s1 h => sp_le' (sp_next s1 h)) (fun s1 _ => inext_fc L s1 (by unfold BW; omega))
  rw [icl_eq] at c
  exact c
theorem irgs (L : List Int) (hB : L.length ≤ 200000) (s : Inp) (hs : s.p ≤ L.length) : FC Try.prog ge 93 [.ptr 0 [] 0] [.one (inC L s)] (.ro (mLst L 3 (mRg L) s).1.length (flC Rg.cl (mLst L 3 (mRg L) s).1)) [.one (inC L (mLst L 3 (mRg L) s).2)] NoP :=
  irgs_fc L hB (mRg L) s hs (fun s1 h => sp_le' (sp_rg s1 h)) (fun s1 _ => irg_fc L hB s1)
set_option maxHeartbeats 4000000 in
theorem iex_fc (L : List Int) (hB : L.length ≤ 200000) : ∀ (k : Nat) (s : Inp), s.p ≤ L.length → L.length - s.p < k → FC Try.prog ge 114 [.ptr 0 [] 0] [.one (inC L s)] (.agg (mEx L k s).1.cl) [.one (inC L (mEx L k s).2)] NoP
  | 0, s, hs, hk => by omega
  | k + 1, s, hs, hk => by
    have k0 : Tp L s := ⟨hs⟩
    simp only [mEx]
    have c1 := inext_fc L s (by unfold BW; omega)
    have k1 := sp_next s k0.top
    obtain ⟨q1, h1⟩ : ∃ q, q = mNext L s := ⟨_, rfl⟩
    rw [← h1] at c1 k1 ⊢
    obtain ⟨op, s1⟩ := q1
    dsimp only at c1 k1 ⊢
    clear h1
    have c2 := inext_fc L s1 (by unfold BW; omega)
    have k2 := sp_next s1 k1.top
    obtain ⟨q2, h2⟩ : ∃ q, q = mNext L s1 := ⟨_, rfl⟩
    rw [← h2] at c2 k2 ⊢
    obtain ⟨en, s2⟩ := q2
    dsimp only at c2 k2 ⊢
    clear h2
    have c3 := inext_fc L s2 (by unfold BW; omega)
    have k3 := sp_next s2 k2.top
    obtain ⟨q3, h3⟩ : ∃ q, q = mNext L s2 := ⟨_, rfl⟩
    rw [← h3] at c3 k3 ⊢
    obtain ⟨v, s3⟩ := q3
    dsimp only at c3 k3 ⊢
    clear h3
    have c4 := iexs_fc L hB (mEx L k) s3 k3.top (fun s1 h hl => sp_le' (sp_ex k s1 h (by have := k1.le; have := k2.le; have := k3.le; omega))) (fun s1 h hl => iex_fc L hB k s1 h (by have := k1.le; have := k2.le; have := k3.le; omega))
    have k4 := sp_exs k s3 k3.top (by have := k1.le; have := k2.le; have := k3.le; omega)
    obtain ⟨q4, h4⟩ : ∃ q, q = mLstC L 4 (mEx L k) s3 := ⟨_, rfl⟩
    rw [← h4] at c4 k4 ⊢
    obtain ⟨a, s4⟩ := q4
    dsimp only at c4 k4 ⊢
    clear h4
    simp only [Ex.cl, exC_eq]
    refine FC.of_AW tok Try.func114 (by kernel_rfl) rfl Try.ntmps114 [] rfl rfl rfl ?_; intro w0 X0 Y f0 hI0 hX0
    (repeat (first | refine K1 ?_ | refine K2 ?_ | refine K3 ?_ | refine K4 ?_ | refine K5 ?_ | refine K6 ?_ | refine K7 ?_ | refine L1 ?_ | refine L2 ?_ | refine L3 ?_ | refine RG.d ?_ | refine RG.dd ?_ | refine S1 ?_ | refine S2 ?_ | refine S3 ?_ | refine S4 ?_ | refine S5 ?_ | refine S7 ?_ | refine S8 ?_))
    refine RG.call rfl rfl rfl rfl (c1) [0] rfl rfl rfl rfl (.cons rfl (.one rfl) (Reg.lt_one rfl) ⟨[], _, rfl⟩ (.nil _)) (.cons (.one rfl) (.nil _)) (fun _ h => by first | exact h | exact False.elim h) rfl rfl rfl ?_
    (repeat (first | refine K1 ?_ | refine K2 ?_ | refine K3 ?_ | refine K4 ?_ | refine K5 ?_ | refine K6 ?_ | refine K7 ?_ | refine L1 ?_ | refine L2 ?_ | refine L3 ?_ | refine RG.d ?_ | refine RG.dd ?_ | refine S1 ?_ | refine S2 ?_ | refine S3 ?_ | refine S4 ?_ | refine S5 ?_ | refine S7 ?_ | refine S8 ?_))
    refine RG.call rfl rfl rfl rfl (c2) [0] rfl rfl rfl rfl (.cons rfl (.one rfl) (Reg.lt_one rfl) ⟨[], _, rfl⟩ (.nil _)) (.cons (.one rfl) (.nil _)) (fun _ h => by first | exact h | exact False.elim h) rfl rfl rfl ?_
    (repeat (first | refine K1 ?_ | refine K2 ?_ | refine K3 ?_ | refine K4 ?_ | refine K5 ?_ | refine K6 ?_ | refine K7 ?_ | refine L1 ?_ | refine L2 ?_ | refine L3 ?_ | refine RG.d ?_ | refine RG.dd ?_ | refine S1 ?_ | refine S2 ?_ | refine S3 ?_ | refine S4 ?_ | refine S5 ?_ | refine S7 ?_ | refine S8 ?_))
    refine RG.call rfl rfl rfl rfl (c3) [0] rfl rfl rfl rfl (.cons rfl (.one rfl) (Reg.lt_one rfl) ⟨[], _, rfl⟩ (.nil _)) (.cons (.one rfl) (.nil _)) (fun _ h => by first | exact h | exact False.elim h) rfl rfl rfl ?_
    (repeat (first | refine K1 ?_ | refine K2 ?_ | refine K3 ?_ | refine K4 ?_ | refine K5 ?_ | refine K6 ?_ | refine K7 ?_ | refine L1 ?_ | refine L2 ?_ | refine L3 ?_ | refine RG.d ?_ | refine RG.dd ?_ | refine S1 ?_ | refine S2 ?_ | refine S3 ?_ | refine S4 ?_ | refine S5 ?_ | refine S7 ?_ | refine S8 ?_))
    refine RG.call rfl rfl rfl rfl (c4) [0] rfl rfl rfl rfl (.cons rfl (.one rfl) (Reg.lt_one rfl) ⟨[], _, rfl⟩ (.nil _)) (.cons (.one rfl) (.nil _)) (fun _ h => by first | exact h | exact False.elim h) rfl rfl rfl ?_
    (repeat (first | refine K1 ?_ | refine K2 ?_ | refine K3 ?_ | refine K4 ?_ | refine K5 ?_ | refine K6 ?_ | refine K7 ?_ | refine L1 ?_ | refine L2 ?_ | refine L3 ?_ | refine RG.d ?_ | refine RG.dd ?_ | refine S1 ?_ | refine S2 ?_ | refine S3 ?_ | refine S4 ?_ | refine S5 ?_ | refine S6 ?_ | refine S7 ?_ | refine S8 ?_))
    exact ⟨⟨_, rfl, rfl⟩, rfl, .cons rfl (.one rfl) (Reg.lt_one rfl) ⟨[], _, rfl⟩ (.nil _)⟩
theorem iexs (L : List Int) (hB : L.length ≤ 200000) (k : Nat) (s : Inp) (hs : s.p ≤ L.length) (hk : L.length - s.p ≤ k) : FC Try.prog ge 116 [.ptr 0 [] 0] [.one (inC L s)] (.ro (mLstC L 4 (mEx L k) s).1.length (flC Ex.cl (mLstC L 4 (mEx L k) s).1)) [.one (inC L (mLstC L 4 (mEx L k) s).2)] NoP :=
  iexs_fc L hB (mEx L k) s hs (fun s1 h hl => sp_le' (sp_ex k s1 h (by omega))) (fun s1 h hl => iex_fc L hB k s1 h (by omega))
set_option maxHeartbeats 8000000 in
theorem ico_fc (L : List Int) (hB : L.length ≤ 200000) : ∀ (k : Nat) (s : Inp), s.p ≤ L.length → L.length - s.p < k → FC Try.prog ge 115 [.ptr 0 [] 0] [.one (inC L s)] (.agg (mCo L k s).1.cl) [.one (inC L (mCo L k s).2)] NoP
  | 0, s, hs, hk => by omega
  | k + 1, s, hs, hk => by
    have k0 : Tp L s := ⟨hs⟩
    simp only [mCo]
    have c1 := inext_fc L s (by unfold BW; omega)
    have k1 := sp_next s k0.top
    obtain ⟨q1, h1⟩ : ∃ q, q = mNext L s := ⟨_, rfl⟩
    rw [← h1] at c1 k1 ⊢
    obtain ⟨op, s1⟩ := q1
    dsimp only at c1 k1 ⊢
    clear h1
    have c2 := iexs L hB k s1 k1.top (by have := k1.le; omega)
    have k2 := sp_exs k s1 k1.top (by have := k1.le; omega)
    obtain ⟨q2, h2⟩ : ∃ q, q = mLstC L 4 (mEx L k) s1 := ⟨_, rfl⟩
    rw [← h2] at c2 k2 ⊢
    obtain ⟨a, s2⟩ := q2
    dsimp only at c2 k2 ⊢
    clear h2
    have cm := imany_fc L 3 (by decide) (by decide) s2 k2.top (by unfold BW; omega)
    have ct := ct_many 3 s2 k2.top (by decide)
    have hn := ct.n_le (by decide)
    obtain ⟨q, hq⟩ : ∃ q, q = mMany L 3 s2 := ⟨_, rfl⟩
    obtain ⟨R, hR⟩ : ∃ R, R = mLstC L 3 (mCo L k) s2 := ⟨_, rfl⟩
    rw [← hR]
    rw [show mLstC L 3 (mCo L k) s2 = mLoopC (mCo L k) (mMany L 3 s2).1 [] (mMany L 3 s2).2 from rfl] at hR
    rw [← hq] at cm ct hn hR
    obtain ⟨n, s3⟩ := q
    dsimp only at cm ct hn hR
    have hle2 : L.length - s2.p ≤ k := by have := k1.le; have := k2.le; omega
    have c := fun (s4 : Inp) (h : s4.p ≤ L.length) (hl : s2.p < s4.p) => ico_fc L hB k s4 h (by omega)
    have hf := fun (s4 : Inp) (h : s4.p ≤ L.length) (hl : s2.p < s4.p) => sp_le' (sp_co k s4 h (by omega))
    obtain ⟨f, hf0⟩ : ∃ f, f = mCo L k := ⟨_, rfl⟩
    rw [← hf0] at c hf hR
    simp only [Co.cl, exC_eq, coC_eq]
    clear hf0
    refine FC.of_AW tok Try.func115 (by kernel_rfl) rfl Try.ntmps115 [] rfl rfl rfl ?_; intro w0 X0 Y f0 hI0 hX0
    refine S1 ?_; (repeat (first | refine K1 ?_ | refine K2 ?_ | refine K3 ?_ | refine K4 ?_ | refine K5 ?_ | refine K6 ?_ | refine K7 ?_ | refine L1 ?_ | refine L2 ?_ | refine L3 ?_ | refine RG.d ?_ | refine RG.dd ?_ | refine S2 ?_ | refine S3 ?_ | refine S4 ?_ | refine S5 ?_ | refine S7 ?_ | refine S8 ?_)); refine S1 ?_; (repeat (first | refine K1 ?_ | refine K2 ?_ | refine K3 ?_ | refine K4 ?_ | refine K5 ?_ | refine K6 ?_ | refine K7 ?_ | refine L1 ?_ | refine L2 ?_ | refine L3 ?_ | refine RG.d ?_ | refine RG.dd ?_ | refine S2 ?_ | refine S3 ?_ | refine S4 ?_ | refine S5 ?_ | refine S7 ?_ | refine S8 ?_)); refine S1 ?_; (repeat (first | refine K1 ?_ | refine K2 ?_ | refine K3 ?_ | refine K4 ?_ | refine K5 ?_ | refine K6 ?_ | refine K7 ?_ | refine L1 ?_ | refine L2 ?_ | refine L3 ?_ | refine RG.d ?_ | refine RG.dd ?_ | refine S2 ?_ | refine S3 ?_ | refine S4 ?_ | refine S5 ?_ | refine S7 ?_ | refine S8 ?_))
    refine RG.call rfl rfl rfl rfl (c1) [0] rfl rfl rfl rfl (.cons rfl (.one rfl) (Reg.lt_one rfl) ⟨[], _, rfl⟩ (.nil _)) (.cons (.one rfl) (.nil _)) (fun _ h => by first | exact h | exact False.elim h) rfl rfl rfl ?_
    (repeat (first | refine K1 ?_ | refine K2 ?_ | refine K3 ?_ | refine K4 ?_ | refine K5 ?_ | refine K6 ?_ | refine K7 ?_ | refine L1 ?_ | refine L2 ?_ | refine L3 ?_ | refine RG.d ?_ | refine RG.dd ?_ | refine S2 ?_ | refine S3 ?_ | refine S4 ?_ | refine S5 ?_ | refine S7 ?_ | refine S8 ?_))
    refine S1 ?_
    (repeat (first | refine K1 ?_ | refine K2 ?_ | refine K3 ?_ | refine K4 ?_ | refine K5 ?_ | refine K6 ?_ | refine K7 ?_ | refine L1 ?_ | refine L2 ?_ | refine L3 ?_ | refine RG.d ?_ | refine RG.dd ?_ | refine S2 ?_ | refine S3 ?_ | refine S4 ?_ | refine S5 ?_ | refine S7 ?_ | refine S8 ?_))
    refine RG.call rfl rfl rfl rfl (c2) [0] rfl rfl rfl rfl (.cons rfl (.one rfl) (Reg.lt_one rfl) ⟨[], _, rfl⟩ (.nil _)) (.cons (.one rfl) (.nil _)) (fun _ h => by first | exact h | exact False.elim h) rfl rfl rfl ?_
    (repeat (first | refine K1 ?_ | refine K2 ?_ | refine K3 ?_ | refine K4 ?_ | refine K5 ?_ | refine K6 ?_ | refine K7 ?_ | refine L1 ?_ | refine L2 ?_ | refine L3 ?_ | refine RG.d ?_ | refine RG.dd ?_ | refine S2 ?_ | refine S3 ?_ | refine S4 ?_ | refine S5 ?_ | refine S7 ?_ | refine S8 ?_))
    refine AW.seqJ (fun _ : Unit => ⟨put 2 (some (.ptr 1 [] 0)) (put 3 (some (.ptr 2 [] 0)) noE), hput 0 (.one (inC L R.2)) (hput 1 (.one ([i64 0, .val (.slice none 0 0), .val (.slice none 0 0)])) (hput 2 (.one ([i64 op, .ro a.length (flC Ex.cl a), .ro R.1.length (flC Co.cl R.1)])) noH)), 3⟩) (fun _ => True) ?_ ?_
    · refine S1 ?_
      (repeat (first | refine RG.call rfl rfl rfl rfl (cm) [0] rfl rfl rfl rfl (.cons rfl (.one rfl) (Reg.lt_one rfl) ⟨[], _, rfl⟩ (.nil _)) (.cons (.one rfl) (.nil _)) (fun _ h => by first | exact h | exact False.elim h) rfl rfl rfl ?_ | refine K1 ?_ | refine K2 ?_ | refine K3 ?_ | refine K4 ?_ | refine K5 ?_ | refine K6 ?_ | refine K7 ?_ | refine L1 ?_ | refine L2 ?_ | refine L3 ?_ | refine RG.d ?_ | refine RG.dd ?_ | refine S2 ?_ | refine S3 ?_ | refine S4 ?_ | refine S5 ?_ | refine S7 ?_ | refine S8 ?_))
      refine AW.sub (Sub.nilH 2 2 3 rfl rfl rfl rfl) ?_
      first | refine S4 ?_ | skip
      refine AW.loopS (fun q : Nat × List Co × Inp => ⟨put 0 (some (.ptr 0 [] 0)) (put 2 (some (.ptr 1 [] 0)) (put 3 (some (.ptr 2 [] 0)) (put 4 (some (i64 (q.1 : Int))) noE))), hput 0 (.one (inC L q.2.2)) (hput 1 (.one ([i64 0, .val (.slice none 0 0), .val (.slice none 0 0)])) (hput 2 (.one ([i64 op, .ro a.length (flC Ex.cl a), .sl 3 [] 3 0 q.2.1.length])) (hput 3 (.one (flC Co.cl q.2.1)) noH))), 4⟩)
        (fun q => q.1 + q.2.1.length = n ∧ q.2.2.p ≤ L.length ∧ (q.2.2.bad = false → s2.p < q.2.2.p) ∧ mLoopC f q.1 q.2.1 q.2.2 = R) (fun q => q.1) (n, [], s3) ⟨rfl, ct.top, ct.up, hR.symm⟩ (Sub.of (by repeat (first | exact SubE.no _ | refine SubE.put rfl ?_)) (by repeat (first | exact SubH.no _ | refine SubH.put rfl ?_)) rfl) ?_
      rintro ⟨j, xs, s4⟩ ⟨hj, htop, hup, hRj⟩
      dsimp only at hj htop hup hRj
      have fin : R = (xs, s4) → Sub (Ctx.mk w0 X0 Y 33 f0 1 ge hI0 hX0 [] fun _ => none) (⟨put 2 (some (.ptr 1 [] 0)) (put 3 (some (.ptr 2 [] 0)) noE), hput 0 (.one (inC L s4)) (hput 1 (.one ([i64 0, .val (.slice none 0 0), .val (.slice none 0 0)])) (hput 2 (.one ([i64 op, .ro a.length (flC Ex.cl a), .sl 3 [] 3 0 xs.length])) (hput 3 (.one (flC Co.cl xs)) noH))), 4⟩) (⟨put 2 (some (.ptr 1 [] 0)) (put 3 (some (.ptr 2 [] 0)) noE), hput 0 (.one (inC L R.2)) (hput 1 (.one ([i64 0, .val (.slice none 0 0), .val (.slice none 0 0)])) (hput 2 (.one ([i64 op, .ro a.length (flC Ex.cl a), .ro R.1.length (flC Co.cl R.1)])) noH)), 3⟩) := by
        rintro rfl
        exact Sub.trans (Sub.frzH (ks := [3]) 2 rfl (by decide) (.cons (Frz.refl _) (.cons (Frz.refl _) (.cons (frzC rfl (by decide) (flC_len Co.cl_len xs) (flC_free Co.cl_free xs)) .nil)))) (Sub.down (by repeat (first | exact SubE.no _ | refine SubE.put rfl ?_)) (by repeat (first | exact SubH.no _ | refine SubH.put rfl ?_)) (by repeat (first | exact LtE.no _ | refine LtE.put rfl ?_)) (by repeat (first | exact LtH.no _ | refine LtH.put rfl rfl ?_)) rfl)
      cases j with
      | zero =>
        (repeat (first | refine K1 ?_ | refine K2 ?_ | refine K3 ?_ | refine K4 ?_ | refine K5 ?_ | refine K6 ?_ | refine K7 ?_ | refine L1 ?_ | refine L2 ?_ | refine L3 ?_ | refine RG.d ?_ | refine RG.dd ?_ | refine S1 ?_ | refine S2 ?_ | refine S3 ?_ | refine S4 ?_ | refine S5 ?_ | refine S7 ?_ | refine S8 ?_))
        exact ⟨(), trivial, Sub.trans (Sub.of (by repeat (first | exact SubE.no _ | refine SubE.put rfl ?_)) (by repeat (first | exact SubH.no _ | refine SubH.put rfl ?_)) rfl) (fin hRj.symm)⟩
      | succ j =>
        obtain ⟨p4, b4⟩ := s4
        cases b4 with
        | true =>
          (repeat (first | refine K1 ?_ | refine K2 ?_ | refine K3 ?_ | refine K4 ?_ | refine K5 ?_ | refine K6 ?_ | refine K7 ?_ | refine L1 ?_ | refine L2 ?_ | refine L3 ?_ | refine RG.d ?_ | refine RG.dd ?_ | refine S1 ?_ | refine S2 ?_ | refine S3 ?_ | refine S4 ?_ | refine S5 ?_ | refine S7 ?_ | refine S8 ?_))
          refine RG.split 16 rfl (fun _ => ?_) (fun k => absurd (show (0 : Int) < ((j + 1 : Nat) : Int) by omega) k)
          (repeat (first | refine K1 ?_ | refine K2 ?_ | refine K3 ?_ | refine K4 ?_ | refine K5 ?_ | refine K6 ?_ | refine K7 ?_ | refine L1 ?_ | refine L2 ?_ | refine L3 ?_ | refine RG.d ?_ | refine RG.dd ?_ | refine S1 ?_ | refine S2 ?_ | refine S3 ?_ | refine S4 ?_ | refine S5 ?_ | refine S7 ?_ | refine S8 ?_))
          exact ⟨(), trivial, Sub.trans (Sub.of (by repeat (first | exact SubE.no _ | refine SubE.put rfl ?_)) (by repeat (first | exact SubH.no _ | refine SubH.put rfl ?_)) rfl) (fin hRj.symm)⟩
        | false =>
          clear fin
          have hRj : mLoopC f j (xs ++ [(f ⟨p4, false⟩).1]) (f ⟨p4, false⟩).2 = R := hRj
          have cx := c ⟨p4, false⟩ htop (hup rfl)
          have hfx := hf ⟨p4, false⟩ htop (hup rfl)
          have hpos := hup rfl
          obtain ⟨w, hw⟩ : ∃ w, w = f ⟨p4, false⟩ := ⟨_, rfl⟩
          rw [← hw] at cx hfx hRj
          obtain ⟨x, s5⟩ := w
          dsimp only at cx hfx hRj
          have hfl : (flC Co.cl xs).length = xs.length * 3 := flC_len Co.cl_len xs
          have happ := flC_append Co.cl xs [x]
          obtain ⟨Z, hZ⟩ : ∃ Z, Z = xs ++ [x] := ⟨_, rfl⟩
          have lZ : xs.length + 1 = Z.length := by rw [hZ, List.length_append]; rfl
          rw [← hZ] at happ hRj
          obtain ⟨xo, xa, xc⟩ := x
          simp only [Co.cl] at cx
          (repeat (first | refine K1 ?_ | refine K2 ?_ | refine K3 ?_ | refine K4 ?_ | refine K5 ?_ | refine K6 ?_ | refine K7 ?_ | refine L1 ?_ | refine L2 ?_ | refine L3 ?_ | refine RG.d ?_ | refine RG.dd ?_ | refine S1 ?_ | refine S2 ?_ | refine S3 ?_ | refine S4 ?_ | refine S5 ?_ | refine S7 ?_ | refine S8 ?_))
          refine RG.split 16 rfl (fun _ => ?_) (fun k => absurd (show (0 : Int) < ((j + 1 : Nat) : Int) by omega) k)
          (repeat (first | refine K1 ?_ | refine K2 ?_ | refine K3 ?_ | refine K4 ?_ | refine K5 ?_ | refine K6 ?_ | refine K7 ?_ | refine L1 ?_ | refine L2 ?_ | refine L3 ?_ | refine RG.d ?_ | refine RG.dd ?_ | refine S1 ?_ | refine S2 ?_ | refine S3 ?_ | refine S4 ?_ | refine S5 ?_ | refine S7 ?_ | refine S8 ?_))
          refine RG.call rfl rfl rfl rfl (cx) [0] rfl rfl rfl rfl (.cons rfl (.one rfl) (Reg.lt_one rfl) ⟨[], _, rfl⟩ (.nil _)) (.cons (.one rfl) (.nil _)) (fun _ h => by first | exact h | exact False.elim h) rfl rfl rfl ?_
          (first | refine K1 ?_ | refine K2 ?_ | refine K3 ?_ | refine K4 ?_ | refine K5 ?_ | refine K6 ?_ | refine K7 ?_ | refine L1 ?_ | refine L2 ?_ | refine L3 ?_)
          refine RG.append tok rfl rfl rfl rfl rfl rfl rfl rfl (n1 := xs.length) (c := flC Co.cl xs) (ks := [3]) rfl (m := 1) (ks' := [4]) rfl rfl (by omega) rfl (by omega) (by omega) rfl (c' := flC Co.cl Z) (by rw [List.take_of_length_le (by omega), happ]; rfl) ?_
          rw [lZ]
          (repeat (first | refine K1 ?_ | refine K2 ?_ | refine K3 ?_ | refine K4 ?_ | refine K5 ?_ | refine K6 ?_ | refine K7 ?_ | refine L1 ?_ | refine L2 ?_ | refine L3 ?_ | refine RG.d ?_ | refine RG.dd ?_ | refine S1 ?_ | refine S2 ?_ | refine S3 ?_ | refine S4 ?_ | refine S5 ?_ | refine S7 ?_ | refine S8 ?_))
          rw [show ((j + 1 : Nat) : Int) - 1 = (j : Int) by omega]
          refine ⟨(j, Z, s5), ⟨by dsimp only; omega, hfx.2, fun _ => Nat.lt_of_lt_of_le hpos hfx.1, hRj⟩, Nat.lt_succ_self _, Sub.renB sigJ ?_ ?_ sigJ_inj (fun a ha => sigJ_hi a ha) (fun a ha => sigJ_q a ha)⟩
          · exact SubEr.put rfl (SubEr.put rfl (SubEr.put rfl (SubEr.put rfl (SubEr.no _ _))))
          · exact SubHr.put rfl rfl (SubHr.put rfl rfl (SubHr.putR rfl rfl (SubHr.put rfl (flC_free Co.cl_free _) (SubHr.no _ _))))
    intro _ _
    (repeat (first | refine K1 ?_ | refine K2 ?_ | refine K3 ?_ | refine K4 ?_ | refine K5 ?_ | refine K6 ?_ | refine K7 ?_ | refine L1 ?_ | refine L2 ?_ | refine L3 ?_ | refine RG.d ?_ | refine RG.dd ?_ | refine S1 ?_ | refine S2 ?_ | refine S3 ?_ | refine S4 ?_ | refine S5 ?_ | refine S6 ?_ | refine S7 ?_ | refine S8 ?_))
    exact ⟨⟨_, rfl, rfl⟩, rfl, .cons rfl (.one rfl) (Reg.lt_one rfl) ⟨[], _, rfl⟩ (.nil _)⟩
end Go.Proofs.Ytmfccaidgaelcaa
