/- The reference's reader: definitions. No conditions. -/
import Derived.Test.YtmfccaidgaelcaaEc32
set_option linter.unusedVariables false
set_option linter.unusedSimpArgs false
namespace Go.Proofs.Ytmfccaidgaelcaa
open Go.Abs Go Go.RowKit
def sigL (k : Nat) : Nat := if k < 3 then k else k + 3
theorem sigL_inj : ∀ a b, sigL a = sigL b → a = b := by
  intro a b h; unfold sigL at h; repeat' split at h
  all_goals omega
theorem sigL_hi (a : Nat) (ha : 4 ≤ a) : 7 ≤ sigL a := by
  unfold sigL; repeat' split
  all_goals omega
theorem sigL_q (a : Nat) (ha : a < 1) : sigL a = a := by
  unfold sigL; repeat' split
  all_goals omega
theorem wrapU8 (x : Int) : IntKind.u8.wrap x = x % 256 := by
  unfold IntKind.wrap IntKind.signed IntKind.bits; simp
set_option maxHeartbeats 64000000 in
set_option maxRecDepth 10000 in
theorem idf_fc (L : List Int) (hB : L.length ≤ 200000) (k : Nat) (s : Inp) (hs : s.p ≤ L.length) (hk : L.length - s.p < k) : FC Try.prog ge 51 [.ptr 0 [] 0] [.one (inC L s)] (.agg (mDf L k s).1.cl) [.one (inC L (mDf L k s).2)] NoP := by
  simp only [mDf]
  have c0 := inext_fc L s (by unfold BW; omega)
  have k0 := sp_kd 1 s hs
  obtain ⟨q0, h0⟩ : ∃ q, q = mNext L s := ⟨_, rfl⟩
  obtain ⟨u, hu⟩ : ∃ u, u = (mKd L 1 s).2 := ⟨_, rfl⟩
  rw [← hu] at k0 ⊢
  unfold mKd at hu
  rw [← h0] at c0 hu
  obtain ⟨x0, ⟨p0, b0⟩⟩ := q0
  dsimp only at c0 hu
  clear h0
  have c1 := inext_fc L u (by unfold BW; omega)
  have k1 := sp_next u k0.top
  obtain ⟨q1, h1⟩ : ∃ q, q = mNext L u := ⟨_, rfl⟩
  rw [← h1] at c1 k1 ⊢
  obtain ⟨id, s1⟩ := q1
  dsimp only at c1 k1 ⊢
  clear h1
  have c2 := inext_fc L s1 (by unfold BW; omega)
  have k2 := sp_next s1 k1.top
  obtain ⟨q2, h2⟩ : ∃ q, q = mNext L s1 := ⟨_, rfl⟩
  rw [← h2] at c2 k2 ⊢
  obtain ⟨site, s2⟩ := q2
  dsimp only at c2 k2 ⊢
  clear h2
  have m3 := imany_fc L 1 (by decide) (by decide) s2 k2.top (by unfold BW; omega)
  have ct3 := ct_many 1 s2 k2.top (by decide)
  have hn3 := ct3.n_le (by decide)
  have k3 := sp_lst (size := 1) le_can (fun x _ => by simp) (by decide) (fun s hs => sp_le s hs) s2 k2.top
  obtain ⟨q3, hq3⟩ : ∃ q, q = mMany L 1 s2 := ⟨_, rfl⟩
  obtain ⟨R3, hR3⟩ : ∃ R, R = mLst L 1 (mLe L) s2 := ⟨_, rfl⟩
  rw [← hR3] at k3 ⊢
  rw [show mLst L 1 (mLe L) s2 = mLoop (mLe L) (mMany L 1 s2).1 [] (mMany L 1 s2).2 from rfl] at hR3
  rw [← hq3] at m3 ct3 hn3 hR3
  obtain ⟨n3, j3⟩ := q3
  obtain ⟨name, s3⟩ := R3
  dsimp only at m3 ct3 hn3 hR3 k3 ⊢
  clear hq3
  have c4 := inext_fc L s3 (by unfold BW; omega)
  have k4 := sp_next s3 k3.top
  obtain ⟨q4, h4⟩ : ∃ q, q = mNext L s3 := ⟨_, rfl⟩
  rw [← h4] at c4 k4 ⊢
  obtain ⟨firm, s4⟩ := q4
  dsimp only at c4 k4 ⊢
  clear h4
  have c5 := inext_fc L s4 (by unfold BW; omega)
  have k5 := sp_next s4 k4.top
  obtain ⟨q5, h5⟩ : ∃ q, q = mNext L s4 := ⟨_, rfl⟩
  rw [← h5] at c5 k5 ⊢
  obtain ⟨part, s5⟩ := q5
  dsimp only at c5 k5 ⊢
  clear h5
  have c6 := irgs L hB s5 k5.top
  have k6 := sp_lst (size := 3) rg_can (fun x _ => by simp [Rg.w]) (by decide) (fun s hs => sp_rg s hs) s5 k5.top
  obtain ⟨q6, h6⟩ : ∃ q, q = mLst L 3 (mRg L) s5 := ⟨_, rfl⟩
  rw [← h6] at c6 k6 ⊢
  obtain ⟨params, s6⟩ := q6
  dsimp only at c6 k6 ⊢
  clear h6
  have c7 := irgs L hB s6 k6.top
  have k7 := sp_lst (size := 3) rg_can (fun x _ => by simp [Rg.w]) (by decide) (fun s hs => sp_rg s hs) s6 k6.top
  obtain ⟨q7, h7⟩ : ∃ q, q = mLst L 3 (mRg L) s6 := ⟨_, rfl⟩
  rw [← h7] at c7 k7 ⊢
  obtain ⟨given, s7⟩ := q7
  dsimp only at c7 k7 ⊢
  clear h7
  have c8 := inext_fc L s7 (by unfold BW; omega)
  have k8 := sp_next s7 k7.top
  obtain ⟨q8, h8⟩ : ∃ q, q = mNext L s7 := ⟨_, rfl⟩
  rw [← h8] at c8 k8 ⊢
  obtain ⟨vars, s8⟩ := q8
  dsimp only at c8 k8 ⊢
  clear h8
  have c9 := inext_fc L s8 (by unfold BW; omega)
  have k9 := sp_next s8 k8.top
  obtain ⟨q9, h9⟩ : ∃ q, q = mNext L s8 := ⟨_, rfl⟩
  rw [← h9] at c9 k9 ⊢
  obtain ⟨refs, s9⟩ := q9
  dsimp only at c9 k9 ⊢
  clear h9
  have m10 := imany_fc L 2 (by decide) (by decide) s9 k9.top (by unfold BW; omega)
  have ct10 := ct_many 2 s9 k9.top (by decide)
  have hn10 := ct10.n_le (by decide)
  have k10 := sp_lst (size := 2) ar_can (fun x _ => by simp [Ar.w]) (by decide) (fun s hs => sp_ar s hs) s9 k9.top
  obtain ⟨q10, hq10⟩ : ∃ q, q = mMany L 2 s9 := ⟨_, rfl⟩
  obtain ⟨R10, hR10⟩ : ∃ R, R = mLst L 2 (mAr L) s9 := ⟨_, rfl⟩
  rw [← hR10] at k10 ⊢
  rw [show mLst L 2 (mAr L) s9 = mLoop (mAr L) (mMany L 2 s9).1 [] (mMany L 2 s9).2 from rfl] at hR10
  rw [← hq10] at m10 ct10 hn10 hR10
  obtain ⟨n10, j10⟩ := q10
  obtain ⟨arrays, s10⟩ := R10
  dsimp only at m10 ct10 hn10 hR10 k10 ⊢
  clear hq10
  have c11 := inext_fc L s10 (by unfold BW; omega)
  have k11 := sp_next s10 k10.top
  obtain ⟨q11, h11⟩ : ∃ q, q = mNext L s10 := ⟨_, rfl⟩
  rw [← h11] at c11 k11 ⊢
  obtain ⟨budget, s11⟩ := q11
  dsimp only at c11 k11 ⊢
  clear h11
  have c12 := isms_fc L hB k s11 k11.top (by have := k0.le; have := k1.le; have := k2.le; have := k3.le; have := k4.le; have := k5.le; have := k6.le; have := k7.le; have := k8.le; have := k9.le; have := k10.le; have := k11.le; omega)
  have k12 := sp_sms k s11 k11.top (by have := k0.le; have := k1.le; have := k2.le; have := k3.le; have := k4.le; have := k5.le; have := k6.le; have := k7.le; have := k8.le; have := k9.le; have := k10.le; have := k11.le; omega)
  obtain ⟨q12, h12⟩ : ∃ q, q = mLstC L 20 (mSm L k) s11 := ⟨_, rfl⟩
  rw [← h12] at c12 k12 ⊢
  obtain ⟨body, s12⟩ := q12
  dsimp only at c12 k12 ⊢
  clear h12
  clear k0 k1 k2 k3 k4 k5 k6 k7 k8 k9 k10 k11 k12
  simp only [Df.cl]
  refine FC.of_AW tok Try.func51 (by kernel_rfl) rfl Try.ntmps51 [] rfl rfl rfl ?_; intro w0 X0 Y f0 hI0 hX0
  refine S1 ?_; (repeat (first | refine K1 ?_ | refine K2 ?_ | refine K3 ?_ | refine K4 ?_ | refine K5 ?_ | refine K6 ?_ | refine K7 ?_ | refine L1 ?_ | refine L2 ?_ | refine L3 ?_ | refine RG.d ?_ | refine RG.dd ?_ | refine S2 ?_ | refine S3 ?_ | refine S4 ?_ | refine S5 ?_ | refine S7 ?_ | refine S8 ?_)); refine S1 ?_; (repeat (first | refine K1 ?_ | refine K2 ?_ | refine K3 ?_ | refine K4 ?_ | refine K5 ?_ | refine K6 ?_ | refine K7 ?_ | refine L1 ?_ | refine L2 ?_ | refine L3 ?_ | refine RG.d ?_ | refine RG.dd ?_ | refine S2 ?_ | refine S3 ?_ | refine S4 ?_ | refine S5 ?_ | refine S7 ?_ | refine S8 ?_))
  refine AW.seqJ (fun _ : Unit => ⟨put 0 (some (.ptr 0 [] 0)) (put 2 (some (.ptr 1 [] 0)) (put 3 (some (.ptr 2 [] 0)) noE)), hput 0 (.one (inC L u)) (hput 1 (.one ([i64 0, i64 0, strA ByteArray.empty, i64 0, i64 0, .val (.slice none 0 0), .val (.slice none 0 0), i64 0, i64 0, .val (.slice none 0 0), i64 0, .val (.slice none 0 0)])) (hput 2 (.one ([i64 0, i64 0, strA ByteArray.empty, i64 0, i64 0, .val (.slice none 0 0), .val (.slice none 0 0), i64 0, i64 0, .val (.slice none 0 0), i64 0, .val (.slice none 0 0)])) noH)), 3⟩) (fun _ => True) ?_ ?_
  · (repeat (first | refine K1 ?_ | refine K2 ?_ | refine K3 ?_ | refine K4 ?_ | refine K5 ?_ | refine K6 ?_ | refine K7 ?_ | refine L1 ?_ | refine L2 ?_ | refine L3 ?_ | refine RG.d ?_ | refine RG.dd ?_ | refine S1 ?_ | refine S2 ?_ | refine S3 ?_ | refine S4 ?_ | refine S5 ?_ | refine S7 ?_ | refine S8 ?_))
    refine RG.call rfl rfl rfl rfl (c0) [0] rfl rfl rfl rfl (.cons rfl (.one rfl) (Reg.lt_one rfl) ⟨[], _, rfl⟩ (.nil _)) (.cons (.one rfl) (.nil _)) (fun _ h => by first | exact h | exact False.elim h) rfl rfl rfl ?_
    (repeat (first | refine K1 ?_ | refine K2 ?_ | refine K3 ?_ | refine K4 ?_ | refine K5 ?_ | refine K6 ?_ | refine K7 ?_ | refine L1 ?_ | refine L2 ?_ | refine L3 ?_ | refine RG.d ?_ | refine RG.dd ?_ | refine S1 ?_ | refine S2 ?_ | refine S3 ?_ | refine S4 ?_ | refine S5 ?_ | refine S7 ?_ | refine S8 ?_))
    by_cases hx : x0 = 1
    · refine RG.split 14 rfl (fun k => absurd hx k) (fun _ => ?_)
      (repeat (first | refine K1 ?_ | refine K2 ?_ | refine K3 ?_ | refine K4 ?_ | refine K5 ?_ | refine K6 ?_ | refine K7 ?_ | refine L1 ?_ | refine L2 ?_ | refine L3 ?_ | refine RG.d ?_ | refine RG.dd ?_ | refine S1 ?_ | refine S2 ?_ | refine S3 ?_ | refine S4 ?_ | refine S5 ?_ | refine S7 ?_ | refine S8 ?_))
      obtain rfl : u = ⟨p0, b0⟩ := by rw [hu, decide_eq_false (fun k => k hx), Bool.false_or]
      exact ⟨(), trivial, Sub.of (by repeat (first | exact SubE.no _ | refine SubE.put rfl ?_)) (by repeat (first | exact SubH.no _ | refine SubH.put rfl ?_)) rfl⟩
    · refine RG.split 14 rfl (fun _ => ?_) (fun k => absurd hx k)
      (repeat (first | refine K1 ?_ | refine K2 ?_ | refine K3 ?_ | refine K4 ?_ | refine K5 ?_ | refine K6 ?_ | refine K7 ?_ | refine L1 ?_ | refine L2 ?_ | refine L3 ?_ | refine RG.d ?_ | refine RG.dd ?_ | refine S1 ?_ | refine S2 ?_ | refine S3 ?_ | refine S4 ?_ | refine S5 ?_ | refine S7 ?_ | refine S8 ?_))
      obtain rfl : u = ⟨p0, true⟩ := by rw [hu, decide_eq_true (show x0 ≠ 1 from hx), Bool.true_or]
      exact ⟨(), trivial, Sub.of (by repeat (first | exact SubE.no _ | refine SubE.put rfl ?_)) (by repeat (first | exact SubH.no _ | refine SubH.put rfl ?_)) rfl⟩
  intro _ _
  clear hu c0
  refine S1 ?_
  (repeat (first | refine K1 ?_ | refine K2 ?_ | refine K3 ?_ | refine K4 ?_ | refine K5 ?_ | refine K6 ?_ | refine K7 ?_ | refine L1 ?_ | refine L2 ?_ | refine L3 ?_ | refine RG.d ?_ | refine RG.dd ?_ | refine S2 ?_ | refine S3 ?_ | refine S4 ?_ | refine S5 ?_ | refine S7 ?_ | refine S8 ?_))
  refine RG.call rfl rfl rfl rfl (c1) [0] rfl rfl rfl rfl (.cons rfl (.one rfl) (Reg.lt_one rfl) ⟨[], _, rfl⟩ (.nil _)) (.cons (.one rfl) (.nil _)) (fun _ h => by first | exact h | exact False.elim h) rfl rfl rfl ?_
  (repeat (first | refine K1 ?_ | refine K2 ?_ | refine K3 ?_ | refine K4 ?_ | refine K5 ?_ | refine K6 ?_ | refine K7 ?_ | refine L1 ?_ | refine L2 ?_ | refine L3 ?_ | refine RG.d ?_ | refine RG.dd ?_ | refine S2 ?_ | refine S3 ?_ | refine S4 ?_ | refine S5 ?_ | refine S7 ?_ | refine S8 ?_))
  refine S1 ?_
  (repeat (first | refine K1 ?_ | refine K2 ?_ | refine K3 ?_ | refine K4 ?_ | refine K5 ?_ | refine K6 ?_ | refine K7 ?_ | refine L1 ?_ | refine L2 ?_ | refine L3 ?_ | refine RG.d ?_ | refine RG.dd ?_ | refine S2 ?_ | refine S3 ?_ | refine S4 ?_ | refine S5 ?_ | refine S7 ?_ | refine S8 ?_))
  refine RG.call rfl rfl rfl rfl (c2) [0] rfl rfl rfl rfl (.cons rfl (.one rfl) (Reg.lt_one rfl) ⟨[], _, rfl⟩ (.nil _)) (.cons (.one rfl) (.nil _)) (fun _ h => by first | exact h | exact False.elim h) rfl rfl rfl ?_
  (repeat (first | refine K1 ?_ | refine K2 ?_ | refine K3 ?_ | refine K4 ?_ | refine K5 ?_ | refine K6 ?_ | refine K7 ?_ | refine L1 ?_ | refine L2 ?_ | refine L3 ?_ | refine RG.d ?_ | refine RG.dd ?_ | refine S2 ?_ | refine S3 ?_ | refine S4 ?_ | refine S5 ?_ | refine S7 ?_ | refine S8 ?_))
  refine S1 ?_; (repeat (first | refine K1 ?_ | refine K2 ?_ | refine K3 ?_ | refine K4 ?_ | refine K5 ?_ | refine K6 ?_ | refine K7 ?_ | refine L1 ?_ | refine L2 ?_ | refine L3 ?_ | refine RG.d ?_ | refine RG.dd ?_ | refine S2 ?_ | refine S3 ?_ | refine S4 ?_ | refine S5 ?_ | refine S7 ?_ | refine S8 ?_))
  refine AW.seqJ (fun _ : Unit => ⟨put 0 (some (.ptr 0 [] 0)) (put 2 (some (.ptr 1 [] 0)) (put 3 (some (.ptr 2 [] 0)) (put 4 (some (.ro name.length (ints .u8 name))) noE))), hput 0 (.one (inC L s3)) (hput 1 (.one ([i64 0, i64 0, strA ByteArray.empty, i64 0, i64 0, .val (.slice none 0 0), .val (.slice none 0 0), i64 0, i64 0, .val (.slice none 0 0), i64 0, .val (.slice none 0 0)])) (hput 2 (.one ([i64 id, i64 site, strA ByteArray.empty, i64 0, i64 0, .val (.slice none 0 0), .val (.slice none 0 0), i64 0, i64 0, .val (.slice none 0 0), i64 0, .val (.slice none 0 0)])) noH)), 3⟩) (fun _ => True) ?_ ?_
  · refine S1 ?_
    (repeat (first | refine RG.call rfl rfl rfl rfl (m3) [0] rfl rfl rfl rfl (.cons rfl (.one rfl) (Reg.lt_one rfl) ⟨[], _, rfl⟩ (.nil _)) (.cons (.one rfl) (.nil _)) (fun _ h => by first | exact h | exact False.elim h) rfl rfl rfl ?_ | refine K1 ?_ | refine K2 ?_ | refine K3 ?_ | refine K4 ?_ | refine K5 ?_ | refine K6 ?_ | refine K7 ?_ | refine L1 ?_ | refine L2 ?_ | refine L3 ?_ | refine RG.d ?_ | refine RG.dd ?_ | refine S2 ?_ | refine S3 ?_ | refine S4 ?_ | refine S5 ?_ | refine S7 ?_ | refine S8 ?_))
    first | refine S4 ?_ | skip
    refine AW.loopS (fun q : Nat × List Int × Inp => ⟨put 0 (some (.ptr 0 [] 0)) (put 2 (some (.ptr 1 [] 0)) (put 3 (some (.ptr 2 [] 0)) (put 4 (some (.sl 3 [] 1 0 q.2.1.length)) (put 5 (some (i64 (q.1 : Int))) noE)))), hput 0 (.one (inC L q.2.2)) (hput 1 (.one ([i64 0, i64 0, strA ByteArray.empty, i64 0, i64 0, .val (.slice none 0 0), .val (.slice none 0 0), i64 0, i64 0, .val (.slice none 0 0), i64 0, .val (.slice none 0 0)])) (hput 2 (.one ([i64 id, i64 site, strA ByteArray.empty, i64 0, i64 0, .val (.slice none 0 0), .val (.slice none 0 0), i64 0, i64 0, .val (.slice none 0 0), i64 0, .val (.slice none 0 0)])) (hput 3 (.one (ints .u8 q.2.1)) noH))), 4⟩) (fun q => q.1 + q.2.1.length = n3 ∧ q.2.2.p ≤ L.length ∧ mLoop (mLe L) q.1 q.2.1 q.2.2 = (name, s3)) (fun q => q.1) (n3, [], j3) ⟨rfl, ct3.top, hR3.symm⟩ (Sub.of (by repeat (first | exact SubE.no _ | refine SubE.put rfl ?_)) (by repeat (first | exact SubH.no _ | refine SubH.put rfl ?_)) rfl) ?_
    rintro ⟨j, xs, t⟩ ⟨hj, htop, hRj⟩
    dsimp only at hj htop hRj
    cases j with
    | zero =>
      obtain ⟨rfl, rfl⟩ : name = xs ∧ s3 = t := Prod.mk.inj hRj.symm
      (repeat (first | refine K1 ?_ | refine K2 ?_ | refine K3 ?_ | refine K4 ?_ | refine K5 ?_ | refine K6 ?_ | refine K7 ?_ | refine L1 ?_ | refine L2 ?_ | refine L3 ?_ | refine RG.d ?_ | refine RG.dd ?_ | refine S1 ?_ | refine S2 ?_ | refine S3 ?_ | refine S4 ?_ | refine S5 ?_ | refine S7 ?_ | refine S8 ?_))
      exact ⟨(), trivial, Sub.trans (Sub.frz (ks := [3]) 4 rfl (frzC rfl (by decide) (by rw [ints_length, Nat.mul_one]) (ints_free _ _ _))) (Sub.down (by repeat (first | exact SubE.no _ | refine SubE.put rfl ?_)) (by repeat (first | exact SubH.no _ | refine SubH.put rfl ?_)) (by repeat (first | exact LtE.no _ | refine LtE.put rfl ?_)) (by repeat (first | exact LtH.no _ | refine LtH.put rfl rfl ?_)) rfl)⟩
    | succ j =>
      have hRj : mLoop (mLe L) j (xs ++ [(mLe L t).1]) (mLe L t).2 = (name, s3) := hRj
      have cx := inext_fc L t (by unfold BW; omega)
      have hfx := sp_le' (sp_le t htop)
      obtain ⟨y, hy⟩ : ∃ y, y = mNext L t := ⟨_, rfl⟩
      obtain ⟨v, hv⟩ : ∃ v, v = (mLe L t).2 := ⟨_, rfl⟩
      rw [← hv] at hRj hfx
      rw [show (mLe L t).1 = (mNext L t).1 % 256 from rfl, ← hy] at hRj
      have hv2 : v = ⟨y.2.p, y.2.bad || decide (y.1 < 0) || decide (255 < y.1)⟩ := by rw [hv, hy]; rfl
      rw [← hy] at cx
      clear hv hy
      obtain ⟨x, ⟨p1, b1⟩⟩ := y
      dsimp only at cx hRj hv2
      obtain ⟨Z, hZ⟩ : ∃ Z, Z = xs ++ [x % 256] := ⟨_, rfl⟩
      have lZ : xs.length + 1 = Z.length := by rw [hZ, List.length_append]; rfl
      have happ : ints .u8 Z = ints .u8 xs ++ [.val (.int .u8 (IntKind.u8.wrap x))] := by rw [hZ, wrapU8]; simp [ints]
      rw [← hZ] at hRj
      (repeat (first | refine K1 ?_ | refine K2 ?_ | refine K3 ?_ | refine K4 ?_ | refine K5 ?_ | refine K6 ?_ | refine K7 ?_ | refine L1 ?_ | refine L2 ?_ | refine L3 ?_ | refine RG.d ?_ | refine RG.dd ?_ | refine S1 ?_ | refine S2 ?_ | refine S3 ?_ | refine S4 ?_ | refine S5 ?_ | refine S7 ?_ | refine S8 ?_))
      refine AW.condD rfl (fun _ => ?_) (fun k => absurd (show (0 : Int) < ((j + 1 : Nat) : Int) by omega) k)
      (repeat (first | refine K1 ?_ | refine K2 ?_ | refine K3 ?_ | refine K4 ?_ | refine K5 ?_ | refine K6 ?_ | refine K7 ?_ | refine L1 ?_ | refine L2 ?_ | refine L3 ?_ | refine RG.d ?_ | refine RG.dd ?_ | refine S2 ?_ | refine S3 ?_ | refine S4 ?_ | refine S5 ?_ | refine S7 ?_ | refine S8 ?_))
      refine S1 ?_
      (repeat (first | refine K1 ?_ | refine K2 ?_ | refine K3 ?_ | refine K4 ?_ | refine K5 ?_ | refine K6 ?_ | refine K7 ?_ | refine L1 ?_ | refine L2 ?_ | refine L3 ?_ | refine RG.d ?_ | refine RG.dd ?_ | refine S2 ?_ | refine S3 ?_ | refine S4 ?_ | refine S5 ?_ | refine S7 ?_ | refine S8 ?_))
      refine S1 ?_
      (repeat (first | refine K1 ?_ | refine K2 ?_ | refine K3 ?_ | refine K4 ?_ | refine K5 ?_ | refine K6 ?_ | refine K7 ?_ | refine L1 ?_ | refine L2 ?_ | refine L3 ?_ | refine RG.d ?_ | refine RG.dd ?_ | refine S2 ?_ | refine S3 ?_ | refine S4 ?_ | refine S5 ?_ | refine S7 ?_ | refine S8 ?_))
      refine RG.call rfl rfl rfl rfl (cx) [0] rfl rfl rfl rfl (.cons rfl (.one rfl) (Reg.lt_one rfl) ⟨[], _, rfl⟩ (.nil _)) (.cons (.one rfl) (.nil _)) (fun _ h => by first | exact h | exact False.elim h) rfl rfl rfl ?_
      (repeat (first | refine K1 ?_ | refine K2 ?_ | refine K3 ?_ | refine K4 ?_ | refine K5 ?_ | refine K6 ?_ | refine K7 ?_ | refine L1 ?_ | refine L2 ?_ | refine L3 ?_ | refine RG.d ?_ | refine RG.dd ?_ | refine S2 ?_ | refine S3 ?_ | refine S4 ?_ | refine S5 ?_ | refine S7 ?_ | refine S8 ?_))
      refine AW.seqJ (fun _ : Unit => ⟨put 0 (some (.ptr 0 [] 0)) (put 2 (some (.ptr 1 [] 0)) (put 3 (some (.ptr 2 [] 0)) (put 4 (some (.sl 3 [] 1 0 xs.length)) (put 5 (some (i64 ((j + 1 : Nat) : Int))) (put 6 (some (i64 x)) noE))))), hput 0 (.one (inC L v)) (hput 1 (.one ([i64 0, i64 0, strA ByteArray.empty, i64 0, i64 0, .val (.slice none 0 0), .val (.slice none 0 0), i64 0, i64 0, .val (.slice none 0 0), i64 0, .val (.slice none 0 0)])) (hput 2 (.one ([i64 id, i64 site, strA ByteArray.empty, i64 0, i64 0, .val (.slice none 0 0), .val (.slice none 0 0), i64 0, i64 0, .val (.slice none 0 0), i64 0, .val (.slice none 0 0)])) (hput 3 (.one (ints .u8 xs)) noH))), 4⟩) (fun _ => True) ?_ ?_
      · cases b1 with
        | true =>
          obtain rfl : v = ⟨p1, true⟩ := by rw [hv2]; rfl
          (repeat (first | refine K1 ?_ | refine K2 ?_ | refine K3 ?_ | refine K4 ?_ | refine K5 ?_ | refine K6 ?_ | refine K7 ?_ | refine L1 ?_ | refine L2 ?_ | refine L3 ?_ | refine RG.d ?_ | refine RG.dd ?_ | refine S2 ?_ | refine S3 ?_ | refine S4 ?_ | refine S5 ?_ | refine S7 ?_ | refine S8 ?_))
          exact ⟨(), trivial, Sub.of (by repeat (first | exact SubE.no _ | refine SubE.put rfl ?_)) (by repeat (first | exact SubH.no _ | refine SubH.put rfl ?_)) rfl⟩
        | false =>
          (repeat (first | refine K1 ?_ | refine K2 ?_ | refine K3 ?_ | refine K4 ?_ | refine K5 ?_ | refine K6 ?_ | refine K7 ?_ | refine L1 ?_ | refine L2 ?_ | refine L3 ?_ | refine RG.d ?_ | refine RG.dd ?_ | refine S2 ?_ | refine S3 ?_ | refine S4 ?_ | refine S5 ?_ | refine S7 ?_ | refine S8 ?_))
          refine RG.split 46 rfl (fun hx => ?_) (fun hx => ?_)
          · obtain rfl : v = ⟨p1, true⟩ := by rw [hv2, decide_eq_true hx]; rfl
            (repeat (first | refine K1 ?_ | refine K2 ?_ | refine K3 ?_ | refine K4 ?_ | refine K5 ?_ | refine K6 ?_ | refine K7 ?_ | refine L1 ?_ | refine L2 ?_ | refine L3 ?_ | refine RG.d ?_ | refine RG.dd ?_ | refine S2 ?_ | refine S3 ?_ | refine S4 ?_ | refine S5 ?_ | refine S7 ?_ | refine S8 ?_))
            exact ⟨(), trivial, Sub.of (by repeat (first | exact SubE.no _ | refine SubE.put rfl ?_)) (by repeat (first | exact SubH.no _ | refine SubH.put rfl ?_)) rfl⟩
          · obtain rfl : v = ⟨p1, decide (255 < x)⟩ := by rw [hv2, decide_eq_false hx]; rfl
            (repeat (first | refine K1 ?_ | refine K2 ?_ | refine K3 ?_ | refine K4 ?_ | refine K5 ?_ | refine K6 ?_ | refine K7 ?_ | refine L1 ?_ | refine L2 ?_ | refine L3 ?_ | refine RG.d ?_ | refine RG.dd ?_ | refine S2 ?_ | refine S3 ?_ | refine S4 ?_ | refine S5 ?_ | refine S7 ?_ | refine S8 ?_))
            exact ⟨(), trivial, Sub.of (by repeat (first | exact SubE.no _ | refine SubE.put rfl ?_)) (by repeat (first | exact SubH.no _ | refine SubH.put rfl ?_)) rfl⟩
      intro _ _
      have hfl : (ints .u8 xs).length = xs.length * 1 := by rw [ints_length, Nat.mul_one]
      (repeat (first | refine K1 ?_ | refine K2 ?_ | refine K3 ?_ | refine K4 ?_ | refine K5 ?_ | refine K6 ?_ | refine K7 ?_ | refine L1 ?_ | refine L2 ?_ | refine L3 ?_ | refine RG.d ?_ | refine RG.dd ?_ | refine S2 ?_ | refine S3 ?_ | refine S4 ?_ | refine S5 ?_ | refine S7 ?_ | refine S8 ?_))
      refine RG.append tok rfl rfl rfl rfl rfl rfl rfl rfl (n1 := xs.length) (c := ints .u8 xs) (ks := [3]) rfl (m := 1) (ks' := [4]) rfl rfl (by omega) rfl (by omega) (by omega) rfl (c' := ints .u8 Z) (by rw [List.take_of_length_le (by omega), happ]; rfl) ?_
      rw [lZ]
      (repeat (first | refine K1 ?_ | refine K2 ?_ | refine K3 ?_ | refine K4 ?_ | refine K5 ?_ | refine K6 ?_ | refine K7 ?_ | refine L1 ?_ | refine L2 ?_ | refine L3 ?_ | refine RG.d ?_ | refine RG.dd ?_ | refine S1 ?_ | refine S2 ?_ | refine S3 ?_ | refine S4 ?_ | refine S5 ?_ | refine S7 ?_ | refine S8 ?_))
      rw [show ((j + 1 : Nat) : Int) - 1 = (j : Int) by omega]
      refine ⟨(j, Z, v), ⟨by dsimp only; omega, hfx.2, hRj⟩, Nat.lt_succ_self _, Sub.renB sigJ ?_ ?_ sigJ_inj (fun a ha => sigJ_hi a ha) (fun a ha => sigJ_q a ha)⟩
      · exact SubEr.put rfl (SubEr.put rfl (SubEr.put rfl (SubEr.put rfl (SubEr.put rfl (SubEr.no _ _)))))
      · exact SubHr.put rfl rfl (SubHr.put rfl rfl (SubHr.put rfl rfl (SubHr.put rfl (ints_free _ _ _) (SubHr.no _ _))))
  intro _ _
  clear m3 ct3 hR3
  refine S1 ?_
  (repeat (first | refine K1 ?_ | refine K2 ?_ | refine K3 ?_ | refine K4 ?_ | refine K5 ?_ | refine K6 ?_ | refine K7 ?_ | refine L1 ?_ | refine L2 ?_ | refine L3 ?_ | refine RG.d ?_ | refine RG.dd ?_ | refine S2 ?_ | refine S3 ?_ | refine S4 ?_ | refine S5 ?_ | refine S7 ?_ | refine S8 ?_))
  refine RG.bstr tok rfl rfl rfl rfl rfl rfl rfl rfl rfl ?_
  (repeat (first | refine K1 ?_ | refine K2 ?_ | refine K3 ?_ | refine K4 ?_ | refine K5 ?_ | refine K6 ?_ | refine K7 ?_ | refine L1 ?_ | refine L2 ?_ | refine L3 ?_ | refine RG.d ?_ | refine RG.dd ?_ | refine S2 ?_ | refine S3 ?_ | refine S4 ?_ | refine S5 ?_ | refine S7 ?_ | refine S8 ?_))
  refine S1 ?_
  (repeat (first | refine K1 ?_ | refine K2 ?_ | refine K3 ?_ | refine K4 ?_ | refine K5 ?_ | refine K6 ?_ | refine K7 ?_ | refine L1 ?_ | refine L2 ?_ | refine L3 ?_ | refine RG.d ?_ | refine RG.dd ?_ | refine S2 ?_ | refine S3 ?_ | refine S4 ?_ | refine S5 ?_ | refine S7 ?_ | refine S8 ?_))
  refine RG.call rfl rfl rfl rfl (c4) [0] rfl rfl rfl rfl (.cons rfl (.one rfl) (Reg.lt_one rfl) ⟨[], _, rfl⟩ (.nil _)) (.cons (.one rfl) (.nil _)) (fun _ h => by first | exact h | exact False.elim h) rfl rfl rfl ?_
  (repeat (first | refine K1 ?_ | refine K2 ?_ | refine K3 ?_ | refine K4 ?_ | refine K5 ?_ | refine K6 ?_ | refine K7 ?_ | refine L1 ?_ | refine L2 ?_ | refine L3 ?_ | refine RG.d ?_ | refine RG.dd ?_ | refine S2 ?_ | refine S3 ?_ | refine S4 ?_ | refine S5 ?_ | refine S7 ?_ | refine S8 ?_))
  refine S1 ?_
  (repeat (first | refine K1 ?_ | refine K2 ?_ | refine K3 ?_ | refine K4 ?_ | refine K5 ?_ | refine K6 ?_ | refine K7 ?_ | refine L1 ?_ | refine L2 ?_ | refine L3 ?_ | refine RG.d ?_ | refine RG.dd ?_ | refine S2 ?_ | refine S3 ?_ | refine S4 ?_ | refine S5 ?_ | refine S7 ?_ | refine S8 ?_))
  refine RG.call rfl rfl rfl rfl (c5) [0] rfl rfl rfl rfl (.cons rfl (.one rfl) (Reg.lt_one rfl) ⟨[], _, rfl⟩ (.nil _)) (.cons (.one rfl) (.nil _)) (fun _ h => by first | exact h | exact False.elim h) rfl rfl rfl ?_
  (repeat (first | refine K1 ?_ | refine K2 ?_ | refine K3 ?_ | refine K4 ?_ | refine K5 ?_ | refine K6 ?_ | refine K7 ?_ | refine L1 ?_ | refine L2 ?_ | refine L3 ?_ | refine RG.d ?_ | refine RG.dd ?_ | refine S2 ?_ | refine S3 ?_ | refine S4 ?_ | refine S5 ?_ | refine S7 ?_ | refine S8 ?_))
  refine S1 ?_
  (repeat (first | refine K1 ?_ | refine K2 ?_ | refine K3 ?_ | refine K4 ?_ | refine K5 ?_ | refine K6 ?_ | refine K7 ?_ | refine L1 ?_ | refine L2 ?_ | refine L3 ?_ | refine RG.d ?_ | refine RG.dd ?_ | refine S2 ?_ | refine S3 ?_ | refine S4 ?_ | refine S5 ?_ | refine S7 ?_ | refine S8 ?_))
  refine RG.call rfl rfl rfl rfl (c6) [0] rfl rfl rfl rfl (.cons rfl (.one rfl) (Reg.lt_one rfl) ⟨[], _, rfl⟩ (.nil _)) (.cons (.one rfl) (.nil _)) (fun _ h => by first | exact h | exact False.elim h) rfl rfl rfl ?_
  (repeat (first | refine K1 ?_ | refine K2 ?_ | refine K3 ?_ | refine K4 ?_ | refine K5 ?_ | refine K6 ?_ | refine K7 ?_ | refine L1 ?_ | refine L2 ?_ | refine L3 ?_ | refine RG.d ?_ | refine RG.dd ?_ | refine S2 ?_ | refine S3 ?_ | refine S4 ?_ | refine S5 ?_ | refine S7 ?_ | refine S8 ?_))
  refine S1 ?_
  (repeat (first | refine K1 ?_ | refine K2 ?_ | refine K3 ?_ | refine K4 ?_ | refine K5 ?_ | refine K6 ?_ | refine K7 ?_ | refine L1 ?_ | refine L2 ?_ | refine L3 ?_ | refine RG.d ?_ | refine RG.dd ?_ | refine S2 ?_ | refine S3 ?_ | refine S4 ?_ | refine S5 ?_ | refine S7 ?_ | refine S8 ?_))
  refine RG.call rfl rfl rfl rfl (c7) [0] rfl rfl rfl rfl (.cons rfl (.one rfl) (Reg.lt_one rfl) ⟨[], _, rfl⟩ (.nil _)) (.cons (.one rfl) (.nil _)) (fun _ h => by first | exact h | exact False.elim h) rfl rfl rfl ?_
  (repeat (first | refine K1 ?_ | refine K2 ?_ | refine K3 ?_ | refine K4 ?_ | refine K5 ?_ | refine K6 ?_ | refine K7 ?_ | refine L1 ?_ | refine L2 ?_ | refine L3 ?_ | refine RG.d ?_ | refine RG.dd ?_ | refine S2 ?_ | refine S3 ?_ | refine S4 ?_ | refine S5 ?_ | refine S7 ?_ | refine S8 ?_))
  refine S1 ?_
  (repeat (first | refine K1 ?_ | refine K2 ?_ | refine K3 ?_ | refine K4 ?_ | refine K5 ?_ | refine K6 ?_ | refine K7 ?_ | refine L1 ?_ | refine L2 ?_ | refine L3 ?_ | refine RG.d ?_ | refine RG.dd ?_ | refine S2 ?_ | refine S3 ?_ | refine S4 ?_ | refine S5 ?_ | refine S7 ?_ | refine S8 ?_))
  refine RG.call rfl rfl rfl rfl (c8) [0] rfl rfl rfl rfl (.cons rfl (.one rfl) (Reg.lt_one rfl) ⟨[], _, rfl⟩ (.nil _)) (.cons (.one rfl) (.nil _)) (fun _ h => by first | exact h | exact False.elim h) rfl rfl rfl ?_
  (repeat (first | refine K1 ?_ | refine K2 ?_ | refine K3 ?_ | refine K4 ?_ | refine K5 ?_ | refine K6 ?_ | refine K7 ?_ | refine L1 ?_ | refine L2 ?_ | refine L3 ?_ | refine RG.d ?_ | refine RG.dd ?_ | refine S2 ?_ | refine S3 ?_ | refine S4 ?_ | refine S5 ?_ | refine S7 ?_ | refine S8 ?_))
  refine S1 ?_
  (repeat (first | refine K1 ?_ | refine K2 ?_ | refine K3 ?_ | refine K4 ?_ | refine K5 ?_ | refine K6 ?_ | refine K7 ?_ | refine L1 ?_ | refine L2 ?_ | refine L3 ?_ | refine RG.d ?_ | refine RG.dd ?_ | refine S2 ?_ | refine S3 ?_ | refine S4 ?_ | refine S5 ?_ | refine S7 ?_ | refine S8 ?_))
  refine RG.call rfl rfl rfl rfl (c9) [0] rfl rfl rfl rfl (.cons rfl (.one rfl) (Reg.lt_one rfl) ⟨[], _, rfl⟩ (.nil _)) (.cons (.one rfl) (.nil _)) (fun _ h => by first | exact h | exact False.elim h) rfl rfl rfl ?_
  (repeat (first | refine K1 ?_ | refine K2 ?_ | refine K3 ?_ | refine K4 ?_ | refine K5 ?_ | refine K6 ?_ | refine K7 ?_ | refine L1 ?_ | refine L2 ?_ | refine L3 ?_ | refine RG.d ?_ | refine RG.dd ?_ | refine S2 ?_ | refine S3 ?_ | refine S4 ?_ | refine S5 ?_ | refine S7 ?_ | refine S8 ?_))
  refine AW.seqJ (fun _ : Unit => ⟨put 0 (some (.ptr 0 [] 0)) (put 2 (some (.ptr 1 [] 0)) (put 3 (some (.ptr 2 [] 0)) noE)), hput 0 (.one (inC L s10)) (hput 1 (.one ([i64 0, i64 0, strA ByteArray.empty, i64 0, i64 0, .val (.slice none 0 0), .val (.slice none 0 0), i64 0, i64 0, .val (.slice none 0 0), i64 0, .val (.slice none 0 0)])) (hput 2 (.one ([i64 id, i64 site, strA (unb name), i64 firm, i64 part, .ro params.length (flC Rg.cl params), .ro given.length (flC Rg.cl given), i64 vars, i64 refs, .ro arrays.length (flC Ar.cl arrays), i64 0, .val (.slice none 0 0)])) noH)), 3⟩) (fun _ => True) ?_ ?_
  · refine S1 ?_
    (repeat (first | refine RG.call rfl rfl rfl rfl (m10) [0] rfl rfl rfl rfl (.cons rfl (.one rfl) (Reg.lt_one rfl) ⟨[], _, rfl⟩ (.nil _)) (.cons (.one rfl) (.nil _)) (fun _ h => by first | exact h | exact False.elim h) rfl rfl rfl ?_ | refine K1 ?_ | refine K2 ?_ | refine K3 ?_ | refine K4 ?_ | refine K5 ?_ | refine K6 ?_ | refine K7 ?_ | refine L1 ?_ | refine L2 ?_ | refine L3 ?_ | refine RG.d ?_ | refine RG.dd ?_ | refine S2 ?_ | refine S3 ?_ | refine S4 ?_ | refine S5 ?_ | refine S7 ?_ | refine S8 ?_))
    refine AW.sub (show Sub _ _ (⟨put 0 (some (.ptr 0 [] 0)) (put 2 (some (.ptr 1 [] 0)) (put 3 (some (.ptr 2 [] 0)) (put 7 (some (i64 (n10 : Int))) noE))), hput 0 (.one (inC L j10)) (hput 1 (.one ([i64 0, i64 0, strA ByteArray.empty, i64 0, i64 0, .val (.slice none 0 0), .val (.slice none 0 0), i64 0, i64 0, .val (.slice none 0 0), i64 0, .val (.slice none 0 0)])) (hput 2 (.one ([i64 id, i64 site, strA (unb name), i64 firm, i64 part, .ro params.length (flC Rg.cl params), .ro given.length (flC Rg.cl given), i64 vars, i64 refs, .val (.slice none 0 0), i64 0, .val (.slice none 0 0)])) noH)), 3⟩) from Sub.of (by repeat (first | exact SubE.no _ | refine SubE.put rfl ?_)) (by repeat (first | exact SubH.no _ | refine SubH.put rfl ?_)) rfl) ?_
    refine AW.sub (Sub.nilH 2 9 2 rfl rfl rfl rfl) ?_
    first | refine S4 ?_ | skip
    refine AW.loopS (fun q : Nat × List Ar × Inp => ⟨put 0 (some (.ptr 0 [] 0)) (put 2 (some (.ptr 1 [] 0)) (put 3 (some (.ptr 2 [] 0)) (put 7 (some (i64 (q.1 : Int))) noE))), hput 0 (.one (inC L q.2.2)) (hput 1 (.one ([i64 0, i64 0, strA ByteArray.empty, i64 0, i64 0, .val (.slice none 0 0), .val (.slice none 0 0), i64 0, i64 0, .val (.slice none 0 0), i64 0, .val (.slice none 0 0)])) (hput 2 (.one ([i64 id, i64 site, strA (unb name), i64 firm, i64 part, .ro params.length (flC Rg.cl params), .ro given.length (flC Rg.cl given), i64 vars, i64 refs, .sl 3 [] 2 0 q.2.1.length, i64 0, .val (.slice none 0 0)])) (hput 3 (.one (flC Ar.cl q.2.1)) noH))), 4⟩) (fun q => q.1 + q.2.1.length = n10 ∧ q.2.2.p ≤ L.length ∧ mLoop (mAr L) q.1 q.2.1 q.2.2 = (arrays, s10)) (fun q => q.1) (n10, [], j10) ⟨rfl, ct10.top, hR10.symm⟩ (Sub.of (by repeat (first | exact SubE.no _ | refine SubE.put rfl ?_)) (by repeat (first | exact SubH.no _ | refine SubH.put rfl ?_)) rfl) ?_
    rintro ⟨j, xs, t⟩ ⟨hj, htop, hRj⟩
    dsimp only at hj htop hRj
    cases j with
    | zero =>
      obtain ⟨rfl, rfl⟩ : arrays = xs ∧ s10 = t := Prod.mk.inj hRj.symm
      (repeat (first | refine K1 ?_ | refine K2 ?_ | refine K3 ?_ | refine K4 ?_ | refine K5 ?_ | refine K6 ?_ | refine K7 ?_ | refine L1 ?_ | refine L2 ?_ | refine L3 ?_ | refine RG.d ?_ | refine RG.dd ?_ | refine S1 ?_ | refine S2 ?_ | refine S3 ?_ | refine S4 ?_ | refine S5 ?_ | refine S7 ?_ | refine S8 ?_))
      refine ⟨(), trivial, Sub.trans (Sub.frzH (ks := [3]) 2 rfl (by decide) (c' := [i64 id, i64 site, strA (unb name), i64 firm, i64 part, .ro params.length (flC Rg.cl params), .ro given.length (flC Rg.cl given), i64 vars, i64 refs, .ro arrays.length (flC Ar.cl arrays), i64 0, .val (.slice none 0 0)]) ?_) (Sub.down (by repeat (first | exact SubE.no _ | refine SubE.put rfl ?_)) (by repeat (first | exact SubH.no _ | refine SubH.put rfl ?_)) (by repeat (first | exact LtE.no _ | refine LtE.put rfl ?_)) (by repeat (first | exact LtH.no _ | refine LtH.put rfl rfl ?_)) rfl)⟩
      exact .cons (Frz.refl _) (.cons (Frz.refl _) (.cons (Frz.refl _) (.cons (Frz.refl _) (.cons (Frz.refl _) (.cons (Frz.refl _) (.cons (Frz.refl _) (.cons (Frz.refl _) (.cons (Frz.refl _) (.cons (frzC rfl (by decide) (flC_len (cl := Ar.cl) (st := 2) (fun _ => rfl) _) (flC_free (fun _ => rfl) _)) (.cons (Frz.refl _) (.cons (Frz.refl _) .nil)))))))))))
    | succ j =>
      have hRj : mLoop (mAr L) j (xs ++ [(mAr L t).1]) (mAr L t).2 = (arrays, s10) := hRj
      have cx := inext_fc L t (by unfold BW; omega)
      have cy := inext_fc L (mNext L t).2 (by unfold BW; omega)
      have hfx := sp_le' (sp_ar t htop)
      simp only [mAr] at hRj hfx
      obtain ⟨y, hy⟩ : ∃ y, y = mNext L t := ⟨_, rfl⟩
      rw [← hy] at hRj hfx cx cy
      obtain ⟨y1, t1⟩ := y
      dsimp only at hRj hfx cx cy
      obtain ⟨y, hy⟩ : ∃ y, y = mNext L t1 := ⟨_, rfl⟩
      rw [← hy] at hRj hfx cy
      obtain ⟨y2, t2⟩ := y
      dsimp only at hRj hfx cy
      obtain ⟨Z, hZ⟩ : ∃ Z, Z = xs ++ [Ar.mk y1 y2] := ⟨_, rfl⟩
      have lZ : xs.length + 1 = Z.length := by rw [hZ, List.length_append]; rfl
      have happ : flC Ar.cl Z = flC Ar.cl xs ++ [i64 y1, i64 y2] := by rw [hZ, flC_append]; rfl
      have hfl : (flC Ar.cl xs).length = xs.length * 2 := flC_len (cl := Ar.cl) (st := 2) (fun _ => rfl) xs
      rw [← hZ] at hRj
      (repeat (first | refine K1 ?_ | refine K2 ?_ | refine K3 ?_ | refine K4 ?_ | refine K5 ?_ | refine K6 ?_ | refine K7 ?_ | refine L1 ?_ | refine L2 ?_ | refine L3 ?_ | refine RG.d ?_ | refine RG.dd ?_ | refine S1 ?_ | refine S2 ?_ | refine S3 ?_ | refine S4 ?_ | refine S5 ?_ | refine S7 ?_ | refine S8 ?_))
      refine AW.condD rfl (fun _ => ?_) (fun k => absurd (show (0 : Int) < ((j + 1 : Nat) : Int) by omega) k)
      (repeat (first | refine K1 ?_ | refine K2 ?_ | refine K3 ?_ | refine K4 ?_ | refine K5 ?_ | refine K6 ?_ | refine K7 ?_ | refine L1 ?_ | refine L2 ?_ | refine L3 ?_ | refine RG.d ?_ | refine RG.dd ?_ | refine S1 ?_ | refine S2 ?_ | refine S3 ?_ | refine S4 ?_ | refine S5 ?_ | refine S7 ?_ | refine S8 ?_))
      refine RG.call rfl rfl rfl rfl (cx) [0] rfl rfl rfl rfl (.cons rfl (.one rfl) (Reg.lt_one rfl) ⟨[], _, rfl⟩ (.nil _)) (.cons (.one rfl) (.nil _)) (fun _ h => by first | exact h | exact False.elim h) rfl rfl rfl ?_
      (repeat (first | refine K1 ?_ | refine K2 ?_ | refine K3 ?_ | refine K4 ?_ | refine K5 ?_ | refine K6 ?_ | refine K7 ?_ | refine L1 ?_ | refine L2 ?_ | refine L3 ?_ | refine RG.d ?_ | refine RG.dd ?_ | refine S1 ?_ | refine S2 ?_ | refine S3 ?_ | refine S4 ?_ | refine S5 ?_ | refine S7 ?_ | refine S8 ?_))
      refine RG.call rfl rfl rfl rfl (cy) [0] rfl rfl rfl rfl (.cons rfl (.one rfl) (Reg.lt_one rfl) ⟨[], _, rfl⟩ (.nil _)) (.cons (.one rfl) (.nil _)) (fun _ h => by first | exact h | exact False.elim h) rfl rfl rfl ?_
      (repeat (first | refine K1 ?_ | refine K2 ?_ | refine K3 ?_ | refine K4 ?_ | refine K5 ?_ | refine K6 ?_ | refine K7 ?_ | refine L1 ?_ | refine L2 ?_ | refine L3 ?_ | refine RG.d ?_ | refine RG.dd ?_ | refine S1 ?_ | refine S2 ?_ | refine S3 ?_ | refine S4 ?_ | refine S5 ?_ | refine S7 ?_ | refine S8 ?_))
      refine RG.append tok rfl rfl rfl rfl rfl rfl rfl rfl (n1 := xs.length) (c := flC Ar.cl xs) (ks := [3]) rfl (m := 1) (ks' := [5]) rfl rfl (by omega) rfl (by omega) (by omega) rfl (c' := flC Ar.cl Z) (by rw [List.take_of_length_le (by omega), happ]; rfl) ?_
      rw [lZ]
      (repeat (first | refine K1 ?_ | refine K2 ?_ | refine K3 ?_ | refine K4 ?_ | refine K5 ?_ | refine K6 ?_ | refine K7 ?_ | refine L1 ?_ | refine L2 ?_ | refine L3 ?_ | refine RG.d ?_ | refine RG.dd ?_ | refine S1 ?_ | refine S2 ?_ | refine S3 ?_ | refine S4 ?_ | refine S5 ?_ | refine S7 ?_ | refine S8 ?_))
      rw [show ((j + 1 : Nat) : Int) - 1 = (j : Int) by omega]
      refine ⟨(j, Z, t2), ⟨by dsimp only; omega, hfx.2, hRj⟩, Nat.lt_succ_self _, Sub.renB sigL ?_ ?_ sigL_inj (fun a ha => sigL_hi a ha) (fun a ha => sigL_q a ha)⟩
      · exact SubEr.put rfl (SubEr.put rfl (SubEr.put rfl (SubEr.put rfl (SubEr.no _ _))))
      · exact SubHr.put rfl rfl (SubHr.put rfl rfl (SubHr.putR rfl rfl (SubHr.put rfl (flC_free (fun _ => rfl) _) (SubHr.no _ _))))
  intro _ _
  (repeat (first | refine K1 ?_ | refine K2 ?_ | refine K3 ?_ | refine K4 ?_ | refine K5 ?_ | refine K6 ?_ | refine K7 ?_ | refine L1 ?_ | refine L2 ?_ | refine L3 ?_ | refine RG.d ?_ | refine RG.dd ?_ | refine S1 ?_ | refine S2 ?_ | refine S3 ?_ | refine S4 ?_ | refine S5 ?_ | refine S7 ?_ | refine S8 ?_))
  refine RG.call rfl rfl rfl rfl (c11) [0] rfl rfl rfl rfl (.cons rfl (.one rfl) (Reg.lt_one rfl) ⟨[], _, rfl⟩ (.nil _)) (.cons (.one rfl) (.nil _)) (fun _ h => by first | exact h | exact False.elim h) rfl rfl rfl ?_
  (repeat (first | refine K1 ?_ | refine K2 ?_ | refine K3 ?_ | refine K4 ?_ | refine K5 ?_ | refine K6 ?_ | refine K7 ?_ | refine L1 ?_ | refine L2 ?_ | refine L3 ?_ | refine RG.d ?_ | refine RG.dd ?_ | refine S1 ?_ | refine S2 ?_ | refine S3 ?_ | refine S4 ?_ | refine S5 ?_ | refine S7 ?_ | refine S8 ?_))
  refine RG.call rfl rfl rfl rfl (c12) [0] rfl rfl rfl rfl (.cons rfl (.one rfl) (Reg.lt_one rfl) ⟨[], _, rfl⟩ (.nil _)) (.cons (.one rfl) (.nil _)) (fun _ h => by first | exact h | exact False.elim h) rfl rfl rfl ?_
  (repeat (first | refine K1 ?_ | refine K2 ?_ | refine K3 ?_ | refine K4 ?_ | refine K5 ?_ | refine K6 ?_ | refine K7 ?_ | refine L1 ?_ | refine L2 ?_ | refine L3 ?_ | refine RG.d ?_ | refine RG.dd ?_ | refine S1 ?_ | refine S2 ?_ | refine S3 ?_ | refine S4 ?_ | refine S5 ?_ | refine S6 ?_ | refine S7 ?_ | refine S8 ?_))
  exact ⟨⟨_, rfl, rfl⟩, rfl, .cons rfl (.one rfl) (Reg.lt_one rfl) ⟨[], _, rfl⟩ (.nil _)⟩
end Go.Proofs.Ytmfccaidgaelcaa
