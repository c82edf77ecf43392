/- A right summary for numbers, as the reference makes it. No conditions. -/
import Derived.Test.YtifeioddiddnoaaGreatDoorScA
import Derived.Test.YtifeioddiddnoaaGreatDoorSp
import Derived.Test.YtifeioddiddnoaaGreatDoorEc44
set_option linter.unusedVariables false
set_option linter.unusedSimpArgs false
namespace Go.Proofs.YtifeioddiddnoaaGreatDoor
open Go.Abs Go Go.RowKit
set_option maxRecDepth 20000
abbrev u16 (n : Nat) : A := .val (.int .u16 (n : Int))
theorem tm_i64 (n k : Nat) (hn : n ≤ 65535) (hk : 0 < k) : IntKind.i64.wrap (Int.tmod (n : Int) (k : Int)) = ((n % k : Nat) : Int) := by
  rw [Int.tmod_eq_emod_of_nonneg (by omega), ← Int.natCast_emod]
  have := Nat.mod_le n k
  exact wrap_i64 ⟨by omega, by omega⟩
theorem u16_i64 (n : Nat) (hn : n ≤ 65535) : IntKind.i64.wrap (n : Int) = (n : Int) := wrap_i64 ⟨by omega, by omega⟩
theorem and7 (n : Nat) (hn : n ≤ 65535) : IntKind.i64.wrap ((BitVec.ofInt 64 (n : Int) &&& BitVec.ofInt 64 7).toNat : Nat) = ((n % 8 : Nat) : Int) := by
  have e : (BitVec.ofInt 64 (n : Int) &&& BitVec.ofInt 64 7).toNat = n % 8 := by
    rw [BitVec.toNat_and, BitVec.toNat_ofInt, BitVec.toNat_ofInt, ← Nat.and_two_pow_sub_one_eq_mod n 3]
    congr 1
    omega
  rw [e]
  exact wrap_i64 ⟨by omega, by omega⟩
abbrev zSy : List A := [i64 0, i64 0, i64 0, i64 0, i64 0, i64 0, i64 0, i64 0, i64 0, nilA, i64 0]
theorem u64_km {a b : Nat} (ha : a < 3) (hb : b < 3) : IntKind.u64.wrap (Int.tmod (3 * (a : Int) + (b : Int)) 16) = ((3 * a + b : Nat) : Int) := by
  rw [Int.tmod_eq_emod_of_nonneg (by omega), show (3 * (a : Int) + (b : Int)) % 16 = ((3 * a + b : Nat) : Int) by omega]
  exact wrap_u64 ⟨by omega, by omega⟩
theorem tb16 (n k : Nat) (hn : n ≤ 65535) (hk : k ≤ 15) : decide (IntKind.u16.wrap ((BitVec.ofInt IntKind.u16.bits (Int.fdiv (n : Int) (2 ^ min (Int.toNat (k : Int)) IntKind.u16.bits)) &&& BitVec.ofInt IntKind.u16.bits 1).toNat : Nat) = 1) = n.testBit k := by
  have e : (BitVec.ofInt IntKind.u16.bits (Int.fdiv (n : Int) (2 ^ min (Int.toNat (k : Int)) IntKind.u16.bits)) &&& BitVec.ofInt IntKind.u16.bits 1).toNat = n / 2 ^ k % 2 := by
    show (BitVec.ofInt 16 (Int.fdiv (n : Int) (2 ^ min (Int.toNat (k : Int)) 16)) &&& BitVec.ofInt 16 1).toNat = n / 2 ^ k % 2
    rw [Int.toNat_natCast, show min k 16 = k by omega, show ((2 : Int) ^ k) = ((2 ^ k : Nat) : Int) by simp, Int.fdiv_eq_ediv_of_nonneg _ (Int.natCast_nonneg _), ← Int.natCast_ediv, BitVec.toNat_and, BitVec.toNat_ofInt, BitVec.toNat_ofInt]
    have h1 : n / 2 ^ k ≤ n := Nat.div_le_self _ _
    generalize n / 2 ^ k = q at h1 ⊢
    rw [show ((q : Int) % ((2 ^ 16 : Nat) : Int)).toNat = q by omega, show ((1 : Int) % ((2 ^ 16 : Nat) : Int)).toNat = 1 by decide, Nat.and_one_is_mod]
  rw [e, Nat.testBit_eq_decide_div_mod_eq]
  rcases Nat.mod_two_eq_zero_or_one (n / 2 ^ k) with h | h
  · rw [h]; decide
  · rw [h]; decide
theorem agS {i a1 a2 a3 a4 a5 a b c d a' b' c' d' : Int} {x : A} (ha : a = a') (hb : b = b') (hc : c = c') (hd : d = d') : A.agg [i64 i, i64 a1, i64 a2, i64 a3, i64 a4, i64 a5, i64 a, i64 b, i64 c, x, i64 d] = A.agg [i64 i, i64 a1, i64 a2, i64 a3, i64 a4, i64 a5, i64 a', i64 b', i64 c', x, i64 d'] := by rw [ha, hb, hc, hd]
theorem tr1_bd {v m : Int} (hv : -2147483648 ≤ v ∧ v ≤ 2147483647) (hm : 0 ≤ m ∧ m < 4294967296) : (⟨v, v, 0, m⟩ : Tr).bd where
  toOk := ⟨Int.le_refl _, Int.le_refl _, ⟨fun _ => rfl, fun _ => rfl⟩, by show (0 : Int) ∣ v - v; rw [Int.sub_self]; exact Int.dvd_refl _⟩
  lo31 := hv.1
  hi31 := hv.2
  m0 := hm.1
  m1 := hm.2
theorem nf_1 (v m : Int) : nf ⟨v, v, 0, m⟩ = abOf v m := by unfold nf abOf; simp
set_option maxHeartbeats 8000000 in
theorem some_fc (p : Pg) (hp : p.dc = dcM) (id : Int) (n0 n1 n2 n3 n4 n5 n6 n7 : Nat)
    (h0 : n0 ≤ 65535) (h1 : n1 ≤ 65535) (h2 : n2 ≤ 65535) (h3 : n3 ≤ 65535) (h4 : n4 ≤ 65535) (h5 : n5 ≤ 65535) (h6 : n6 ≤ 65535) (h7 : n7 ≤ 65535) :
    FC Tryz.prog ge 18 [.agg p.cl, i64 id, .agg [u16 n0, u16 n1, u16 n2, u16 n3, u16 n4, u16 n5, u16 n6, u16 n7]] [] (.agg (syOf id n0 n1 n2 n3 n4 n5 n6 n7).cl) [] NoP := by
  obtain ⟨lo, hlo⟩ : ∃ lo : Int, lo = ((n0 % 40 : Nat) : Int) - 20 := ⟨_, rfl⟩
  have blo : -20 ≤ lo ∧ lo ≤ 19 := by omega
  simp only [Pg.cl, hp, dcM_cl, List.cons_append, List.nil_append]
  have a0 : IntKind.i64.wrap (Int.tmod (n0 : Int) 40) = ((n0 % 40 : Nat) : Int) := tm_i64 n0 40 h0 (by decide)
  have e1 : IntKind.i64.wrap (Int.tmod (n1 : Int) 4) = ((n1 % 4 : Nat) : Int) := tm_i64 n1 4 h1 (by decide)
  have a2 : IntKind.i64.wrap (Int.tmod (n2 : Int) 30) = ((n2 % 30 : Nat) : Int) := tm_i64 n2 30 h2 (by decide)
  have a3 : IntKind.i64.wrap (IntKind.i64.wrap (Int.tmod (n3 : Int) 8) * 2) = ((n3 % 8 * 2 : Nat) : Int) := by
    rw [show IntKind.i64.wrap (Int.tmod (n3 : Int) 8) = ((n3 % 8 : Nat) : Int) from tm_i64 n3 8 h3 (by decide)]
    exact wrap_i64 ⟨by omega, by omega⟩
  have e0 : IntKind.i64.wrap (Int.tmod (n0 : Int) 40) - 20 = lo := by
    rw [a0, hlo]
  have e2 : lo + IntKind.i64.wrap (Int.tmod (n2 : Int) 30) = lo + ((n2 % 30 : Nat) : Int) := by
    rw [a2]
  have b4 := and7 n4 h4
  have b5 := and7 n5 h5
  obtain ⟨m1, hm1⟩ : ∃ m, m = ((n1 % 4 : Nat) : Int) := ⟨_, rfl⟩
  obtain ⟨hi, hhi⟩ : ∃ m, m = lo + ((n2 % 30 : Nat) : Int) := ⟨_, rfl⟩
  have c1 := rof_fc lo m1 ⟨by omega, by omega⟩
  have c2 := rof_fc hi 0 ⟨by omega, by omega⟩
  have k1 := rjoin_fc ⟨lo, lo, 0, m1⟩ ⟨hi, hi, 0, 0⟩ (tr1_bd (by omega) (by omega)) (tr1_bd (by omega) (by omega))
  rw [← join_nf (tr1_bd (by omega) (by omega)).toOk (tr1_bd (by omega) (by omega)).toOk, nf_1, nf_1] at k1
  rw [← hm1] at e1
  rw [← hhi] at e2
  have hS : syOf id n0 n1 n2 n3 n4 n5 n6 n7 = ⟨id, (abOf lo m1).join (abOf hi 0), ((n3 % 8 * 2 : Nat) : Int), ((n4 % 8 : Nat) : Int), ((n5 % 8 : Nat) : Int), prOf (prBits n7), (n6 : Int)⟩ := by
    unfold syOf
    rw [hm1, hhi, hlo]
  rw [hS, ← prFold_eq]
  clear hS
  obtain ⟨T3, hT3⟩ : ∃ T, T = ((n3 % 8 * 2 : Nat) : Int) := ⟨_, rfl⟩
  obtain ⟨T4, hT4⟩ : ∃ T, T = ((n4 % 8 : Nat) : Int) := ⟨_, rfl⟩
  obtain ⟨T5, hT5⟩ : ∃ T, T = ((n5 % 8 : Nat) : Int) := ⟨_, rfl⟩
  rw [← hT3] at a3 ⊢
  rw [← hT4] at b4 ⊢
  rw [← hT5] at b5 ⊢
  clear hT3 hT4 hT5
  obtain ⟨J, hJ⟩ : ∃ J, J = (abOf lo m1).join (abOf hi 0) := ⟨_, rfl⟩
  rw [← hJ] at k1 ⊢
  obtain ⟨J1, J2, J3, J4, J5⟩ := J
  simp only [Ab.cl, abOf] at c1 c2 k1
  simp only [Sy.cl]
  refine FC.of_AW tok Tryz.func18 (by kernel_rfl) rfl Tryz.ntmps18 [] rfl rfl rfl ?_; intro w0 X0 Y f0 hI0 hX0
  (repeat (first | refine K2 ?_ | refine K4 ?_ | refine K5 ?_ | refine L1 ?_ | refine L2 ?_ | refine RG.d ?_ | refine S1 ?_ | refine S2 ?_))
  refine RG.put 7 rfl (v' := i64 lo) (congrArg (fun z => i64 z) e0) ?_
  refine RG.put 17 rfl (v' := i64 lo) (congrArg (fun z => i64 z) e0) ?_
  refine RG.put 22 rfl (v' := .agg [i64 lo, i64 m1]) (by rw [e0, e1]) ?_
  (repeat (first | refine RG.call rfl rfl rfl rfl (c1) [] rfl rfl rfl rfl (.nil _) (.nil _) (fun _ h => False.elim h) rfl (A.ren_free _ _ rfl) rfl ?_ | refine K2 ?_ | refine K4 ?_ | refine K5 ?_ | refine L1 ?_))
  refine RG.put 30 rfl (v' := .agg [i64 hi, i64 0]) (by rw [e2]) ?_
  (repeat (first | refine RG.call rfl rfl rfl rfl (c2) [] rfl rfl rfl rfl (.nil _) (.nil _) (fun _ h => False.elim h) rfl (A.ren_free _ _ rfl) rfl ?_))
  refine RG.call rfl rfl rfl rfl (k1) [] rfl rfl rfl rfl (.nil _) (.nil _) (fun _ h => False.elim h) rfl (A.ren_free _ _ rfl) rfl ?_
  iterate 29 ((first | refine K2 ?_ | refine K3 ?_ | refine K4 ?_ | refine K5 ?_ | refine L1 ?_))
  refine RG.put 61 rfl (v' := .agg [i64 id, i64 J1, i64 J2, i64 J3, i64 J4, i64 J5, i64 T3, i64 T4, i64 T5, nilA, i64 (n6 : Int)]) (agS a3 b4 b5 rfl) ?_
  (repeat (first | refine L2 ?_ | refine L3 ?_ | refine RG.dd ?_))
  refine AW.sub (Sub.frzH (ks := []) (c' := [i64 id, i64 J1, i64 J2, i64 J3, i64 J4, i64 J5, i64 T3, i64 T4, i64 T5, rdP [], i64 (n6 : Int)]) 3 rfl List.not_mem_nil (by repeat (first | exact Frzs.nil | refine Frzs.cons (Frz.wk (Frz.refl _) Wk.nil) ?_ | refine Frzs.cons (Frz.refl _) ?_))) ?_
  refine AW.seqJ (fun _ : Unit => ⟨put 6 (some (.ptr 2 [] 0)) (put 8 (some (.ptr 3 [] 0)) noE), hput 0 (.one ([gA1, gA2, gA3, gA4, i64 3, i64 3, i64 2, .ro p.heads.length (flC Hd.cl p.heads), .ro p.defs.length (flC Df.cl p.defs), .ro p.threads.length (ints .i64 p.threads)])) (hput 1 (.one ([u16 n0, u16 n1, u16 n2, u16 n3, u16 n4, u16 n5, u16 n6, u16 n7])) (hput 2 (.one (zSy)) (hput 3 (.one ([i64 id, i64 J1, i64 J2, i64 J3, i64 J4, i64 J5, i64 T3, i64 T4, i64 T5, rdP (prFold n7), i64 (n6 : Int)])) noH))), 4⟩) (fun _ => True) ?_ (fun _ _ => ?_)
  · refine S1 ?_
    (repeat (first | refine K4 ?_ | refine RG.d ?_ | refine S2 ?_ | refine S4 ?_))
    refine AW.loopS (fun a : Nat => ⟨put 3 (some (.ptr 0 [] 0)) (put 5 (some (.ptr 1 [] 0)) (put 6 (some (.ptr 2 [] 0)) (put 8 (some (.ptr 3 [] 0)) (put 9 (some (i64 (a : Int))) noE)))), hput 0 (.one ([gA1, gA2, gA3, gA4, i64 3, i64 3, i64 2, .ro p.heads.length (flC Hd.cl p.heads), .ro p.defs.length (flC Df.cl p.defs), .ro p.threads.length (ints .i64 p.threads)])) (hput 1 (.one ([u16 n0, u16 n1, u16 n2, u16 n3, u16 n4, u16 n5, u16 n6, u16 n7])) (hput 2 (.one (zSy)) (hput 3 (.one ([i64 id, i64 J1, i64 J2, i64 J3, i64 J4, i64 J5, i64 T3, i64 T4, i64 T5, rdP (prPre n7 (3 * a)), i64 (n6 : Int)])) noH))), 4⟩) (fun a => a ≤ 3) (fun a => 3 - a) 0 (Nat.zero_le _) (Sub.of (by repeat (first | exact SubE.no _ | refine SubE.put rfl ?_)) (by repeat (first | exact SubH.no _ | refine SubH.put rfl ?_)) rfl) ?_
    intro a ha
    (repeat (first | refine K4 ?_ | refine L1 ?_ | refine RG.d ?_ | refine S1 ?_ | refine S2 ?_))
    refine AW.condD rfl (fun k => ?_) (fun k => ?_)
    rotate_left
    · have k : ¬ (a : Int) < 3 := k
      obtain rfl : a = 3 := by omega
      (repeat (first | refine S5 ?_))
      exact ⟨(), trivial, Sub.of (by repeat (first | exact SubE.no _ | refine SubE.put rfl ?_)) (by repeat (first | exact SubH.no _ | refine SubH.put rfl ?_)) rfl⟩
    have k : (a : Int) < 3 := k
    (repeat (first | refine S3 ?_))
    refine AW.seqJ (fun _ : Unit => ⟨put 3 (some (.ptr 0 [] 0)) (put 5 (some (.ptr 1 [] 0)) (put 6 (some (.ptr 2 [] 0)) (put 8 (some (.ptr 3 [] 0)) (put 9 (some (i64 (a : Int))) noE)))), hput 0 (.one ([gA1, gA2, gA3, gA4, i64 3, i64 3, i64 2, .ro p.heads.length (flC Hd.cl p.heads), .ro p.defs.length (flC Df.cl p.defs), .ro p.threads.length (ints .i64 p.threads)])) (hput 1 (.one ([u16 n0, u16 n1, u16 n2, u16 n3, u16 n4, u16 n5, u16 n6, u16 n7])) (hput 2 (.one (zSy)) (hput 3 (.one ([i64 id, i64 J1, i64 J2, i64 J3, i64 J4, i64 J5, i64 T3, i64 T4, i64 T5, rdP (prPre n7 (3 * a + 3)), i64 (n6 : Int)])) noH))), 4⟩) (fun _ => True) ?_ (fun _ _ => ?_)
    · refine S4 ?_
      refine S1 ?_
      (repeat (first | refine K4 ?_ | refine RG.d ?_ | refine S2 ?_ | refine S4 ?_))
      refine AW.loopS (fun b : Nat => ⟨put 3 (some (.ptr 0 [] 0)) (put 5 (some (.ptr 1 [] 0)) (put 6 (some (.ptr 2 [] 0)) (put 8 (some (.ptr 3 [] 0)) (put 9 (some (i64 (a : Int))) (put 10 (some (i64 (b : Int))) noE))))), hput 0 (.one ([gA1, gA2, gA3, gA4, i64 3, i64 3, i64 2, .ro p.heads.length (flC Hd.cl p.heads), .ro p.defs.length (flC Df.cl p.defs), .ro p.threads.length (ints .i64 p.threads)])) (hput 1 (.one ([u16 n0, u16 n1, u16 n2, u16 n3, u16 n4, u16 n5, u16 n6, u16 n7])) (hput 2 (.one (zSy)) (hput 3 (.one ([i64 id, i64 J1, i64 J2, i64 J3, i64 J4, i64 J5, i64 T3, i64 T4, i64 T5, rdP (prPre n7 (3 * a + b)), i64 (n6 : Int)])) noH))), 4⟩) (fun b => b ≤ 3) (fun b => 3 - b) 0 (Nat.zero_le _) (Sub.of (by repeat (first | exact SubE.no _ | refine SubE.put rfl ?_)) (by repeat (first | exact SubH.no _ | refine SubH.put rfl ?_)) rfl) ?_
      intro b hb
      (repeat (first | refine K4 ?_ | refine L1 ?_ | refine RG.d ?_ | refine S1 ?_ | refine S2 ?_))
      refine AW.condD rfl (fun k2 => ?_) (fun k2 => ?_)
      rotate_left
      · have k2 : ¬ (b : Int) < 3 := k2
        obtain rfl : b = 3 := by omega
        (repeat (first | refine S5 ?_))
        exact ⟨(), trivial, Sub.of (by repeat (first | exact SubE.no _ | refine SubE.put rfl ?_)) (by repeat (first | exact SubH.no _ | refine SubH.put rfl ?_)) rfl⟩
      have k2 : (b : Int) < 3 := k2
      have hst := prPre_s n7 a b (by omega) (by omega)
      have hln := prPre_len n7 a b (by omega) (by omega)
      rw [prSt_of] at hst
      obtain ⟨W, hW⟩ : ∃ W, W = prPre n7 (3 * a + b + 1) := ⟨_, rfl⟩
      obtain ⟨L, hL⟩ : ∃ L, L = prPre n7 (3 * a + b) := ⟨_, rfl⟩
      rw [← hW, ← hL] at hst
      rw [← hL] at hln ⊢
      (repeat (first | refine S3 ?_))
      refine AW.seqJ (fun _ : Unit => ⟨put 3 (some (.ptr 0 [] 0)) (put 5 (some (.ptr 1 [] 0)) (put 6 (some (.ptr 2 [] 0)) (put 8 (some (.ptr 3 [] 0)) (put 9 (some (i64 (a : Int))) (put 10 (some (i64 (b : Int))) noE))))), hput 0 (.one ([gA1, gA2, gA3, gA4, i64 3, i64 3, i64 2, .ro p.heads.length (flC Hd.cl p.heads), .ro p.defs.length (flC Df.cl p.defs), .ro p.threads.length (ints .i64 p.threads)])) (hput 1 (.one ([u16 n0, u16 n1, u16 n2, u16 n3, u16 n4, u16 n5, u16 n6, u16 n7])) (hput 2 (.one (zSy)) (hput 3 (.one ([i64 id, i64 J1, i64 J2, i64 J3, i64 J4, i64 J5, i64 T3, i64 T4, i64 T5, rdP (W), i64 (n6 : Int)])) noH))), 4⟩) (fun _ => True) ?_ (fun _ _ => ?_)
      · refine S4 ?_
        refine S1 ?_
        refine S2 ?_
        iterate 3 ((first | refine K4 ?_))
        by_cases hab : a = b
        · rw [if_neg (fun h => h.1 hab)] at hst
          subst hst
          refine RG.put 78 rfl (v' := .val (.bool false)) (by rw [decide_eq_false (show ¬ (a : Int) ≠ (b : Int) by omega)]) ?_
          (repeat (first | refine K1 ?_ | refine K4 ?_ | refine RG.d ?_ | refine S3 ?_ | refine S8 ?_))
          exact ⟨(), trivial, Sub.of (by repeat (first | exact SubE.no _ | refine SubE.put rfl ?_)) (by repeat (first | exact SubH.no _ | refine SubH.put rfl ?_)) rfl⟩
        · refine RG.put 78 rfl (v' := .val (.bool true)) (by rw [decide_eq_true (show (a : Int) ≠ (b : Int) by omega)]) ?_
          iterate 9 ((first | refine K2 ?_ | refine K4 ?_ | refine K5 ?_ | refine L1 ?_))
          refine RG.put 87 rfl (v' := .val (.int .u64 ((3 * a + b : Nat) : Int))) (by rw [u64_km (by omega) (by omega)]) ?_
          iterate 3 ((first | refine K4 ?_ | refine K5 ?_))
          refine RG.put 90 rfl (v' := .val (.bool (n7.testBit (3 * a + b)))) (by rw [tb16 n7 (3 * a + b) h7 (by omega)]) ?_
          rw [show (3 * a + b) % 16 = 3 * a + b by omega] at hst
          have cw := withP_fc L a b (by omega)
          by_cases htb : n7.testBit (3 * a + b) = true
          · rw [if_pos ⟨hab, htb⟩] at hst
            rw [htb]
            rw [← hst] at cw
            (repeat (first | refine RG.call rfl rfl rfl rfl (cw) [] rfl rfl rfl rfl (.nil _) (.nil _) (fun _ h => False.elim h) rfl (A.ren_free _ _ rfl) rfl ?_ | refine K4 ?_ | refine L1 ?_ | refine L3 ?_ | refine RG.d ?_ | refine S2 ?_ | refine S7 ?_))
            exact ⟨(), trivial, Sub.of (by repeat (first | exact SubE.no _ | refine SubE.put rfl ?_)) (by repeat (first | exact SubH.no _ | refine SubH.put rfl ?_)) rfl⟩
          · rw [if_neg (fun h => htb h.2)] at hst
            subst hst
            rw [(Bool.not_eq_true _).mp htb]
            (repeat (first | refine K4 ?_ | refine RG.d ?_ | refine S3 ?_ | refine S8 ?_))
            exact ⟨(), trivial, Sub.of (by repeat (first | exact SubE.no _ | refine SubE.put rfl ?_)) (by repeat (first | exact SubH.no _ | refine SubH.put rfl ?_)) rfl⟩
      · subst hW
        (repeat (first | refine K2 ?_ | refine K4 ?_ | refine RG.d ?_ | refine S2 ?_))
        exact ⟨b + 1, ⟨show b + 1 ≤ 3 by omega, show 3 - (b + 1) < 3 - b by omega, Sub.of (by repeat (first | exact SubE.no _ | refine SubE.put rfl ?_)) (by repeat (first | exact SubH.no _ | refine SubH.put rfl ?_)) rfl⟩⟩
    · (repeat (first | refine K2 ?_ | refine K4 ?_ | refine RG.d ?_ | refine S2 ?_))
      exact ⟨a + 1, ⟨show a + 1 ≤ 3 by omega, show 3 - (a + 1) < 3 - a by omega, Sub.of (by repeat (first | exact SubE.no _ | refine SubE.put rfl ?_)) (by repeat (first | exact SubH.no _ | refine SubH.put rfl ?_)) rfl⟩⟩
  (repeat (first | refine L1 ?_ | refine L3 ?_ | refine RG.d ?_ | refine S1 ?_ | refine S2 ?_ | refine S6 ?_))
  exact ⟨⟨_, rfl, rfl⟩, rfl, .nil _⟩
end Go.Proofs.YtifeioddiddnoaaGreatDoor
namespace Go.Proofs.YtifeioddiddnoaaGreatDoor
open Go.Abs Go Go.RowKit
set_option maxRecDepth 20000
set_option maxHeartbeats 8000000 in
theorem Made_fc (L : List Int) (hL : ∀ x, x ∈ L → 0 ≤ x ∧ x ≤ 255) (hl : L.length ≤ 9223372036854775807) : FC Tryz.prog ge 33 [.agg [.ro L.length (ints .u8 L)]] [] (.agg (gMade L).cl) [] NoP := by
  have c := made_fc L hL hl
  obtain ⟨p, hp⟩ : ∃ p, p = gMade L := ⟨_, rfl⟩
  rw [← hp] at c ⊢
  obtain ⟨⟨globals, classes, queues, sinks, locks, parts, firms⟩, heads, defs, threads⟩ := p
  simp only [Pg.cl, Dc.cl, List.cons_append, List.nil_append] at c ⊢
  refine FC.of_AW tok Tryz.func33 (by kernel_rfl) rfl Tryz.ntmps33 [] rfl rfl rfl ?_; intro w0 X0 Y f0 hI0 hX0
  (repeat (first | refine L1 ?_ | refine L2 ?_ | refine RG.d ?_ | refine S1 ?_ | refine S2 ?_))
  refine RG.call rfl rfl rfl rfl (c) [] rfl rfl rfl rfl (.nil _) (.nil _) (fun _ h => False.elim h) rfl (A.ren_free _ _ rfl) rfl ?_
  (repeat (first | refine L3 ?_ | refine RG.d ?_ | refine S6 ?_))
  exact ⟨⟨_, rfl, rfl⟩, rfl, .nil _⟩
abbrev n8 (f : Nat → Nat) : List A := [u16 (f 0), u16 (f 1), u16 (f 2), u16 (f 3), u16 (f 4), u16 (f 5), u16 (f 6), u16 (f 7)]
def syF (id : Int) (f : Nat → Nat) : Sy := syOf id (f 0) (f 1) (f 2) (f 3) (f 4) (f 5) (f 6) (f 7)
theorem someF_fc (p : Pg) (hp : p.dc = dcM) (id : Int) (f : Nat → Nat) (hf : ∀ i, f i ≤ 65535) :
    FC Tryz.prog ge 18 [.agg p.cl, i64 id, .agg (n8 f)] [] (.agg (syF id f).cl) [] NoP :=
  some_fc p hp id _ _ _ _ _ _ _ _ (hf 0) (hf 1) (hf 2) (hf 3) (hf 4) (hf 5) (hf 6) (hf 7)
set_option maxHeartbeats 8000000 in
theorem lmade_fc (L : List Int) (hL : ∀ x, x ∈ L → 0 ≤ x ∧ x ≤ 255) (hl : L.length ≤ 9223372036854775807) (f g : Nat → Nat) (hf : ∀ i, f i ≤ 65535) (hg : ∀ i, g i ≤ 65535) (hd : (gMade L).dc = dcM) :
    FC Tryz.prog ge 9 [.agg (.ro L.length (ints .u8 L) :: (n8 f ++ n8 g))] [] (.tup [.agg (gMade L).cl, .agg (syF 11 f).cl, .agg (syF 11 g).cl]) [] NoP := by
  have c := Made_fc L hL hl
  obtain ⟨p, hp⟩ : ∃ p, p = gMade L := ⟨_, rfl⟩
  rw [← hp] at c hd ⊢
  have c1 := someF_fc p hd 11 f hf
  have c2 := someF_fc p hd 11 g hg
  obtain ⟨x, hx⟩ : ∃ x, x = syF 11 f := ⟨_, rfl⟩
  obtain ⟨y, hy⟩ : ∃ y, y = syF 11 g := ⟨_, rfl⟩
  rw [← hx] at c1 ⊢
  rw [← hy] at c2 ⊢
  clear hx hy hd hp
  obtain ⟨⟨globals, classes, queues, sinks, locks, parts, firms⟩, heads, defs, threads⟩ := p
  obtain ⟨x1, ⟨x2, x3, x4, x5, x6⟩, x7, x8, x9, x10, x11⟩ := x
  obtain ⟨y1, ⟨y2, y3, y4, y5, y6⟩, y7, y8, y9, y10, y11⟩ := y
  simp only [Pg.cl, Dc.cl, Sy.cl, List.cons_append, List.nil_append] at c c1 c2 ⊢
  refine FC.of_AW tok Tryz.func9 (by kernel_rfl) rfl Tryz.ntmps9 [] rfl rfl rfl ?_; intro w0 X0 Y f0 hI0 hX0
  (repeat (first | refine RG.call rfl rfl rfl rfl (c) [] rfl rfl rfl rfl (.nil _) (.nil _) (fun _ h => False.elim h) rfl (A.ren_free _ _ rfl) rfl ?_ | refine K4 ?_ | refine L1 ?_ | refine L2 ?_ | refine L3 ?_ | refine RG.d ?_ | refine S1 ?_ | refine S2 ?_))
  (repeat (first | refine RG.call rfl rfl rfl rfl (c1) [] rfl rfl rfl rfl (.nil _) (.nil _) (fun _ h => False.elim h) rfl (A.ren_free _ _ rfl) rfl ?_ | refine RG.call rfl rfl rfl rfl (c2) [] rfl rfl rfl rfl (.nil _) (.nil _) (fun _ h => False.elim h) rfl (A.ren_free _ _ rfl) rfl ?_ | refine K4 ?_ | refine L1 ?_ | refine L3 ?_ | refine RG.dd ?_))
  (repeat (first | refine S6 ?_))
  exact ⟨⟨_, rfl, rfl⟩, rfl, .nil _⟩
end Go.Proofs.YtifeioddiddnoaaGreatDoor
