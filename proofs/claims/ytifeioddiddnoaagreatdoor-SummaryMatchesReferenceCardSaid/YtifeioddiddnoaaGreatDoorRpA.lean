/- The text of a summary, as the reference tells it. No conditions. -/
import Derived.Test.YtifeioddiddnoaaGreatDoorScD
import Derived.Test.YtifeioddiddnoaaGreatDoorSl36p
import Derived.Test.YtifeioddiddnoaaGreatDoorSqE
set_option linter.unusedVariables false
set_option linter.unusedSimpArgs false
namespace Go.Proofs.YtifeioddiddnoaaGreatDoor
open Go.Abs Go Go.RowKit
set_option maxRecDepth 20000
theorem remI (x y : Nat) (h : x < 9223372036854775808) : IntKind.i64.wrap ((x : Int).tmod (y : Int)) = ((x % y : Nat) : Int) := by
  have hk : x % y ≤ x := Nat.mod_le _ _
  rw [show ((x : Int).tmod (y : Int)) = ((x % y : Nat) : Int) from rfl]
  obtain ⟨k, hk'⟩ : ∃ k, k = x % y := ⟨_, rfl⟩
  rw [← hk'] at hk ⊢
  rw [wrap_i64 (by omega)]
def digL : BA := ⟨#[48, 49, 50, 51, 52, 53, 54, 55, 56, 57]⟩
theorem digL_at : ∀ n, n < 10 → digL.extract n (n + 1) = ⟨[UInt8.ofNat (48 + n)].toArray⟩ := by decide
theorem ba_size (l : List UInt8) : (ByteArray.mk l.toArray).size = l.length := by simp [ByteArray.size]
theorem ba_app (l m : List UInt8) : ByteArray.mk (l ++ m).toArray = ByteArray.mk l.toArray ++ ByteArray.mk m.toArray := by
  apply ByteArray.ext
  rw [ByteArray.data_append]
  simp
theorem decDigits_len : ∀ (k n : Nat), n < 10 ^ k → 1 ≤ k → (Lib.decDigits n).length ≤ k
  | 0, _, _, h => absurd h (by omega)
  | k + 1, n, h, _ => by
    by_cases hn : n < 10
    · rw [Rt.dec_small hn]; simp
    · rw [Rt.dec_big hn, List.length_append]
      have hk : 1 ≤ k := by
        rcases k with _ | k
        · simp at h; omega
        · omega
      have := decDigits_len k (n / 10) (by rw [Nat.pow_succ] at h; omega) hk
      simp only [List.length_cons, List.length_nil]; omega
theorem numberN_fc : ∀ (n : Nat), n ≤ 9223372036854775807 → FC Tryz.prog ge 62 [i64 (n : Int)] [] (wA ⟨(Lib.decDigits n).toArray⟩) [] NoP := by
  intro n
  induction n using Nat.strongRecOn with
  | _ n ih =>
    intro hn
    obtain ⟨d, hd⟩ : ∃ d, d = n % 10 := ⟨_, rfl⟩
    have hd9 : d < 10 := by omega
    have e := digL_at d hd9
    have r1 : (n : Int).tmod 10 = (d : Int) := by rw [hd]; rfl
    have r2 : (n : Int).tmod 10 + 1 = (d : Int) + 1 := by rw [r1]
    have e1 : some (A.val (.string (digL.extract d (d + 1)))) = some (wA ⟨[UInt8.ofNat (48 + d)].toArray⟩) := by rw [e]; rfl
    have sd : 0 ≤ (d : Int) ∧ (d : Int) ≤ (d : Int) + 1 ∧ (d : Int) + 1 ≤ (digL.size : Int) := ⟨by omega, by omega, by have : (digL.size : Int) = 10 := rfl; omega⟩
    by_cases h : n < 10
    · rw [Rt.dec_small h, show n = d by omega]
      rw [show n = d by omega] at r1 r2
      refine FC.of_AW tok Tryz.func62 (by kernel_rfl) rfl Tryz.ntmps62 [] rfl rfl rfl ?_; intro w0 X0 Y f0 hI0 hX0
      (repeat (first | refine K2 ?_ | refine K4 ?_ | refine K5 ?_ | refine RG.d ?_ | refine S1 ?_ | refine S2 ?_ | refine S3 ?_ | refine S8 ?_))
      refine RG.put 13 rfl (v' := i64 (d : Int)) (congrArg i64 r1) ?_
      refine RG.put 16 rfl (v' := i64 ((d : Int) + 1)) (congrArg i64 r2) ?_
      refine RG.val tok rfl rfl rfl sd rfl e1 ?_
      (repeat (first | refine K4 ?_ | refine RG.d ?_ | refine S1 ?_ | refine S2 ?_))
      refine AW.condD rfl (fun _ => ?_) (fun k => absurd (show (d : Int) < 10 by omega) k)
      (repeat (first | refine K4 ?_ | refine RG.d ?_ | refine S1 ?_ | refine S2 ?_ | refine S6 ?_))
      exact ⟨⟨_, rfl, rfl⟩, rfl, .nil _⟩
    · rw [Rt.dec_big h, ba_app, ← hd]
      have c1 := ih (n / 10) (by omega) (by omega)
      have l1 := decDigits_len 20 (n / 10) (by omega) (by omega)
      have rq : IntKind.i64.wrap ((n : Int).tdiv 10) = ((n / 10 : Nat) : Int) := by rw [show (n : Int).tdiv 10 = ((n / 10 : Nat) : Int) from rfl]; exact wrap_i64 (by omega)
      rw [← rq] at c1
      refine FC.of_AW tok Tryz.func62 (by kernel_rfl) rfl Tryz.ntmps62 [] rfl rfl rfl ?_; intro w0 X0 Y f0 hI0 hX0
      (repeat (first | refine K2 ?_ | refine K4 ?_ | refine K5 ?_ | refine RG.d ?_ | refine S1 ?_ | refine S2 ?_ | refine S3 ?_ | refine S8 ?_))
      refine RG.put 13 rfl (v' := i64 (d : Int)) (congrArg i64 r1) ?_
      refine RG.put 16 rfl (v' := i64 ((d : Int) + 1)) (congrArg i64 r2) ?_
      refine RG.val tok rfl rfl rfl sd rfl e1 ?_
      (repeat (first | refine K4 ?_ | refine RG.d ?_ | refine S1 ?_ | refine S2 ?_))
      refine AW.condD rfl (fun k => absurd (show (n : Int) < 10 from k) (by omega)) (fun _ => ?_)
      (repeat (first | refine K4 ?_ | refine K5 ?_ | refine S1 ?_ | refine S2 ?_ | refine S3 ?_))
      refine RG.call rfl rfl rfl rfl (c1) [] rfl rfl rfl rfl (.nil _) (.nil _) (fun _ h => False.elim h) rfl (A.ren_free _ _ rfl) rfl ?_
      (repeat (first | refine K4 ?_))
      refine RG.val tok rfl rfl rfl (show ((ByteArray.mk (Lib.decDigits (n / 10)).toArray).size + (ByteArray.mk [UInt8.ofNat (48 + d)].toArray).size ≤ 9223372036854775807) by rw [ba_size, ba_size]; simp only [List.length_cons, List.length_nil]; omega) rfl rfl ?_
      (repeat (first | refine K4 ?_ | refine RG.d ?_ | refine S6 ?_))
      exact ⟨⟨_, rfl, rfl⟩, rfl, .nil _⟩
def minus1 : BA := ⟨#[45]⟩
theorem itB_neg (n : Int) (h : n < 0) : itB n = minus1 ++ ⟨(Lib.decDigits (-n).toNat).toArray⟩ := by
  unfold itB Lib.itoa
  rw [if_pos h]
  apply ByteArray.ext
  rw [ByteArray.data_append]
  have : Lib.decDigits n.natAbs = Lib.decDigits (-n).toNat := by congr 1; omega
  simp [minus1, this]
theorem itB_pos (n : Nat) : itB (n : Int) = ⟨(Lib.decDigits n).toArray⟩ := by
  unfold itB Lib.itoa
  rw [if_neg (by omega), Int.toNat_natCast]
theorem itB_min : itB (-9223372036854775808) = ⟨#[45, 57, 50, 50, 51, 51, 55, 50, 48, 51, 54, 56, 53, 52, 55, 55, 53, 56, 48, 56]⟩ := by kernel_rfl
theorem number_fc (n : Int) (h : -9223372036854775808 ≤ n ∧ n ≤ 9223372036854775807) : FC Tryz.prog ge 62 [i64 n] [] (wA (itB n)) [] NoP := by
  by_cases h0 : n < 0
  · by_cases h1 : n = -9223372036854775808
    · subst h1
      rw [itB_min]
      refine FC.of_AW tok Tryz.func62 (by kernel_rfl) rfl Tryz.ntmps62 [] rfl rfl rfl ?_; intro w0 X0 Y f0 hI0 hX0
      (repeat (first | refine K2 ?_ | refine K4 ?_ | refine RG.d ?_ | refine S1 ?_ | refine S2 ?_ | refine S7 ?_))
      (repeat (first | refine S6 ?_))
      exact ⟨⟨_, rfl, rfl⟩, rfl, .nil _⟩
    · obtain ⟨k, hk⟩ : ∃ k : Nat, n = -(k : Int) := ⟨(-n).toNat, by omega⟩
      have c := numberN_fc k (by omega)
      have l1 := decDigits_len 20 k (by omega) (by omega)
      rw [itB_neg n h0, show (-n).toNat = k by omega]
      rw [show (k : Int) = 0 - n by omega] at c
      refine FC.of_AW tok Tryz.func62 (by kernel_rfl) rfl Tryz.ntmps62 [] rfl rfl rfl ?_; intro w0 X0 Y f0 hI0 hX0
      (repeat (first | refine K4 ?_ | refine RG.d ?_ | refine S1 ?_ | refine S2 ?_))
      refine AW.condD rfl (fun _ => ?_) (fun k => absurd h0 k)
      (repeat (first | refine K4 ?_ | refine RG.d ?_ | refine S1 ?_ | refine S2 ?_))
      refine AW.condD rfl (fun k => absurd k h1) (fun _ => ?_)
      (repeat (first | refine K2 ?_ | refine K4 ?_ | refine S1 ?_ | refine S2 ?_ | refine S3 ?_))
      refine RG.call rfl rfl rfl rfl (c) [] rfl rfl rfl rfl (.nil _) (.nil _) (fun _ h => False.elim h) rfl (A.ren_free _ _ rfl) rfl ?_
      refine RG.val tok rfl rfl rfl (show (minus1.size + (ByteArray.mk (Lib.decDigits k).toArray).size ≤ 9223372036854775807) by have := ba_size (Lib.decDigits k); have : minus1.size = 1 := rfl; omega) rfl (show some (A.val (.string (minus1 ++ ByteArray.mk (Lib.decDigits k).toArray))) = some (wA (minus1 ++ ByteArray.mk (Lib.decDigits k).toArray)) from rfl) ?_
      (repeat (first | refine K4 ?_ | refine RG.d ?_ | refine S6 ?_))
      exact ⟨⟨_, rfl, rfl⟩, rfl, .nil _⟩
  · obtain ⟨k, rfl⟩ : ∃ k : Nat, n = (k : Int) := ⟨n.toNat, by omega⟩
    rw [itB_pos]
    exact numberN_fc k (by omega)
theorem itB_size (n : Int) (h : -9223372036854775808 ≤ n ∧ n ≤ 9223372036854775807) : (itB n).size ≤ 21 := by
  unfold itB; rw [ba_size]; exact itoa_len n h
theorem ba_toList (a b : BA) : (a ++ b).data.toList = a.data.toList ++ b.data.toList := by rw [ByteArray.data_append, Array.toList_append]
set_option maxHeartbeats 16000000 in
theorem rtext_fc (s : Sy) (hs : s.rng) : FC Tryz.prog ge 28 [.agg s.cl] [] (wA ⟨(textB s).toArray⟩) [] NoP := by
  have hw := hd_rng hs
  have hp := fun p (hp : p ∈ s.pairs) => pr_rng hs hp
  have hn := hs.n
  obtain ⟨R, hR⟩ : ∃ R : BA, R = ⟨(textB s).toArray⟩ := ⟨_, rfl⟩
  obtain ⟨H, hH⟩ : ∃ R : BA, R = ⟨(hdT s).toArray⟩ := ⟨_, rfl⟩
  have hdT_le : H.size ≤ 264 := by rw [hH, ba_size]; exact hdT_len s hs
  have hRH : R = H ++ ⟨(prT s.pairs).toArray⟩ := by rw [hR, hH]; exact ba_app _ _
  rw [← hR]
  obtain ⟨x1, ⟨x2, x3, x4, x5, x6⟩, x7, x8, x9, l, x11⟩ := s
  simp only [hdNs, List.mem_cons, List.not_mem_nil, or_false, forall_eq_or_imp, forall_eq] at hw
  dsimp only at hp hn hRH
  obtain ⟨g1, g2, g3, g4, g5, g6, g7, g8, g9, g11⟩ := hw
  have c1 := number_fc x1 g1
  have z1 := itB_size x1 g1
  obtain ⟨N1, hN1⟩ : ∃ N, N = itB x1 := ⟨_, rfl⟩
  rw [← hN1] at c1 z1
  have c2 := number_fc x2 g2
  have z2 := itB_size x2 g2
  obtain ⟨N2, hN2⟩ : ∃ N, N = itB x2 := ⟨_, rfl⟩
  rw [← hN2] at c2 z2
  have c3 := number_fc x3 g3
  have z3 := itB_size x3 g3
  obtain ⟨N3, hN3⟩ : ∃ N, N = itB x3 := ⟨_, rfl⟩
  rw [← hN3] at c3 z3
  have c4 := number_fc x4 g4
  have z4 := itB_size x4 g4
  obtain ⟨N4, hN4⟩ : ∃ N, N = itB x4 := ⟨_, rfl⟩
  rw [← hN4] at c4 z4
  have c5 := number_fc x5 g5
  have z5 := itB_size x5 g5
  obtain ⟨N5, hN5⟩ : ∃ N, N = itB x5 := ⟨_, rfl⟩
  rw [← hN5] at c5 z5
  have c6 := number_fc x6 g6
  have z6 := itB_size x6 g6
  obtain ⟨N6, hN6⟩ : ∃ N, N = itB x6 := ⟨_, rfl⟩
  rw [← hN6] at c6 z6
  have c7 := number_fc x7 g7
  have z7 := itB_size x7 g7
  obtain ⟨N7, hN7⟩ : ∃ N, N = itB x7 := ⟨_, rfl⟩
  rw [← hN7] at c7 z7
  have c8 := number_fc x8 g8
  have z8 := itB_size x8 g8
  obtain ⟨N8, hN8⟩ : ∃ N, N = itB x8 := ⟨_, rfl⟩
  rw [← hN8] at c8 z8
  have c9 := number_fc x9 g9
  have z9 := itB_size x9 g9
  obtain ⟨N9, hN9⟩ : ∃ N, N = itB x9 := ⟨_, rfl⟩
  rw [← hN9] at c9 z9
  have c11 := number_fc x11 g11
  have z11 := itB_size x11 g11
  obtain ⟨N11, hN11⟩ : ∃ N, N = itB x11 := ⟨_, rfl⟩
  rw [← hN11] at c11 z11
  obtain ⟨T1, hT1⟩ : ∃ T : BA, T = (⟨#[115, 117, 109, 109, 97, 114, 121, 32]⟩ : BA) ++ N1 := ⟨_, rfl⟩
  have s1 : T1.size ≤ 38 := by
    rw [hT1, ByteArray.size_append]
    have : (⟨#[115, 117, 109, 109, 97, 114, 121, 32]⟩ : BA).size = 8 := rfl
    omega
  obtain ⟨T2, hT2⟩ : ∃ T : BA, T = T1 ++ (⟨#[32, 114, 101, 115, 32]⟩ : BA) := ⟨_, rfl⟩
  have s2 : T2.size ≤ 68 := by
    rw [hT2, ByteArray.size_append]
    have : (⟨#[32, 114, 101, 115, 32]⟩ : BA).size = 5 := rfl
    omega
  obtain ⟨T3, hT3⟩ : ∃ T : BA, T = T2 ++ N2 := ⟨_, rfl⟩
  have s3 : T3.size ≤ 98 := by
    rw [hT3, ByteArray.size_append]
    omega
  obtain ⟨T4, hT4⟩ : ∃ T : BA, T = T3 ++ (⟨#[32]⟩ : BA) := ⟨_, rfl⟩
  have s4 : T4.size ≤ 128 := by
    rw [hT4, ByteArray.size_append]
    have : (⟨#[32]⟩ : BA).size = 1 := rfl
    omega
  obtain ⟨T5, hT5⟩ : ∃ T : BA, T = T4 ++ N3 := ⟨_, rfl⟩
  have s5 : T5.size ≤ 158 := by
    rw [hT5, ByteArray.size_append]
    omega
  obtain ⟨T6, hT6⟩ : ∃ T : BA, T = T5 ++ (⟨#[32, 109, 111, 100, 32]⟩ : BA) := ⟨_, rfl⟩
  have s6 : T6.size ≤ 188 := by
    rw [hT6, ByteArray.size_append]
    have : (⟨#[32, 109, 111, 100, 32]⟩ : BA).size = 5 := rfl
    omega
  obtain ⟨T7, hT7⟩ : ∃ T : BA, T = T6 ++ N4 := ⟨_, rfl⟩
  have s7 : T7.size ≤ 218 := by
    rw [hT7, ByteArray.size_append]
    omega
  obtain ⟨T8, hT8⟩ : ∃ T : BA, T = T7 ++ (⟨#[32]⟩ : BA) := ⟨_, rfl⟩
  have s8 : T8.size ≤ 248 := by
    rw [hT8, ByteArray.size_append]
    have : (⟨#[32]⟩ : BA).size = 1 := rfl
    omega
  obtain ⟨T9, hT9⟩ : ∃ T : BA, T = T8 ++ N5 := ⟨_, rfl⟩
  have s9 : T9.size ≤ 278 := by
    rw [hT9, ByteArray.size_append]
    omega
  obtain ⟨T10, hT10⟩ : ∃ T : BA, T = T9 ++ (⟨#[32, 109, 97, 115, 107, 32]⟩ : BA) := ⟨_, rfl⟩
  have s10 : T10.size ≤ 308 := by
    rw [hT10, ByteArray.size_append]
    have : (⟨#[32, 109, 97, 115, 107, 32]⟩ : BA).size = 6 := rfl
    omega
  obtain ⟨T11, hT11⟩ : ∃ T : BA, T = T10 ++ N6 := ⟨_, rfl⟩
  have s11 : T11.size ≤ 338 := by
    rw [hT11, ByteArray.size_append]
    omega
  obtain ⟨T12, hT12⟩ : ∃ T : BA, T = T11 ++ (⟨#[32, 116, 104, 114, 111, 119, 115, 32]⟩ : BA) := ⟨_, rfl⟩
  have s12 : T12.size ≤ 368 := by
    rw [hT12, ByteArray.size_append]
    have : (⟨#[32, 116, 104, 114, 111, 119, 115, 32]⟩ : BA).size = 8 := rfl
    omega
  obtain ⟨T13, hT13⟩ : ∃ T : BA, T = T12 ++ N7 := ⟨_, rfl⟩
  have s13 : T13.size ≤ 398 := by
    rw [hT13, ByteArray.size_append]
    omega
  obtain ⟨T14, hT14⟩ : ∃ T : BA, T = T13 ++ (⟨#[32, 108, 111, 99, 107, 115, 32]⟩ : BA) := ⟨_, rfl⟩
  have s14 : T14.size ≤ 428 := by
    rw [hT14, ByteArray.size_append]
    have : (⟨#[32, 108, 111, 99, 107, 115, 32]⟩ : BA).size = 7 := rfl
    omega
  obtain ⟨T15, hT15⟩ : ∃ T : BA, T = T14 ++ N8 := ⟨_, rfl⟩
  have s15 : T15.size ≤ 458 := by
    rw [hT15, ByteArray.size_append]
    omega
  obtain ⟨T16, hT16⟩ : ∃ T : BA, T = T15 ++ (⟨#[32, 108, 111, 97, 100, 115, 32]⟩ : BA) := ⟨_, rfl⟩
  have s16 : T16.size ≤ 488 := by
    rw [hT16, ByteArray.size_append]
    have : (⟨#[32, 108, 111, 97, 100, 115, 32]⟩ : BA).size = 7 := rfl
    omega
  obtain ⟨T17, hT17⟩ : ∃ T : BA, T = T16 ++ N9 := ⟨_, rfl⟩
  have s17 : T17.size ≤ 518 := by
    rw [hT17, ByteArray.size_append]
    omega
  obtain ⟨T18, hT18⟩ : ∃ T : BA, T = T17 ++ (⟨#[32, 99, 111, 115, 116, 32]⟩ : BA) := ⟨_, rfl⟩
  have s18 : T18.size ≤ 548 := by
    rw [hT18, ByteArray.size_append]
    have : (⟨#[32, 99, 111, 115, 116, 32]⟩ : BA).size = 6 := rfl
    omega
  obtain ⟨T19, hT19⟩ : ∃ T : BA, T = T18 ++ N11 := ⟨_, rfl⟩
  have s19 : T19.size ≤ 578 := by
    rw [hT19, ByteArray.size_append]
    omega
  have hTH : T19 = H := by
    apply ByteArray.ext
    apply Array.toList_inj.1
    rw [hH]
    simp only [hT1, hT2, hT3, hT4, hT5, hT6, hT7, hT8, hT9, hT10, hT11, hT12, hT13, hT14, hT15, hT16, hT17, hT18, hT19, hN1, hN2, hN3, hN4, hN5, hN6, hN7, hN8, hN9, hN11, ba_toList, hdT, putW, itB, List.flatMap_cons, List.flatMap_nil, List.append_nil, List.toList_toArray, List.append_assoc, List.cons_append, List.nil_append]
  simp only [Sy.cl]
  refine FC.of_AW tok Tryz.func28 (by kernel_rfl) rfl Tryz.ntmps28 [] rfl rfl rfl ?_; intro w0 X0 Y f0 hI0 hX0
  (repeat (first | refine K4 ?_ | refine L1 ?_ | refine L2 ?_ | refine L3 ?_ | refine RG.d ?_ | refine S1 ?_ | refine S2 ?_))
  refine RG.call rfl rfl rfl rfl (c1) [] rfl rfl rfl rfl (.nil _) (.nil _) (fun _ h => False.elim h) rfl (A.ren_free _ _ rfl) rfl ?_
  refine RG.val tok rfl rfl rfl (show (⟨#[115, 117, 109, 109, 97, 114, 121, 32]⟩ : BA).size + N1.size ≤ 9223372036854775807 by rw [← ByteArray.size_append, ← hT1]; omega) rfl (show some (A.val (.string ((⟨#[115, 117, 109, 109, 97, 114, 121, 32]⟩ : BA) ++ N1))) = some (wA T1) by rw [hT1]; rfl) ?_
  (repeat (first | refine K1 ?_))
  refine RG.val tok rfl rfl rfl (show T1.size + (⟨#[32, 114, 101, 115, 32]⟩ : BA).size ≤ 9223372036854775807 by rw [← ByteArray.size_append, ← hT2]; omega) rfl (show some (A.val (.string (T1 ++ (⟨#[32, 114, 101, 115, 32]⟩ : BA)))) = some (wA T2) by rw [hT2]; rfl) ?_
  (repeat (first | refine K4 ?_ | refine L1 ?_))
  refine RG.call rfl rfl rfl rfl (c2) [] rfl rfl rfl rfl (.nil _) (.nil _) (fun _ h => False.elim h) rfl (A.ren_free _ _ rfl) rfl ?_
  refine RG.val tok rfl rfl rfl (show T2.size + N2.size ≤ 9223372036854775807 by rw [← ByteArray.size_append, ← hT3]; omega) rfl (show some (A.val (.string (T2 ++ N2))) = some (wA T3) by rw [hT3]; rfl) ?_
  (repeat (first | refine K1 ?_))
  refine RG.val tok rfl rfl rfl (show T3.size + (⟨#[32]⟩ : BA).size ≤ 9223372036854775807 by rw [← ByteArray.size_append, ← hT4]; omega) rfl (show some (A.val (.string (T3 ++ (⟨#[32]⟩ : BA)))) = some (wA T4) by rw [hT4]; rfl) ?_
  (repeat (first | refine K4 ?_ | refine L1 ?_))
  refine RG.call rfl rfl rfl rfl (c3) [] rfl rfl rfl rfl (.nil _) (.nil _) (fun _ h => False.elim h) rfl (A.ren_free _ _ rfl) rfl ?_
  refine RG.val tok rfl rfl rfl (show T4.size + N3.size ≤ 9223372036854775807 by rw [← ByteArray.size_append, ← hT5]; omega) rfl (show some (A.val (.string (T4 ++ N3))) = some (wA T5) by rw [hT5]; rfl) ?_
  (repeat (first | refine K1 ?_))
  refine RG.val tok rfl rfl rfl (show T5.size + (⟨#[32, 109, 111, 100, 32]⟩ : BA).size ≤ 9223372036854775807 by rw [← ByteArray.size_append, ← hT6]; omega) rfl (show some (A.val (.string (T5 ++ (⟨#[32, 109, 111, 100, 32]⟩ : BA)))) = some (wA T6) by rw [hT6]; rfl) ?_
  (repeat (first | refine K4 ?_ | refine L1 ?_))
  refine RG.call rfl rfl rfl rfl (c4) [] rfl rfl rfl rfl (.nil _) (.nil _) (fun _ h => False.elim h) rfl (A.ren_free _ _ rfl) rfl ?_
  refine RG.val tok rfl rfl rfl (show T6.size + N4.size ≤ 9223372036854775807 by rw [← ByteArray.size_append, ← hT7]; omega) rfl (show some (A.val (.string (T6 ++ N4))) = some (wA T7) by rw [hT7]; rfl) ?_
  (repeat (first | refine K1 ?_))
  refine RG.val tok rfl rfl rfl (show T7.size + (⟨#[32]⟩ : BA).size ≤ 9223372036854775807 by rw [← ByteArray.size_append, ← hT8]; omega) rfl (show some (A.val (.string (T7 ++ (⟨#[32]⟩ : BA)))) = some (wA T8) by rw [hT8]; rfl) ?_
  (repeat (first | refine K4 ?_ | refine L1 ?_))
  refine RG.call rfl rfl rfl rfl (c5) [] rfl rfl rfl rfl (.nil _) (.nil _) (fun _ h => False.elim h) rfl (A.ren_free _ _ rfl) rfl ?_
  refine RG.val tok rfl rfl rfl (show T8.size + N5.size ≤ 9223372036854775807 by rw [← ByteArray.size_append, ← hT9]; omega) rfl (show some (A.val (.string (T8 ++ N5))) = some (wA T9) by rw [hT9]; rfl) ?_
  (repeat (first | refine K1 ?_))
  refine RG.val tok rfl rfl rfl (show T9.size + (⟨#[32, 109, 97, 115, 107, 32]⟩ : BA).size ≤ 9223372036854775807 by rw [← ByteArray.size_append, ← hT10]; omega) rfl (show some (A.val (.string (T9 ++ (⟨#[32, 109, 97, 115, 107, 32]⟩ : BA)))) = some (wA T10) by rw [hT10]; rfl) ?_
  (repeat (first | refine K4 ?_ | refine L1 ?_))
  refine RG.call rfl rfl rfl rfl (c6) [] rfl rfl rfl rfl (.nil _) (.nil _) (fun _ h => False.elim h) rfl (A.ren_free _ _ rfl) rfl ?_
  refine RG.val tok rfl rfl rfl (show T10.size + N6.size ≤ 9223372036854775807 by rw [← ByteArray.size_append, ← hT11]; omega) rfl (show some (A.val (.string (T10 ++ N6))) = some (wA T11) by rw [hT11]; rfl) ?_
  (repeat (first | refine K1 ?_))
  refine RG.val tok rfl rfl rfl (show T11.size + (⟨#[32, 116, 104, 114, 111, 119, 115, 32]⟩ : BA).size ≤ 9223372036854775807 by rw [← ByteArray.size_append, ← hT12]; omega) rfl (show some (A.val (.string (T11 ++ (⟨#[32, 116, 104, 114, 111, 119, 115, 32]⟩ : BA)))) = some (wA T12) by rw [hT12]; rfl) ?_
  (repeat (first | refine K4 ?_ | refine L1 ?_))
  refine RG.call rfl rfl rfl rfl (c7) [] rfl rfl rfl rfl (.nil _) (.nil _) (fun _ h => False.elim h) rfl (A.ren_free _ _ rfl) rfl ?_
  refine RG.val tok rfl rfl rfl (show T12.size + N7.size ≤ 9223372036854775807 by rw [← ByteArray.size_append, ← hT13]; omega) rfl (show some (A.val (.string (T12 ++ N7))) = some (wA T13) by rw [hT13]; rfl) ?_
  (repeat (first | refine K1 ?_))
  refine RG.val tok rfl rfl rfl (show T13.size + (⟨#[32, 108, 111, 99, 107, 115, 32]⟩ : BA).size ≤ 9223372036854775807 by rw [← ByteArray.size_append, ← hT14]; omega) rfl (show some (A.val (.string (T13 ++ (⟨#[32, 108, 111, 99, 107, 115, 32]⟩ : BA)))) = some (wA T14) by rw [hT14]; rfl) ?_
  (repeat (first | refine K4 ?_ | refine L1 ?_))
  refine RG.call rfl rfl rfl rfl (c8) [] rfl rfl rfl rfl (.nil _) (.nil _) (fun _ h => False.elim h) rfl (A.ren_free _ _ rfl) rfl ?_
  refine RG.val tok rfl rfl rfl (show T14.size + N8.size ≤ 9223372036854775807 by rw [← ByteArray.size_append, ← hT15]; omega) rfl (show some (A.val (.string (T14 ++ N8))) = some (wA T15) by rw [hT15]; rfl) ?_
  (repeat (first | refine K1 ?_))
  refine RG.val tok rfl rfl rfl (show T15.size + (⟨#[32, 108, 111, 97, 100, 115, 32]⟩ : BA).size ≤ 9223372036854775807 by rw [← ByteArray.size_append, ← hT16]; omega) rfl (show some (A.val (.string (T15 ++ (⟨#[32, 108, 111, 97, 100, 115, 32]⟩ : BA)))) = some (wA T16) by rw [hT16]; rfl) ?_
  (repeat (first | refine K4 ?_ | refine L1 ?_))
  refine RG.call rfl rfl rfl rfl (c9) [] rfl rfl rfl rfl (.nil _) (.nil _) (fun _ h => False.elim h) rfl (A.ren_free _ _ rfl) rfl ?_
  refine RG.val tok rfl rfl rfl (show T16.size + N9.size ≤ 9223372036854775807 by rw [← ByteArray.size_append, ← hT17]; omega) rfl (show some (A.val (.string (T16 ++ N9))) = some (wA T17) by rw [hT17]; rfl) ?_
  (repeat (first | refine K1 ?_))
  refine RG.val tok rfl rfl rfl (show T17.size + (⟨#[32, 99, 111, 115, 116, 32]⟩ : BA).size ≤ 9223372036854775807 by rw [← ByteArray.size_append, ← hT18]; omega) rfl (show some (A.val (.string (T17 ++ (⟨#[32, 99, 111, 115, 116, 32]⟩ : BA)))) = some (wA T18) by rw [hT18]; rfl) ?_
  (repeat (first | refine K4 ?_ | refine L1 ?_))
  refine RG.call rfl rfl rfl rfl (c11) [] rfl rfl rfl rfl (.nil _) (.nil _) (fun _ h => False.elim h) rfl (A.ren_free _ _ rfl) rfl ?_
  refine RG.val tok rfl rfl rfl (show T18.size + N11.size ≤ 9223372036854775807 by rw [← ByteArray.size_append, ← hT19]; omega) rfl (show some (A.val (.string (T18 ++ N11))) = some (wA T19) by rw [hT19]; rfl) ?_
  (repeat (first | refine K4 ?_ | refine RG.d ?_ | refine RG.dd ?_ | refine S1 ?_ | refine S2 ?_ | refine S4 ?_))
  refine AW.loopS (fun i : Nat => ⟨put 1 (some (.ptr 0 [] 0)) (put 4 (some (wA (H ++ ⟨(prT (l.take i)).toArray⟩))) (put 5 (some (i64 (i : Int))) noE)), hput 0 (.one ([i64 x1, i64 x2, i64 x3, i64 x4, i64 x5, i64 x6, i64 x7, i64 x8, i64 x9, rdP l, i64 x11])) noH, 2⟩) (fun i => i ≤ l.length) (fun i => l.length - i) 0 (Nat.zero_le _) (by
    rw [List.take_zero, show prT [] = [] from rfl, show H ++ (ByteArray.mk ([] : List UInt8).toArray) = T19 by rw [hTH]; exact ByteArray.append_empty]
    exact Sub.of (by repeat (first | exact SubE.no _ | refine SubE.put rfl ?_)) (by repeat (first | exact SubH.no _ | refine SubH.put rfl ?_)) rfl) ?_
  intro i hi
  (repeat (first | refine K4 ?_ | refine L1 ?_ | refine RG.d ?_ | refine S1 ?_ | refine S2 ?_))
  refine AW.condD rfl (fun k => ?_) (fun k => ?_)
  rotate_left
  · have hi2 : i = l.length := by
      have : ¬ (i : Int) < (l.length : Int) := k
      omega
    rw [hi2, List.take_length, ← hRH]
    (repeat (first | refine K4 ?_ | refine RG.d ?_ | refine S1 ?_ | refine S2 ?_ | refine S5 ?_ | refine S6 ?_))
    exact ⟨⟨_, rfl, rfl⟩, rfl, .nil _⟩
  have k : (i : Int) < (l.length : Int) := k
  obtain ⟨y, hy⟩ : ∃ y, l[i]? = some y := ⟨_, List.getElem?_eq_getElem (by omega)⟩
  have hat := flC_at Pr.cl_len l i y hy
  have hpy := hp y (List.mem_of_getElem? hy)
  have ca := number_fc y.a hpy.1
  have cb := number_fc y.b hpy.2
  have za := itB_size y.a hpy.1
  have zb := itB_size y.b hpy.2
  have hu := prT_len (l.take i) (fun p h => hp p (List.mem_of_mem_take h))
  rw [List.length_take, Nat.min_eq_left (by omega)] at hu
  have hz := hdT_le
  obtain ⟨U, hU⟩ : ∃ U : BA, U = H ++ ⟨(prT (l.take i)).toArray⟩ := ⟨_, rfl⟩
  have sU : U.size ≤ 264 + 49 * i := by rw [hU, ByteArray.size_append]; have := ba_size (prT (l.take i)); omega
  obtain ⟨Z, hZ⟩ : ∃ U : BA, U = H ++ ⟨(prT (l.take (i + 1))).toArray⟩ := ⟨_, rfl⟩
  have eZ : Z = (((U ++ ⟨#[32, 112, 97, 105, 114, 32]⟩) ++ itB y.a) ++ ⟨#[32]⟩) ++ itB y.b := by
    rw [hZ, hU, List.take_add_one, hy, show prT (l.take i ++ (some y).toList) = prT (l.take i) ++ ([32, 112, 97, 105, 114] ++ putW [y.a, y.b]) by simp [prT]]
    apply ByteArray.ext
    apply Array.toList_inj.1
    simp only [ba_toList, putW, itB, List.flatMap_cons, List.flatMap_nil, List.append_nil, List.append_assoc, List.cons_append, List.nil_append]
  obtain ⟨y1, y2, y3⟩ := y
  simp only [Pr.cl, List.cons_append, List.nil_append] at hat
  dsimp only at ca cb za zb eZ
  obtain ⟨A1, hA1⟩ : ∃ A, A = itB y1 := ⟨_, rfl⟩
  obtain ⟨A2, hA2⟩ : ∃ A, A = itB y2 := ⟨_, rfl⟩
  rw [← hA1] at ca za eZ
  rw [← hA2] at cb zb eZ
  rw [← hU]
  obtain ⟨V1, hV1⟩ : ∃ A, A = U ++ (⟨#[32, 112, 97, 105, 114, 32]⟩ : BA) := ⟨_, rfl⟩
  obtain ⟨V2, hV2⟩ : ∃ A, A = V1 ++ A1 := ⟨_, rfl⟩
  obtain ⟨V3, hV3⟩ : ∃ A, A = V2 ++ (⟨#[32]⟩ : BA) := ⟨_, rfl⟩
  have sV1 : V1.size ≤ U.size + 6 := by rw [hV1, ByteArray.size_append]; exact Nat.le_refl _
  have sV2 : V2.size ≤ V1.size + 21 := by rw [hV2, ByteArray.size_append]; omega
  have sV3 : V3.size ≤ V2.size + 1 := by rw [hV3, ByteArray.size_append]; exact Nat.le_refl _
  have eZ : V3 ++ A2 = Z := by rw [eZ, hV3, hV2, hV1]
  refine S3 ?_
  repeat (first | refine S1 ?_ | refine S4 ?_)
  refine S2 ?_
  (first | refine K4 ?_)
  refine RG.val tok rfl rfl rfl (show U.size + (⟨#[32, 112, 97, 105, 114, 32]⟩ : BA).size ≤ 9223372036854775807 by rw [← ByteArray.size_append, ← hV1]; omega) rfl (show some (A.val (.string (U ++ (⟨#[32, 112, 97, 105, 114, 32]⟩ : BA)))) = some (wA V1) by rw [hV1]; rfl) ?_
  (repeat (first | refine K4 ?_ | refine L1 ?_))
  refine RG.idx tok rfl rfl rfl rfl rfl rfl hat ⟨by omega, by omega⟩ rfl ?_
  (repeat (first | refine K4 ?_ | refine L1 ?_))
  refine RG.call rfl rfl rfl rfl (ca) [] rfl rfl rfl rfl (.nil _) (.nil _) (fun _ h => False.elim h) rfl (A.ren_free _ _ rfl) rfl ?_
  refine RG.val tok rfl rfl rfl (show V1.size + A1.size ≤ 9223372036854775807 by omega) rfl (show some (A.val (.string (V1 ++ A1))) = some (wA V2) by rw [hV2]; rfl) ?_
  refine RG.val tok rfl rfl rfl (show V2.size + (⟨#[32]⟩ : BA).size ≤ 9223372036854775807 by rw [← ByteArray.size_append, ← hV3]; omega) rfl (show some (A.val (.string (V2 ++ (⟨#[32]⟩ : BA)))) = some (wA V3) by rw [hV3]; rfl) ?_
  (repeat (first | refine K4 ?_ | refine L1 ?_))
  refine RG.idx tok rfl rfl rfl rfl rfl rfl hat ⟨by omega, by omega⟩ rfl ?_
  (repeat (first | refine K4 ?_ | refine L1 ?_))
  refine RG.call rfl rfl rfl rfl (cb) [] rfl rfl rfl rfl (.nil _) (.nil _) (fun _ h => False.elim h) rfl (A.ren_free _ _ rfl) rfl ?_
  refine RG.val tok rfl rfl rfl (show V3.size + A2.size ≤ 9223372036854775807 by omega) rfl (show some (A.val (.string (V3 ++ A2))) = some (wA Z) by rw [eZ]; rfl) ?_
  rw [hZ]
  (repeat (first | refine K2 ?_ | refine K4 ?_ | refine RG.d ?_ | refine RG.dd ?_ | refine S2 ?_))
  exact ⟨i + 1, by show i + 1 ≤ l.length; omega, by show l.length - (i + 1) < l.length - i; omega, Sub.of (by repeat (first | exact SubE.no _ | refine SubE.put rfl ?_)) (by repeat (first | exact SubH.no _ | refine SubH.put rfl ?_)) rfl⟩
end Go.Proofs.YtifeioddiddnoaaGreatDoor
namespace Go.Proofs.YtifeioddiddnoaaGreatDoor
open Go.Abs Go Go.RowKit
/-- One byte of a word: the number so far, and whether all were digits. -/
def stD (p : Int × Bool) (c : UInt8) : Int × Bool := if c.toNat < 48 ∨ 57 < c.toNat then (p.1, false) else (IntKind.i64.wrap (IntKind.i64.wrap (10 * p.1) + ((c.toNat : Int) - 48)), p.2)
def foN (l : List UInt8) : Int × Bool := l.foldl stD (0, true)
/-- The number that a word is, if it is one. -/
def numW : Wd8 → List Int
  | [] => []
  | c :: l => if c = 45 then (if (foN l).2 then [IntKind.i64.wrap (-(foN l).1)] else []) else (if (foN (c :: l)).2 then [(foN (c :: l)).1] else [])
def numG (cur : Wd8) : Wd8 → List Int
  | [] => numW cur
  | c :: r => if c = 32 then numW cur ++ numG [] r else numG (cur ++ [c]) r
def numL (s : BA) : List Int := numG [] s.data.toList
theorem numG_word : ∀ (w cur l : Wd8), (∀ c, c ∈ w → c ≠ 32) → numG cur (w ++ 32 :: l) = numW (cur ++ w) ++ numG [] l
  | [], cur, l, _ => by rw [List.nil_append, List.append_nil, numG, if_pos rfl]
  | c :: w, cur, l, h => by
    rw [List.cons_append, numG, if_neg (h c (by simp)), numG_word w _ l (fun d hd => h d (by simp [hd])), List.append_assoc]; rfl
theorem numG_last : ∀ (w cur : Wd8), (∀ c, c ∈ w → c ≠ 32) → numG cur w = numW (cur ++ w)
  | [], cur, _ => by rw [List.append_nil, numG]
  | c :: w, cur, h => by
    rw [numG, if_neg (h c (by simp)), numG_last w _ (fun d hd => h d (by simp [hd])), List.append_assoc]; rfl
theorem numG_join : ∀ (ws : List Wd8), (∀ w, w ∈ ws → ∀ c, c ∈ w → c ≠ 32) → numG [] (joinSp ws) = ws.flatMap numW
  | [], _ => rfl
  | [w], h => by rw [joinSp, numG_last w [] (h w (by simp))]; simp
  | w :: v :: ws, h => by
    rw [joinSp, numG_word w [] _ (h w (by simp)), numG_join (v :: ws) (fun x hx => h x (by simp [hx]))]; rfl
theorem wrap_i64m (a : Int) : IntKind.i64.wrap a = (a + 9223372036854775808) % 18446744073709551616 - 9223372036854775808 := by
  unfold IntKind.wrap IntKind.signed IntKind.bits; simp; omega
theorem wrap_add_mul (a b : Int) (h : a % 18446744073709551616 = b % 18446744073709551616) : IntKind.i64.wrap a = IntKind.i64.wrap b := by
  rw [wrap_i64m, wrap_i64m]; omega
theorem wrap_mod (a : Int) : IntKind.i64.wrap a % 18446744073709551616 = a % 18446744073709551616 := by
  rw [wrap_i64m]; omega
theorem fo_dig : ∀ (l : List UInt8) (n : Nat) (z : Int), (∀ c, c ∈ l → 48 ≤ c.toNat ∧ c.toNat ≤ 57) → z = IntKind.i64.wrap (n : Int) → l.foldl stD (z, true) = (IntKind.i64.wrap (Rt.valL n l : Int), true)
  | [], n, z, _, h => by rw [Rt.valL_nil, ← h]; rfl
  | c :: l, n, z, h, hz => by
    have hc := h c (by simp)
    rw [List.foldl_cons, Rt.valL_cons]
    have e : stD (z, true) c = (IntKind.i64.wrap ((10 * n + (c.toNat - 48) : Nat) : Int), true) := by
      unfold stD
      rw [if_neg (by omega)]
      refine congrArg (fun x => (x, true)) (wrap_add_mul _ _ ?_)
      dsimp only
      have h1 := wrap_mod (n : Int)
      have h2 := wrap_mod (10 * z)
      rw [← hz] at h1
      omega
    rw [e]
    exact fo_dig l _ _ (fun d hd => h d (by simp [hd])) rfl
theorem foN_dec (n : Nat) : foN (Lib.decDigits n) = (IntKind.i64.wrap (n : Int), true) := by
  unfold foN
  rw [fo_dig _ 0 0 (Rt.dec_dig n) rfl, Rt.valL_dec]
theorem numW_itoa (n : Int) (h : -9223372036854775808 ≤ n ∧ n ≤ 9223372036854775807) : numW (Lib.itoa n) = [n] := by
  unfold Lib.itoa
  split
  · rename_i hn
    have e := foN_dec (-n).toNat
    have e2 : Lib.decDigits (-n).toNat = Lib.decDigits n.natAbs := by congr 1; omega
    rw [numW, if_pos rfl]
    first
      | rw [e2] at e
      | skip
    first
      | rw [e, if_pos rfl]
      | (rw [← e2] at *; rw [e, if_pos rfl])
    congr 1
    have := wrap_mod ((-n).toNat : Int)
    have e3 : ((-n).toNat : Int) = -n := by omega
    rw [e3] at this ⊢
    dsimp only
    rw [wrap_add_mul (-IntKind.i64.wrap (-n)) n (by omega), wrap_i64 ⟨h.1, h.2⟩]
  · rename_i hn
    obtain ⟨c, l, e, h1, h2⟩ := Rt.dec_head n.toNat
    rw [e, numW, if_neg (by rintro rfl; revert h1; decide), ← e, foN_dec, if_pos rfl]
    congr 1
    dsimp only
    rw [show ((n.toNat : Nat) : Int) = n by omega]
    exact wrap_i64 ⟨h.1, h.2⟩
theorem numW_itB (n : Int) (h : -9223372036854775808 ≤ n ∧ n ≤ 9223372036854775807) : numW (itB n).data.toList = [n] := by
  have := numW_itoa n h
  simpa [itB] using this
theorem numW_pr : ∀ (l : List Pr), (∀ p, p ∈ l → (-9223372036854775808 ≤ p.a ∧ p.a ≤ 9223372036854775807) ∧ -9223372036854775808 ≤ p.b ∧ p.b ≤ 9223372036854775807) → ((prWs l).map (·.data.toList)).flatMap numW = prW l
  | [], _ => rfl
  | p :: l, h => by
    have hp := h p (by simp)
    have ih := numW_pr l (fun q hq => h q (by simp [hq]))
    rw [prWs_cons, rendP, List.map_append, List.flatMap_append, ih]
    simp only [List.map_cons, List.map_nil, List.flatMap_cons, List.flatMap_nil, numW_itB _ hp.1, numW_itB _ hp.2, List.append_nil]
    rw [show numW (ByteArray.mk #[112, 97, 105, 114]).data.toList = [] by decide]
    rfl
theorem numL_text (S : Sy) (h : S.rng) : numG [] (textB S) = S.w := by
  rw [text_join, numG_join _ (no_space S), List.map_append, List.flatMap_append, numW_pr _ (fun p hp => pr_rng h hp)]
  have hh := hd_rng h
  unfold Sy.w
  congr 1
  simp only [hdNs, List.mem_cons, List.not_mem_nil, or_false, forall_eq_or_imp, forall_eq] at hh
  obtain ⟨h1, h2, h3, h4, h5, h6, h7, h8, h9, h10⟩ := hh
  simp only [hdWs, hdNs, fmtH, rend, List.map_cons, List.map_nil, List.flatMap_cons, List.flatMap_nil, numW_itB _ h1, numW_itB _ h2, numW_itB _ h3, numW_itB _ h4, numW_itB _ h5, numW_itB _ h6, numW_itB _ h7, numW_itB _ h8, numW_itB _ h9, numW_itB _ h10]
  rw [show numW (ByteArray.mk #[115, 117, 109, 109, 97, 114, 121]).data.toList = [] by decide, show numW (ByteArray.mk #[114, 101, 115]).data.toList = [] by decide, show numW (ByteArray.mk #[109, 111, 100]).data.toList = [] by decide, show numW (ByteArray.mk #[109, 97, 115, 107]).data.toList = [] by decide, show numW (ByteArray.mk #[116, 104, 114, 111, 119, 115]).data.toList = [] by decide, show numW (ByteArray.mk #[108, 111, 99, 107, 115]).data.toList = [] by decide, show numW (ByteArray.mk #[108, 111, 97, 100, 115]).data.toList = [] by decide, show numW (ByteArray.mk #[99, 111, 115, 116]).data.toList = [] by decide]
  rfl
/-- The pairs that numbers are. -/
def prD : List Int → List Pr
  | a :: b :: l => ⟨a, b, 0⟩ :: prD l
  | _ => []
def syN (l : List Int) : Sy := ⟨l.getD 0 0, ⟨l.getD 1 0, l.getD 2 0, l.getD 3 0, l.getD 4 0, l.getD 5 0⟩, l.getD 6 0, l.getD 7 0, l.getD 8 0, prD (l.drop 10), l.getD 9 0⟩
theorem prD_prW : ∀ (l : List Pr), (∀ p, p ∈ l → p.site = 0) → prD (prW l) = l
  | [], _ => rfl
  | ⟨a, b, c⟩ :: l, h => by
    have h0 : c = 0 := h ⟨a, b, c⟩ (by simp)
    subst h0
    show prD (a :: b :: prW l) = _
    rw [prD, prD_prW l (fun p hp => h p (by simp [hp]))]
theorem syN_w (S : Sy) (h : ∀ p, p ∈ S.pairs → p.site = 0) : syN S.w = S := by
  obtain ⟨x1, ⟨x2, x3, x4, x5, x6⟩, x7, x8, x9, l, x11⟩ := S
  show Sy.mk x1 ⟨x2, x3, x4, x5, x6⟩ x7 x8 x9 (prD (prW l)) x11 = _
  rw [prD_prW l h]
theorem prD_site : ∀ (l : List Int) (p : Pr), p ∈ prD l → p.site = 0 ∧ p.a ∈ l ∧ p.b ∈ l
  | [], p, h => by simp [prD] at h
  | [_], p, h => by simp [prD] at h
  | a :: b :: l, p, h => by
    rw [prD, List.mem_cons] at h
    rcases h with rfl | h
    · simp
    · have := prD_site l p h
      exact ⟨this.1, by simp [this.2.1], by simp [this.2.2]⟩
theorem prD_len : ∀ (l : List Int), (prD l).length * 2 ≤ l.length
  | [] => Nat.le_refl _
  | [_] => by simp [prD]
  | a :: b :: l => by have := prD_len l; simp only [prD, List.length_cons]; omega
theorem foN_rng (l : List UInt8) : -9223372036854775808 ≤ (foN l).1 ∧ (foN l).1 ≤ 9223372036854775807 := by
  have : ∀ (l : List UInt8) (p : Int × Bool), (-9223372036854775808 ≤ p.1 ∧ p.1 ≤ 9223372036854775807) → -9223372036854775808 ≤ (l.foldl stD p).1 ∧ (l.foldl stD p).1 ≤ 9223372036854775807 := by
    intro l
    induction l with
    | nil => exact fun p h => h
    | cons c l ih =>
      intro p h
      rw [List.foldl_cons]
      refine ih _ ?_
      unfold stD
      split
      · exact h
      · dsimp only; rw [wrap_i64m]; omega
  exact this l _ ⟨by decide, by decide⟩
theorem numW_rng (w : Wd8) : ∀ x, x ∈ numW w → -9223372036854775808 ≤ x ∧ x ≤ 9223372036854775807 := by
  intro x hx
  unfold numW at hx
  split at hx
  · simp at hx
  · split at hx
    · split at hx
      · rw [List.mem_singleton.1 hx, wrap_i64m]; omega
      · simp at hx
    · split at hx
      · rw [List.mem_singleton.1 hx]; exact foN_rng _
      · simp at hx
theorem numW_len (w : Wd8) : (numW w).length ≤ 1 := by
  unfold numW; split
  · simp
  · split <;> split <;> simp
theorem numG_rng : ∀ (l cur : Wd8), (∀ x, x ∈ numG cur l → -9223372036854775808 ≤ x ∧ x ≤ 9223372036854775807) ∧ (numG cur l).length ≤ l.length + 1
  | [], cur => ⟨numW_rng cur, by have := numW_len cur; simpa [numG] using this⟩
  | c :: r, cur => by
    rw [numG]
    split
    · have h := numG_rng r []
      have h2 := numW_len cur
      refine ⟨fun x hx => ?_, by rw [List.length_append, List.length_cons]; omega⟩
      rcases List.mem_append.1 hx with hx | hx
      · exact numW_rng _ x hx
      · exact h.1 x hx
    · have h := numG_rng r (cur ++ [c])
      exact ⟨h.1, by rw [List.length_cons]; omega⟩
theorem getD_rng {l : List Int} (h : ∀ x, x ∈ l → -9223372036854775808 ≤ x ∧ x ≤ 9223372036854775807) (i : Nat) : -9223372036854775808 ≤ l.getD i 0 ∧ l.getD i 0 ≤ 9223372036854775807 := by
  by_cases hi : i < l.length
  · have : l.getD i 0 = l[i] := by simp [List.getD, hi]
    rw [this]; exact h _ (List.getElem_mem hi)
  · have : l.getD i 0 = 0 := by simp [List.getD, List.getElem?_eq_none (by omega : l.length ≤ i)]
    rw [this]; omega
theorem syN_rng (l : List Int) (h : ∀ x, x ∈ l → -9223372036854775808 ≤ x ∧ x ≤ 9223372036854775807) (hl : l.length ≤ 2001) : (syN l).rng where
  w := by
    intro n hn
    unfold Sy.w at hn
    rcases List.mem_append.1 hn with hn | hn
    · simp only [syN, List.mem_cons, List.not_mem_nil, or_false] at hn
      rcases hn with rfl | rfl | rfl | rfl | rfl | rfl | rfl | rfl | rfl | rfl <;> exact getD_rng h _
    · obtain ⟨p, hp, hn⟩ := List.mem_flatMap.1 hn
      obtain ⟨-, ha, hb⟩ := prD_site _ p hp
      simp only [List.mem_cons, List.not_mem_nil, or_false] at hn
      rcases hn with rfl | rfl
      · exact h _ (List.mem_of_mem_drop ha)
      · exact h _ (List.mem_of_mem_drop hb)
  n := by
    show (prD (l.drop 10)).length ≤ 1000
    have := prD_len (l.drop 10)
    rw [List.length_drop] at this
    omega
theorem numL_rng (s : BA) (hs : s.size ≤ 2000) : (∀ x, x ∈ numL s → -9223372036854775808 ≤ x ∧ x ≤ 9223372036854775807) ∧ (numL s).length ≤ 2001 := by
  have h := numG_rng s.data.toList []
  have e : s.data.toList.length = s.size := by rw [Array.length_toList]; rfl
  exact ⟨h.1, by unfold numL; omega⟩
theorem Good.nums {S : Sy} {s : BA} (h : Good S s) : numL s = S.w := by
  unfold numL
  rw [← h.text]; exact numL_text S h.rng
/-- What the reference reads is what the program reads. -/
theorem rdN_short {s : BA} (h : (numL s).length < 10) : rdS s = (zSum, 3) := rdS_no fun S hS => by
  have := hS.nums
  rw [this] at h
  unfold Sy.w at h
  rw [List.length_append] at h
  simp only [List.length_cons, List.length_nil] at h
  omega
theorem rdN_eq {s : BA} (hs : s.size ≤ 2000) (h : (⟨(textB (syN (numL s))).toArray⟩ : BA) = s) : rdS s = (syN (numL s), 0) := rdS_of
  { rng := syN_rng _ (numL_rng s hs).1 (numL_rng s hs).2
    site := fun p hp => (prD_site _ p hp).1
    text := by conv => rhs; rw [← h]
    size := hs }
theorem rdN_ne {s : BA} (h : (⟨(textB (syN (numL s))).toArray⟩ : BA) ≠ s) : rdS s = (zSum, 3) := rdS_no fun S hS => by
  apply h
  rw [hS.nums, syN_w S hS.site, hS.text]
end Go.Proofs.YtifeioddiddnoaaGreatDoor
namespace Go.Proofs.YtifeioddiddnoaaGreatDoor
open Go.Abs Go Go.RowKit
set_option maxRecDepth 20000
def mnW (w : Wd8) : Bool := match w with
  | c :: _ => decide ((c.toNat : Int) = 45)
  | [] => false
def miW (w : Wd8) : Nat := if mnW w then 1 else 0
def fiW (w : Wd8) : Int × Bool := (w.drop (miW w)).foldl stD (0, decide (0 < w.length))
def vaW (w : Wd8) : Int := if mnW w then IntKind.i64.wrap (-(fiW w).1) else (fiW w).1
theorem numW_fi (w : Wd8) : numW w = if (fiW w).2 then [vaW w] else [] := by
  cases w with
  | nil => rfl
  | cons c l =>
    have hc : (c = 45) ↔ (c.toNat : Int) = 45 := by
      constructor
      · rintro rfl; rfl
      · intro h
        exact UInt8.toNat_inj.1 (show c.toNat = (45 : UInt8).toNat by have : (45 : UInt8).toNat = 45 := rfl; omega)
    rw [numW]
    unfold vaW
    by_cases h : c = 45
    · have hm : mnW (c :: l) = true := decide_eq_true (hc.1 h)
      have hf : fiW (c :: l) = foN l := by unfold fiW miW; rw [hm]; rfl
      rw [if_pos h, hm, hf]; rfl
    · have hm : mnW (c :: l) = false := decide_eq_false (fun k => h (hc.2 k))
      have hf : fiW (c :: l) = foN (c :: l) := by unfold fiW miW; rw [hm]; rfl
      rw [if_neg h, hm, hf]; rfl
theorem stD_rng (p : Int × Bool) (c : UInt8) (h : -9223372036854775808 ≤ p.1 ∧ p.1 ≤ 9223372036854775807) : -9223372036854775808 ≤ (stD p c).1 ∧ (stD p c).1 ≤ 9223372036854775807 := by
  unfold stD
  split
  · exact h
  · dsimp only; rw [wrap_i64m]; omega
theorem foD_rng : ∀ (l : List UInt8) (p : Int × Bool), (-9223372036854775808 ≤ p.1 ∧ p.1 ≤ 9223372036854775807) → -9223372036854775808 ≤ (l.foldl stD p).1 ∧ (l.foldl stD p).1 ≤ 9223372036854775807
  | [], p, h => h
  | c :: l, p, h => foD_rng l _ (stD_rng p c h)
theorem take_drop_snoc (l : Wd8) (k m : Nat) (c : UInt8) (hm : m ≤ k) (h : l[k]? = some c) : (l.take (k + 1)).drop m = (l.take k).drop m ++ [c] := by
  have hk : k < l.length := (List.getElem?_eq_some_iff.1 h).1
  rw [List.take_add_one, h, List.drop_append_of_le_length (by rw [List.length_take]; omega)]
  rfl
theorem cur_snoc (l : Wd8) (f i : Nat) (c : UInt8) (hf : f ≤ i) (h : l[i]? = some c) : (l.drop f).take (i + 1 - f) = (l.drop f).take (i - f) ++ [c] := by
  rw [show i + 1 - f = (i - f) + 1 by omega, List.take_add_one, List.getElem?_drop, show f + (i - f) = i by omega, h]
  rfl
theorem ext_list (s : BA) (f i : Nat) : (s.extract f i).data.toList = (s.data.toList.drop f).take (i - f) := by
  rw [ByteArray.data_extract, Array.toList_extract, List.extract_eq_take_drop]
def nx (k : Nat) : Nat := k + 2
theorem nx_inj : ∀ a b, nx a = nx b → a = b := by intro a b h; unfold nx at h; omega
theorem nx_hi (a : Nat) (ha : 1 ≤ a) : 3 ≤ nx a := by unfold nx; omega
set_option maxHeartbeats 16000000 in
theorem numbers_fc (s : BA) (hs : s.size ≤ 2000) : FC Tryz.prog ge 64 [wA s] [] (rdi (numL s)) [] NoP := by
  obtain ⟨N, hN⟩ : ∃ N, N = numL s := ⟨_, rfl⟩
  rw [← hN]
  have hsz : s.data.toList.length = s.size := by rw [Array.length_toList]; rfl
  unfold numL at hN
  refine FC.of_AW tok Tryz.func64 (by kernel_rfl) rfl Tryz.ntmps64 [] rfl rfl rfl ?_; intro w0 X0 Y f0 hI0 hX0
  (repeat (first | refine K4 ?_ | refine L2 ?_ | refine RG.d ?_ | refine S1 ?_ | refine S2 ?_ | refine S4 ?_))
  refine AW.loopS (fun p : Nat × Nat × List Int => ⟨put 0 (some (wA s)) (put 3 (some (.sl 0 [] 1 0 p.2.2.length)) (put 4 (some (i64 (p.2.1 : Int))) (put 5 (some (i64 (p.1 : Int))) noE))), hput 0 (.one (ints .i64 p.2.2)) noH, 1⟩)
    (fun p => p.1 ≤ s.size + 1 ∧ p.2.2.length ≤ p.1 ∧ (p.1 ≤ s.size → p.2.1 ≤ p.1 ∧ N = p.2.2 ++ numG ((s.data.toList.drop p.2.1).take (p.1 - p.2.1)) (s.data.toList.drop p.1)) ∧ (p.1 = s.size + 1 → N = p.2.2)) (fun p => s.size + 1 - p.1) (0, 0, []) ⟨by dsimp only; omega, by simp, fun _ => ⟨Nat.le_refl _, by simpa using hN⟩, fun h => by simp at h⟩ (Sub.of (by repeat (first | exact SubE.no _ | refine SubE.put rfl ?_)) (by repeat (first | exact SubH.no _ | refine SubH.put rfl ?_)) rfl) ?_
  rintro ⟨i, fr, U⟩ ⟨hi, hU, h1, h2⟩
  dsimp only at hi hU h1 h2
  have lU := Go.Abs.ints_length .i64 U
  (repeat (first | refine K4 ?_ | refine RG.d ?_ | refine S1 ?_ | refine S2 ?_))
  refine AW.condD rfl (fun k => ?_) (fun k => ?_)
  rotate_left
  · have k : ¬ (i : Int) ≤ (s.size : Int) := k
    have h1 := h2 (by omega)
    subst h1
    refine AW.sub (Sub.frz (ks := [0]) 3 rfl (frzI rfl (.head _) rfl)) ?_
    (repeat (first | refine K4 ?_ | refine RG.d ?_ | refine S1 ?_ | refine S2 ?_ | refine S5 ?_ | refine S6 ?_))
    exact ⟨⟨_, rfl, rfl⟩, rfl, .nil _⟩
  have k : (i : Int) ≤ (s.size : Int) := k
  obtain ⟨hf, h1⟩ := h1 (by omega)
  clear h2
  obtain ⟨cur, hcur⟩ : ∃ c, c = (s.data.toList.drop fr).take (i - fr) := ⟨_, rfl⟩
  rw [← hcur] at h1
  have lcur : cur.length = i - fr := by rw [hcur, List.length_take, List.length_drop]; omega
  by_cases hc : ∃ c, s.data.toList[i]? = some c ∧ c ≠ 32
  · obtain ⟨c, hc, hc2⟩ := hc
    have hil : i < s.size := by
      have := (List.getElem?_eq_some_iff.1 hc).1
      omega
    have hcv : ¬ ((c.toNat : Int) = 32) := fun h => hc2 (UInt8.toNat_inj.1 (show c.toNat = (32 : UInt8).toNat by have : (32 : UInt8).toNat = 32 := rfl; omega))
    have hd : s.data.toList.getD (iNat (i : Int)) 0 = c := by
      show s.data.toList.getD i 0 = c
      rw [List.getD_eq_getElem?_getD, hc]; rfl
    rw [drop_cons hc, numG, if_neg hc2, hcur, ← cur_snoc _ _ _ _ hf hc] at h1
    have k2 : (i : Int) < (s.size : Int) := by omega
    refine S3 ?_
    repeat (first | refine S1 ?_ | refine S4 ?_)
    refine S2 ?_
    iterate 5 ((first | refine K4 ?_))
    refine RG.put 22 rfl (v' := .val (.bool true)) (congrArg (fun b => A.val (.bool b)) (decide_eq_true k2)) ?_
    iterate 2 ((first | refine K4 ?_))
    refine RG.val tok rfl rfl rfl (show 0 ≤ (i : Int) ∧ (i : Int) < (s.size : Int) by omega) rfl (show some (A.val (.int .u8 ((s.data.toList.getD (iNat (i : Int)) 0).toNat : Int))) = some (A.val (.int .u8 (c.toNat : Int))) by rw [hd]) ?_
    (repeat (first | refine K4 ?_ | refine RG.d ?_))
    refine AW.condD rfl (fun _ => ?_) (fun k => absurd hcv k)
    (repeat (first | refine K2 ?_ | refine K4 ?_ | refine RG.d ?_ | refine S2 ?_ | refine S5 ?_))
    exact ⟨(i + 1, fr, U), ⟨by dsimp only; omega, by dsimp only; omega, fun _ => ⟨by dsimp only; omega, h1⟩, fun h => by dsimp only at h; omega⟩, by dsimp only; omega, Sub.of (by repeat (first | exact SubE.no _ | refine SubE.put rfl ?_)) (by repeat (first | exact SubH.no _ | refine SubH.put rfl ?_)) rfl⟩
  · have hc2 : i < s.size → s.data.toList[i]? = some 32 := fun h => by
      obtain ⟨c, hx⟩ : ∃ c, s.data.toList[i]? = some c := ⟨_, List.getElem?_eq_getElem (by omega)⟩
      by_cases e : c = 32
      · rw [hx, e]
      · exact absurd ⟨c, hx, e⟩ hc
    have h3 : (i + 1 ≤ s.size → N = (U ++ numW cur) ++ numG [] (s.data.toList.drop (i + 1))) ∧ (i + 1 = s.size + 1 → N = U ++ numW cur) := by
      constructor
      · intro h
        rw [drop_cons (hc2 (by omega)), numG, if_pos rfl] at h1
        rw [h1, List.append_assoc]
      · intro h
        rw [List.drop_eq_nil_of_le (by omega), numG] at h1
        exact h1
    clear h1 hc
    refine S3 ?_
    refine S1 ?_
    refine S4 ?_
    refine S1 ?_
    refine AW.seqB 27 (fun b => b = false) ?_ ?_
    · refine S2 ?_
      iterate 5 ((first | refine K4 ?_))
      by_cases k2 : i < s.size
      · refine RG.put 22 rfl (v' := .val (.bool true)) (congrArg (fun b => A.val (.bool b)) (decide_eq_true (show (i : Int) < (s.size : Int) by omega))) ?_
        have hd : s.data.toList.getD (iNat (i : Int)) 0 = 32 := by
          show s.data.toList.getD i 0 = 32
          rw [List.getD_eq_getElem?_getD, hc2 k2]; rfl
        iterate 2 ((first | refine K4 ?_))
        refine RG.val tok rfl rfl rfl (show 0 ≤ (i : Int) ∧ (i : Int) < (s.size : Int) by omega) rfl (show some (A.val (.int .u8 ((s.data.toList.getD (iNat (i : Int)) 0).toNat : Int))) = some (A.val (.int .u8 32)) by rw [hd]; rfl) ?_
        (repeat (first | refine K4 ?_ | refine RG.d ?_))
        exact ⟨false, rfl, Sub.of (SubE.put rfl (by repeat (first | with_reducible exact SubE.refl _ | refine SubE.over rfl ?_))) (by first | exact SubH.refl _ | (refine SubH.same rfl ?_; exact SubH.refl _) | (refine SubH.same rfl ?_; refine SubH.same rfl ?_; exact SubH.refl _)) rfl⟩
      · refine RG.put 22 rfl (v' := .val (.bool false)) (congrArg (fun b => A.val (.bool b)) (decide_eq_false (show ¬ (i : Int) < (s.size : Int) by omega))) ?_
        (repeat (first | refine K1 ?_ | refine K4 ?_ | refine RG.d ?_))
        exact ⟨false, rfl, Sub.of (SubE.put rfl (by repeat (first | with_reducible exact SubE.refl _ | refine SubE.over rfl ?_))) (by first | exact SubH.refl _ | (refine SubH.same rfl ?_; exact SubH.refl _) | (refine SubH.same rfl ?_; refine SubH.same rfl ?_; exact SubH.refl _)) rfl⟩
    intro b hb
    subst hb
    clear hc2
    obtain ⟨Wd, hWd⟩ : ∃ W : BA, W = s.extract fr i := ⟨_, rfl⟩
    have hWl : Wd.data.toList = cur := by rw [hWd, ext_list, hcur]
    have hWs : Wd.size = cur.length := by rw [← hWl, Array.length_toList]; rfl
    have hnum := numW_fi cur
    obtain ⟨MN, hMN⟩ : ∃ b, b = mnW cur := ⟨_, rfl⟩
    obtain ⟨B0, hB0⟩ : ∃ b, b = decide (0 < cur.length) := ⟨_, rfl⟩
    obtain ⟨F, hF⟩ : ∃ b, b = fiW cur := ⟨_, rfl⟩
    obtain ⟨vv, hvv⟩ : ∃ b, b = vaW cur := ⟨_, rfl⟩
    rw [← hF, ← hvv] at hnum
    refine S8 ?_
    refine S3 ?_
    refine S1 ?_
    refine S2 ?_
    iterate 3 ((first | refine K4 ?_))
    refine RG.val tok rfl rfl rfl (show 0 ≤ (fr : Int) ∧ (fr : Int) ≤ (i : Int) ∧ (i : Int) ≤ (s.size : Int) by omega) rfl (show some (A.val (.string (s.extract (iNat (fr : Int)) (iNat (i : Int))))) = some (wA Wd) by rw [hWd]; rfl) ?_
    (repeat (first | refine K4 ?_ | refine RG.d ?_))
    refine S1 ?_; (repeat (first | refine K2 ?_ | refine K4 ?_ | refine RG.d ?_ | refine S2 ?_))
    refine AW.seqJ (fun _ : Unit => ⟨put 0 (some (wA s)) (put 3 (some (.sl 0 [] 1 0 U.length)) (put 4 (some (i64 ((i : Int) + 1))) (put 5 (some (i64 (i : Int))) (put 6 (some (wA Wd)) (put 7 (some (i64 0)) (put 8 (some (.val (.bool B0))) (put 9 (some (.val (.bool MN))) noE))))))), hput 0 (.one (ints .i64 U)) noH, 1⟩) (fun _ => True) ?_ ?_
    · refine S2 ?_
      iterate 7 ((first | refine K4 ?_))
      have hz : decide ((0 : Int) < (Wd.size : Int)) = B0 := by rw [hB0]; exact decide_eq_decide.2 (by omega)
      refine RG.put 36 rfl (v' := .val (.bool B0)) (congrArg (fun b => A.val (.bool b)) hz) ?_
      by_cases k3 : 0 < cur.length
      · obtain ⟨c0, hc0⟩ : ∃ c, cur[0]? = some c := ⟨_, List.getElem?_eq_getElem k3⟩
        have eB : B0 = true := by rw [hB0]; exact decide_eq_true k3
        have eM : decide ((c0.toNat : Int) = 45) = MN := by
          rw [hMN]
          cases cur with
          | nil => simp at k3
          | cons x l =>
            have : x = c0 := by simpa using hc0
            rw [← this]; rfl
        have hd : Wd.data.toList.getD (iNat 0) 0 = c0 := by
          rw [hWl]
          show cur.getD 0 0 = c0
          rw [List.getD_eq_getElem?_getD, hc0]; rfl
        refine RG.put 40 rfl (v' := .val (.bool true)) (congrArg (fun b => A.val (.bool b)) (hz.trans eB)) ?_
        (first | refine K4 ?_)
        refine RG.val tok rfl rfl rfl (show (0 : Int) ≤ 0 ∧ (0 : Int) < (Wd.size : Int) by omega) rfl (show some (A.val (.int .u8 ((Wd.data.toList.getD (iNat 0) 0).toNat : Int))) = some (A.val (.int .u8 (c0.toNat : Int))) by rw [hd]) ?_
        (first | refine K4 ?_)
        refine RG.put 43 rfl (v' := .val (.bool MN)) (congrArg (fun b => A.val (.bool b)) eM) ?_
        (repeat (first | refine K4 ?_ | refine RG.dd ?_))
        exact ⟨(), trivial, Sub.of (by repeat (first | exact SubE.no _ | refine SubE.put rfl ?_)) (by repeat (first | exact SubH.no _ | refine SubH.put rfl ?_)) rfl⟩
      · have eB : B0 = false := by rw [hB0]; exact decide_eq_false k3
        have eM : MN = false := by
          rw [hMN]
          cases cur with
          | nil => rfl
          | cons x l => simp at k3
        refine RG.put 40 rfl (v' := .val (.bool false)) (congrArg (fun b => A.val (.bool b)) (hz.trans eB)) ?_
        clear hMN
        subst eM
        (repeat (first | refine K1 ?_ | refine K4 ?_ | refine RG.dd ?_))
        exact ⟨(), trivial, Sub.of (by repeat (first | exact SubE.no _ | refine SubE.put rfl ?_)) (by repeat (first | exact SubH.no _ | refine SubH.put rfl ?_)) rfl⟩
    intro _ _
    refine AW.seqJ (fun _ : Unit => ⟨put 0 (some (wA s)) (put 3 (some (.sl 0 [] 1 0 U.length)) (put 4 (some (i64 ((i : Int) + 1))) (put 5 (some (i64 (i : Int))) (put 6 (some (wA Wd)) (put 7 (some (i64 F.1)) (put 8 (some (.val (.bool F.2))) (put 9 (some (.val (.bool MN))) noE))))))), hput 0 (.one (ints .i64 U)) noH, 1⟩) (fun _ => True) ?_ ?_
    · refine S1 ?_; (repeat (first | refine K4 ?_ | refine RG.d ?_ | refine S2 ?_ | refine S4 ?_))
      refine AW.loopS (fun p : Nat × Int × Bool => ⟨put 0 (some (wA s)) (put 3 (some (.sl 0 [] 1 0 U.length)) (put 4 (some (i64 ((i : Int) + 1))) (put 5 (some (i64 (i : Int))) (put 6 (some (wA Wd)) (put 7 (some (i64 p.2.1)) (put 8 (some (.val (.bool p.2.2))) (put 9 (some (.val (.bool MN))) (put 10 (some (i64 (p.1 : Int))) noE)))))))), hput 0 (.one (ints .i64 U)) noH, 1⟩) (fun p => p.1 ≤ cur.length ∧ p.2 = ((cur.take p.1).drop (miW cur)).foldl stD (0, B0)) (fun p => cur.length - p.1) (0, 0, B0) ⟨Nat.zero_le _, by simp⟩ (Sub.of (by repeat (first | exact SubE.no _ | refine SubE.put rfl ?_)) (by repeat (first | exact SubH.no _ | refine SubH.put rfl ?_)) rfl) ?_
      rintro ⟨k4, n, ok⟩ ⟨hk, hst⟩
      dsimp only at hk hst
      (repeat (first | refine K4 ?_ | refine RG.d ?_ | refine S1 ?_ | refine S2 ?_))
      refine AW.condD rfl (fun k5 => ?_) (fun k5 => ?_)
      rotate_left
      · have k5 : ¬ (k4 : Int) < (Wd.size : Int) := k5
        have e : F = (n, ok) := by rw [hst, List.take_of_length_le (by omega), hF, hB0]; rfl
        rw [e]
        (repeat (first | refine S5 ?_))
        exact ⟨(), trivial, Sub.of (by repeat (first | exact SubE.no _ | refine SubE.put rfl ?_)) (by repeat (first | exact SubH.no _ | refine SubH.put rfl ?_)) rfl⟩
      have k5 : (k4 : Int) < (Wd.size : Int) := k5
      obtain ⟨c, hx⟩ : ∃ c, cur[k4]? = some c := ⟨_, List.getElem?_eq_getElem (by omega)⟩
      have hd : Wd.data.toList.getD (iNat (k4 : Int)) 0 = c := by
        rw [hWl]
        show cur.getD k4 0 = c
        rw [List.getD_eq_getElem?_getD, hx]; rfl
      have idx : some (A.val (.int .u8 ((Wd.data.toList.getD (iNat (k4 : Int)) 0).toNat : Int))) = some (A.val (.int .u8 (c.toNat : Int))) := by rw [hd]
      by_cases k6 : MN = true ∧ k4 = 0
      · obtain ⟨e1, e2⟩ := k6
        have hm1 : miW cur = 1 := by unfold miW; rw [← hMN, e1]; rfl
        rw [hm1] at hst
        rw [e2] at hst
        have hs2 : (n, ok) = ((cur.take 1).drop (miW cur)).foldl stD (0, B0) := by
          have hz0 : (cur.take 1).drop 1 = [] := List.drop_eq_nil_of_le (by rw [List.length_take]; omega)
          rw [hst, hm1, hz0]
          simp
        clear hMN hm1 hst
        subst e1 e2
        refine S3 ?_
        repeat (first | refine S1 ?_ | refine S4 ?_)
        refine S2 ?_
        (repeat (first | refine K2 ?_ | refine K4 ?_ | refine RG.d ?_ | refine S2 ?_ | refine S5 ?_ | refine S7 ?_))
        exact ⟨(1, n, ok), ⟨by dsimp only; omega, hs2⟩, by dsimp only; omega, Sub.of (by repeat (first | exact SubE.no _ | refine SubE.put rfl ?_)) (by repeat (first | exact SubH.no _ | refine SubH.put rfl ?_)) rfl⟩
      have hm2 : miW cur ≤ k4 := by
        unfold miW
        rw [← hMN]
        split
        · rename_i h
          rcases Nat.eq_zero_or_pos k4 with h0 | h0
          · exact absurd ⟨h, h0⟩ k6
          · exact h0
        · omega
      have hnx : stD (n, ok) c = ((cur.take (k4 + 1)).drop (miW cur)).foldl stD (0, B0) := by
        rw [take_drop_snoc _ _ _ _ hm2 hx, List.foldl_append, ← hst]; rfl
      have hrn : -9223372036854775808 ≤ n ∧ n ≤ 9223372036854775807 := by
        have := foD_rng ((cur.take k4).drop (miW cur)) (0, B0) ⟨by dsimp only; omega, by dsimp only; omega⟩
        rw [← hst] at this
        exact this
      clear hst
      refine S3 ?_
      refine S1 ?_
      refine S4 ?_
      refine S1 ?_
      refine AW.seqB 55 (fun b => b = false) ?_ ?_
      · refine S2 ?_
        iterate 3 ((first | refine K4 ?_))
        by_cases h0 : k4 = 0
        · have eM : MN = false := by
            cases hM : MN with
            | false => rfl
            | true => exact absurd ⟨hM, h0⟩ k6
          refine RG.put 53 rfl (v' := .val (.bool true)) (congrArg (fun b => A.val (.bool b)) (decide_eq_true (show (k4 : Int) = 0 by omega))) ?_
          clear hMN k6
          subst eM
          (repeat (first | refine K4 ?_ | refine RG.d ?_))
          exact ⟨false, rfl, Sub.of (SubE.put rfl (by repeat (first | with_reducible exact SubE.refl _ | refine SubE.over rfl ?_))) (by first | exact SubH.refl _ | (refine SubH.same rfl ?_; exact SubH.refl _) | (refine SubH.same rfl ?_; refine SubH.same rfl ?_; exact SubH.refl _)) rfl⟩
        · refine RG.put 53 rfl (v' := .val (.bool false)) (congrArg (fun b => A.val (.bool b)) (decide_eq_false (show ¬ (k4 : Int) = 0 by omega))) ?_
          (repeat (first | refine K1 ?_ | refine K4 ?_ | refine RG.d ?_))
          exact ⟨false, rfl, Sub.of (SubE.put rfl (by repeat (first | with_reducible exact SubE.refl _ | refine SubE.over rfl ?_))) (by first | exact SubH.refl _ | (refine SubH.same rfl ?_; exact SubH.refl _) | (refine SubH.same rfl ?_; refine SubH.same rfl ?_; exact SubH.refl _)) rfl⟩
      intro b hb
      subst hb
      refine S8 ?_
      refine S3 ?_
      refine AW.seqB 65 (fun b => b = decide (c.toNat < 48 ∨ 57 < c.toNat)) ?_ ?_
      · refine S2 ?_
        iterate 2 ((first | refine K4 ?_))
        refine RG.val tok rfl rfl rfl (show 0 ≤ (k4 : Int) ∧ (k4 : Int) < (Wd.size : Int) by omega) rfl idx ?_
        iterate 2 ((first | refine K4 ?_))
        by_cases c1 : c.toNat < 48
        · refine RG.put 60 rfl (v' := .val (.bool true)) (congrArg (fun b => A.val (.bool b)) (decide_eq_true (show (c.toNat : Int) < 48 by omega))) ?_
          (repeat (first | refine K1 ?_ | refine K4 ?_ | refine RG.d ?_))
          exact ⟨true, (decide_eq_true (.inl c1)).symm, Sub.of (SubE.put rfl (by repeat (first | with_reducible exact SubE.refl _ | refine SubE.over rfl ?_))) (by first | exact SubH.refl _ | (refine SubH.same rfl ?_; exact SubH.refl _) | (refine SubH.same rfl ?_; refine SubH.same rfl ?_; exact SubH.refl _)) rfl⟩
        · refine RG.put 60 rfl (v' := .val (.bool false)) (congrArg (fun b => A.val (.bool b)) (decide_eq_false (show ¬ (c.toNat : Int) < 48 by omega))) ?_
          iterate 2 ((first | refine K4 ?_))
          refine RG.val tok rfl rfl rfl (show 0 ≤ (k4 : Int) ∧ (k4 : Int) < (Wd.size : Int) by omega) rfl idx ?_
          (first | refine K4 ?_)
          refine RG.put 64 rfl (v' := .val (.bool (decide (57 < c.toNat)))) (congrArg (fun b => A.val (.bool b)) (decide_eq_decide.2 (show ((c.toNat : Int) > 57 ↔ 57 < c.toNat) by omega))) ?_
          (repeat (first | refine K4 ?_ | refine RG.d ?_))
          exact ⟨_, decide_eq_decide.2 (by omega), Sub.of (SubE.put rfl (by repeat (first | with_reducible exact SubE.refl _ | refine SubE.over rfl ?_))) (by first | exact SubH.refl _ | (refine SubH.same rfl ?_; exact SubH.refl _) | (refine SubH.same rfl ?_; refine SubH.same rfl ?_; exact SubH.refl _)) rfl⟩
      intro b hb
      cases b with
      | true =>
        have hb := of_decide_eq_true hb.symm
        have e : stD (n, ok) c = (n, false) := by unfold stD; rw [if_pos hb]
        rw [e] at hnx
        (repeat (first | refine K2 ?_ | refine K4 ?_ | refine RG.d ?_ | refine S2 ?_ | refine S7 ?_))
        exact ⟨(k4 + 1, n, false), ⟨by dsimp only; omega, hnx⟩, by dsimp only; omega, Sub.of (by repeat (first | exact SubE.no _ | refine SubE.put rfl ?_)) (by repeat (first | exact SubH.no _ | refine SubH.put rfl ?_)) rfl⟩
      | false =>
        have hb := of_decide_eq_false hb.symm
        have e : stD (n, ok) c = (IntKind.i64.wrap (IntKind.i64.wrap (10 * n) + ((c.toNat : Int) - 48)), ok) := by unfold stD; rw [if_neg hb]
        rw [e] at hnx
        obtain ⟨n2, hn2⟩ : ∃ n2, n2 = IntKind.i64.wrap (IntKind.i64.wrap (10 * n) + ((c.toNat : Int) - 48)) := ⟨_, rfl⟩
        rw [← hn2] at hnx
        refine S8 ?_
        refine S2 ?_
        iterate 4 ((first | refine K4 ?_))
        refine RG.val tok rfl rfl rfl (show 0 ≤ (k4 : Int) ∧ (k4 : Int) < (Wd.size : Int) by omega) rfl idx ?_
        refine RG.val tok rfl rfl rfl trivial rfl (iv_u8 (by omega)) ?_
        (first | refine K2 ?_)
        refine RG.val tok rfl rfl rfl trivial rfl (show some (A.val (.int .i64 (IntKind.i64.wrap (IntKind.i64.wrap (10 * n) + ((c.toNat : Int) - 48))))) = some (i64 n2) by rw [hn2]) ?_
        (repeat (first | refine K2 ?_ | refine K4 ?_ | refine RG.d ?_ | refine S2 ?_))
        exact ⟨(k4 + 1, n2, ok), ⟨by dsimp only; omega, hnx⟩, by dsimp only; omega, Sub.of (by repeat (first | exact SubE.no _ | refine SubE.put rfl ?_)) (by repeat (first | exact SubH.no _ | refine SubH.put rfl ?_)) rfl⟩
    intro _ _
    have hrF : -9223372036854775808 ≤ F.1 ∧ F.1 ≤ 9223372036854775807 := by
      rw [hF]
      exact foD_rng _ _ ⟨by dsimp only; omega, by dsimp only; omega⟩
    have hv2 : vv = if MN then IntKind.i64.wrap (-F.1) else F.1 := by rw [hvv, hMN, hF]; rfl
    obtain ⟨F1, F2⟩ := F
    dsimp only at hrF hv2 hnum
    clear hF hB0 hMN hvv
    refine AW.seqJ (fun _ : Unit => ⟨put 0 (some (wA s)) (put 3 (some (.sl 0 [] 1 0 U.length)) (put 4 (some (i64 ((i : Int) + 1))) (put 5 (some (i64 (i : Int))) (put 6 (some (wA Wd)) (put 7 (some (i64 vv)) (put 8 (some (.val (.bool F2))) (put 9 (some (.val (.bool MN))) noE))))))), hput 0 (.one (ints .i64 U)) noH, 1⟩) (fun _ => True) ?_ ?_
    · refine S1 ?_; (repeat (first | refine K4 ?_ | refine RG.d ?_ | refine S2 ?_))
      cases MN with
      | true =>
        refine S7 ?_
        refine S2 ?_
        iterate 2 ((first | refine K4 ?_))
        refine RG.put 76 rfl (v' := i64 vv) (congrArg i64 (show IntKind.i64.wrap (0 - F1) = vv by rw [hv2, Int.zero_sub]; rfl)) ?_
        (repeat (first | refine K4 ?_ | refine RG.d ?_))
        exact ⟨(), trivial, Sub.of (by repeat (first | exact SubE.no _ | refine SubE.put rfl ?_)) (by repeat (first | exact SubH.no _ | refine SubH.put rfl ?_)) rfl⟩
      | false =>
        have hv2 : F1 = vv := by rw [hv2]; rfl
        subst hv2
        (repeat (first | refine S3 ?_ | refine S8 ?_))
        exact ⟨(), trivial, Sub.of (by repeat (first | exact SubE.no _ | refine SubE.put rfl ?_)) (by repeat (first | exact SubH.no _ | refine SubH.put rfl ?_)) rfl⟩
    intro _ _
    refine S1 ?_; (repeat (first | refine K4 ?_ | refine RG.d ?_ | refine S2 ?_))
    cases F2 with
    | false =>
      have hnum : numW cur = [] := by rw [hnum]; rfl
      rw [hnum, List.append_nil] at h3
      (repeat (first | refine K2 ?_ | refine K4 ?_ | refine RG.d ?_ | refine S2 ?_ | refine S3 ?_ | refine S8 ?_))
      exact ⟨(i + 1, i + 1, U), ⟨by dsimp only; omega, by dsimp only; omega, fun h => ⟨Nat.le_refl _, by dsimp only at h ⊢; rw [Nat.sub_self, List.take_zero]; exact h3.1 h⟩, fun h => by dsimp only at h; exact h3.2 h⟩, by dsimp only; omega, Sub.of (by repeat (first | exact SubE.no _ | refine SubE.put rfl ?_)) (by repeat (first | exact SubH.no _ | refine SubH.put rfl ?_)) rfl⟩
    | true =>
      have hnum : numW cur = [vv] := by rw [hnum]; rfl
      rw [hnum] at h3
      obtain ⟨Z, hZ⟩ : ∃ Z, Z = U ++ [vv] := ⟨_, rfl⟩
      rw [← hZ] at h3
      have lZ : Z.length = U.length + 1 := by rw [hZ, List.length_append]; rfl
      refine S7 ?_
      refine S2 ?_
      iterate 3 ((first | refine K4 ?_ | refine L2 ?_))
      refine RG.append tok rfl rfl rfl rfl rfl rfl rfl rfl (n1 := U.length) (c := ints .i64 U) (ks := [0]) rfl (m := 1) (ks' := [1]) rfl rfl (by omega) rfl (by omega) (by omega) rfl (c' := ints .i64 Z) (by rw [List.take_of_length_le (by omega), hZ, ints_append]; rfl) ?_
      rw [show U.length + 1 = Z.length by omega]
      (repeat (first | refine K2 ?_ | refine K4 ?_ | refine RG.d ?_ | refine S2 ?_))
      exact ⟨(i + 1, i + 1, Z), ⟨by dsimp only; omega, by dsimp only; omega, fun h => ⟨Nat.le_refl _, by dsimp only at h ⊢; rw [Nat.sub_self, List.take_zero]; exact h3.1 h⟩, fun h => by dsimp only at h; exact h3.2 h⟩, by dsimp only; omega, Sub.renB nx (by repeat (first | exact SubEr.no _ _ | refine SubEr.put rfl ?_)) (SubHr.put rfl (ints_free _ _ _) (SubHr.no _ _)) nx_inj (fun a ha => nx_hi a ha) (fun a ha => absurd ha (Nat.not_lt_zero _))⟩
end Go.Proofs.YtifeioddiddnoaaGreatDoor
namespace Go.Proofs.YtifeioddiddnoaaGreatDoor
open Go.Abs Go Go.RowKit
set_option maxRecDepth 20000
def sgq (k : Nat) : Nat := if k < 2 then k else k + 2
theorem sgq_inj : ∀ a b, sgq a = sgq b → a = b := by intro a b h; unfold sgq at h; repeat' split at h
                                                     all_goals omega
theorem sgq_hi (a : Nat) (ha : 3 ≤ a) : 5 ≤ sgq a := by unfold sgq; repeat' split
                                                        all_goals omega
theorem prD_take (l : List Int) (j : Nat) (h : 10 + 2 * j + 1 < l.length) : prD (l.drop (10 + 2 * j)) = ⟨l.getD (10 + 2 * j) 0, l.getD (10 + 2 * j + 1) 0, 0⟩ :: prD (l.drop (10 + 2 * (j + 1))) := by
  have e1 : l.getD (10 + 2 * j) 0 = l[10 + 2 * j] := by simp [List.getD, show 10 + 2 * j < l.length by omega]
  have e2 : l.getD (10 + 2 * j + 1) 0 = l[10 + 2 * j + 1] := by simp [List.getD, h]
  rw [List.drop_eq_getElem_cons (i := 10 + 2 * j) (by omega), List.drop_eq_getElem_cons (i := 10 + 2 * j + 1) h, prD, e1, e2, show 10 + 2 * j + 1 + 1 = 10 + 2 * (j + 1) by omega]
theorem prD_end (l : List Int) (j : Nat) (h : ¬ 10 + 2 * j + 1 < l.length) : prD (l.drop (10 + 2 * j)) = [] := by
  have : (l.drop (10 + 2 * j)).length ≤ 1 := by rw [List.length_drop]; omega
  match l.drop (10 + 2 * j), this with
  | [], _ => rfl
  | [_], _ => rfl
theorem getD_some {l : List Int} {i : Nat} (h : i < l.length) : l[i]? = some (l.getD i 0) := by
  rw [List.getD_eq_getElem?_getD, List.getElem?_eq_getElem h]; rfl
set_option maxHeartbeats 16000000 in
theorem rparse_fc (s : BA) (hs : s.size ≤ 9223372036854775807) : FC Tryz.prog ge 30 [wA s] [] (.agg ((rdS s).1.cl ++ [i64 (rdS s).2])) [] NoP := by
  by_cases hl : 2000 < s.size
  · rw [rdS_no (fun S hS => by have := hS.size; omega)]
    simp only [zSum, Sy.cl, List.cons_append, List.nil_append]
    refine FC.of_AW tok Tryz.func30 (by kernel_rfl) rfl Tryz.ntmps30 [] rfl rfl rfl ?_; intro w0 X0 Y f0 hI0 hX0
    (repeat (first | refine K4 ?_ | refine L2 ?_ | refine RG.d ?_ | refine S1 ?_ | refine S2 ?_))
    refine AW.condD rfl (fun _ => ?_) (fun k => absurd (show (2000 : Int) < (s.size : Int) by omega) k)
    (repeat (first | refine K4 ?_ | refine L3 ?_ | refine RG.d ?_ | refine S1 ?_ | refine S2 ?_))
    refine AW.sub (Sub.frzH (ks := []) (c' := zSum.cl ++ [i64 3]) 0 rfl List.not_mem_nil (by repeat (first | exact Frzs.nil | refine Frzs.cons (Frz.wk (Frz.refl _) Wk.nil) ?_ | refine Frzs.cons (Frz.refl _) ?_))) ?_
    refine S6 ?_
    exact ⟨⟨_, rfl, rfl⟩, rfl, .nil _⟩
  · have hl : s.size ≤ 2000 := by omega
    have cn := numbers_fc s hl
    obtain ⟨hr, hlen⟩ := numL_rng s hl
    have rs := syN_rng (numL s) hr hlen
    have ct := rtext_fc _ rs
    obtain ⟨R, hR⟩ : ∃ R, R = rdS s := ⟨_, rfl⟩
    have r1 : (numL s).length < 10 → R = (zSum, 3) := fun h => by rw [hR]; exact rdN_short h
    have r2 : (⟨(textB (syN (numL s))).toArray⟩ : BA) = s → R = (syN (numL s), 0) := fun h => by rw [hR]; exact rdN_eq hl h
    have r3 : ¬ (⟨(textB (syN (numL s))).toArray⟩ : BA) = s → R = (zSum, 3) := fun h => by rw [hR]; exact rdN_ne h
    rw [← hR]
    clear hR rs hr
    obtain ⟨N, hN⟩ : ∃ N, N = numL s := ⟨_, rfl⟩
    rw [← hN] at cn hlen ct r1 r2 r3
    obtain ⟨T, hT⟩ : ∃ T : BA, T = ⟨(textB (syN N)).toArray⟩ := ⟨_, rfl⟩
    rw [← hT] at ct r2 r3
    clear hT
    refine FC.of_AW tok Tryz.func30 (by kernel_rfl) rfl Tryz.ntmps30 [] rfl rfl rfl ?_; intro w0 X0 Y f0 hI0 hX0
    (repeat (first | refine K4 ?_ | refine L2 ?_ | refine RG.d ?_ | refine S1 ?_ | refine S2 ?_))
    refine AW.condD rfl (fun k => absurd (show (2000 : Int) < (s.size : Int) from k) (by omega)) (fun _ => ?_)
    (repeat (first | refine K4 ?_ | refine S1 ?_ | refine S2 ?_ | refine S3 ?_))
    refine RG.call rfl rfl rfl rfl (cn) [] rfl rfl rfl rfl (.nil _) (.nil _) (fun _ h => False.elim h) rfl (A.ren_free _ _ rfl) rfl ?_
    (repeat (first | refine K4 ?_ | refine RG.d ?_ | refine S1 ?_ | refine S2 ?_))
    refine AW.condD rfl (fun k => ?_) (fun k => ?_)
    · have k : (N.length : Int) < 10 := k
      rw [r1 (by omega)]
      simp only [zSum, Sy.cl, List.cons_append, List.nil_append]
      (repeat (first | refine K4 ?_ | refine L3 ?_ | refine RG.d ?_ | refine S1 ?_ | refine S2 ?_))
      refine AW.sub (Sub.frzH (ks := []) (c' := zSum.cl ++ [i64 3]) 0 rfl List.not_mem_nil (by repeat (first | exact Frzs.nil | refine Frzs.cons (Frz.wk (Frz.refl _) Wk.nil) ?_ | refine Frzs.cons (Frz.refl _) ?_))) ?_
      refine S6 ?_
      exact ⟨⟨_, rfl, rfl⟩, rfl, .nil _⟩
    have k : ¬ (N.length : Int) < 10 := k
    (repeat (first | refine K4 ?_ | refine S1 ?_ | refine S2 ?_ | refine S3 ?_))
    refine RG.idx tok rfl rfl rfl rfl rfl rfl (ints_cut N 0 (N.getD 0 0) (getD_some (by omega)) .i64) ⟨(by decide : (0 : Int) ≤ 0), (show (0 : Int) < (N.length : Int) by omega)⟩ rfl ?_
    (repeat (first | refine K4 ?_ | refine L1 ?_))
    refine RG.idx tok rfl rfl rfl rfl rfl rfl (ints_cut N 1 (N.getD 1 0) (getD_some (by omega)) .i64) ⟨(by decide : (0 : Int) ≤ 1), (show (1 : Int) < (N.length : Int) by omega)⟩ rfl ?_
    (repeat (first | refine K4 ?_ | refine L1 ?_))
    refine RG.idx tok rfl rfl rfl rfl rfl rfl (ints_cut N 2 (N.getD 2 0) (getD_some (by omega)) .i64) ⟨(by decide : (0 : Int) ≤ 2), (show (2 : Int) < (N.length : Int) by omega)⟩ rfl ?_
    (repeat (first | refine K4 ?_ | refine L1 ?_))
    refine RG.idx tok rfl rfl rfl rfl rfl rfl (ints_cut N 3 (N.getD 3 0) (getD_some (by omega)) .i64) ⟨(by decide : (0 : Int) ≤ 3), (show (3 : Int) < (N.length : Int) by omega)⟩ rfl ?_
    (repeat (first | refine K4 ?_ | refine L1 ?_))
    refine RG.idx tok rfl rfl rfl rfl rfl rfl (ints_cut N 4 (N.getD 4 0) (getD_some (by omega)) .i64) ⟨(by decide : (0 : Int) ≤ 4), (show (4 : Int) < (N.length : Int) by omega)⟩ rfl ?_
    (repeat (first | refine K4 ?_ | refine L1 ?_))
    refine RG.idx tok rfl rfl rfl rfl rfl rfl (ints_cut N 5 (N.getD 5 0) (getD_some (by omega)) .i64) ⟨(by decide : (0 : Int) ≤ 5), (show (5 : Int) < (N.length : Int) by omega)⟩ rfl ?_
    (repeat (first | refine K4 ?_ | refine L1 ?_))
    refine RG.idx tok rfl rfl rfl rfl rfl rfl (ints_cut N 6 (N.getD 6 0) (getD_some (by omega)) .i64) ⟨(by decide : (0 : Int) ≤ 6), (show (6 : Int) < (N.length : Int) by omega)⟩ rfl ?_
    (repeat (first | refine K4 ?_ | refine L1 ?_))
    refine RG.idx tok rfl rfl rfl rfl rfl rfl (ints_cut N 7 (N.getD 7 0) (getD_some (by omega)) .i64) ⟨(by decide : (0 : Int) ≤ 7), (show (7 : Int) < (N.length : Int) by omega)⟩ rfl ?_
    (repeat (first | refine K4 ?_ | refine L1 ?_))
    refine RG.idx tok rfl rfl rfl rfl rfl rfl (ints_cut N 8 (N.getD 8 0) (getD_some (by omega)) .i64) ⟨(by decide : (0 : Int) ≤ 8), (show (8 : Int) < (N.length : Int) by omega)⟩ rfl ?_
    (repeat (first | refine K4 ?_ | refine L1 ?_))
    refine RG.idx tok rfl rfl rfl rfl rfl rfl (ints_cut N 9 (N.getD 9 0) (getD_some (by omega)) .i64) ⟨(by decide : (0 : Int) ≤ 9), (show (9 : Int) < (N.length : Int) by omega)⟩ rfl ?_
    (repeat (first | refine K4 ?_ | refine L1 ?_ | refine L2 ?_ | refine L3 ?_ | refine RG.d ?_ | refine RG.dd ?_ | refine S1 ?_ | refine S2 ?_ | refine S4 ?_))
    refine AW.sub (t := ⟨put 0 (some (wA s)) (put 2 (some (.ptr 0 [] 0)) (put 3 (some (rdi N)) (put 4 (some (.ptr 1 [] 0)) (put 5 (some (i64 10)) noE)))), hput 0 (.one ([i64 0, i64 0, i64 0, i64 0, i64 0, i64 0, i64 0, i64 0, i64 0, .val (.slice none 0 0), i64 0, i64 0])) (hput 1 (.one ([i64 (N.getD 0 0), i64 (N.getD 1 0), i64 (N.getD 2 0), i64 (N.getD 3 0), i64 (N.getD 4 0), i64 (N.getD 5 0), i64 (N.getD 6 0), i64 (N.getD 7 0), i64 (N.getD 8 0), .val (.slice none 0 0), i64 (N.getD 9 0)])) noH), 2⟩) (Sub.down (by repeat (first | exact SubE.no _ | refine SubE.put rfl ?_)) (by repeat (first | exact SubH.no _ | refine SubH.put rfl ?_)) (by repeat (first | exact LtE.no _ | refine LtE.put rfl ?_)) (by repeat (first | exact LtH.no _ | refine LtH.put rfl rfl ?_)) rfl) ?_
    refine AW.sub (Sub.nilH 1 9 3 (c' := [i64 (N.getD 0 0), i64 (N.getD 1 0), i64 (N.getD 2 0), i64 (N.getD 3 0), i64 (N.getD 4 0), i64 (N.getD 5 0), i64 (N.getD 6 0), i64 (N.getD 7 0), i64 (N.getD 8 0), .sl 2 [] 3 0 0, i64 (N.getD 9 0)]) rfl rfl rfl rfl) ?_
    refine AW.loopS (fun q : Nat × List Pr => ⟨put 0 (some (wA s)) (put 2 (some (.ptr 0 [] 0)) (put 3 (some (rdi N)) (put 4 (some (.ptr 1 [] 0)) (put 5 (some (i64 ((10 + 2 * q.1 : Nat) : Int))) noE)))), hput 0 (.one ([i64 0, i64 0, i64 0, i64 0, i64 0, i64 0, i64 0, i64 0, i64 0, .val (.slice none 0 0), i64 0, i64 0])) (hput 1 (.one ([i64 (N.getD 0 0), i64 (N.getD 1 0), i64 (N.getD 2 0), i64 (N.getD 3 0), i64 (N.getD 4 0), i64 (N.getD 5 0), i64 (N.getD 6 0), i64 (N.getD 7 0), i64 (N.getD 8 0), .sl 2 [] 3 0 q.2.length, i64 (N.getD 9 0)])) (hput 2 (.one (flC Pr.cl q.2)) noH)), 3⟩) (fun q => 10 + 2 * q.1 ≤ N.length + 1 ∧ q.2.length = q.1 ∧ prD (N.drop 10) = q.2 ++ prD (N.drop (10 + 2 * q.1))) (fun q => N.length - q.1) (0, []) ⟨by dsimp only; omega, rfl, rfl⟩ (Sub.of (by repeat (first | exact SubE.no _ | refine SubE.put rfl ?_)) (by repeat (first | exact SubH.no _ | refine SubH.put rfl ?_)) rfl) ?_
    rintro ⟨j, P⟩ ⟨hj, hP, h1⟩
    dsimp only at hj hP h1
    have lP := flC_len Pr.cl_len P
    (repeat (first | refine K2 ?_ | refine K4 ?_ | refine RG.d ?_ | refine S1 ?_ | refine S2 ?_))
    refine AW.condD rfl (fun k2 => ?_) (fun k2 => ?_)
    rotate_left
    · have k2 : ¬ ((10 + 2 * j : Nat) : Int) + 1 < (N.length : Int) := k2
      rw [prD_end N j (by omega), List.append_nil] at h1
      simp only [syN, Sy.cl, List.cons_append, List.nil_append] at ct
      rw [h1] at ct
      refine AW.sub (Sub.frzH (ks := [2]) (c' := [i64 (N.getD 0 0), i64 (N.getD 1 0), i64 (N.getD 2 0), i64 (N.getD 3 0), i64 (N.getD 4 0), i64 (N.getD 5 0), i64 (N.getD 6 0), i64 (N.getD 7 0), i64 (N.getD 8 0), rdP P, i64 (N.getD 9 0)]) 1 rfl (by decide) (by repeat (first | exact Frzs.nil | refine Frzs.cons (Frz.refl _) ?_ | refine Frzs.cons (frzC (st := 3) rfl (.head _) (flC_len Pr.cl_len P) (flC_free Pr.cl_free P)) ?_))) ?_
      (repeat (first | refine L1 ?_ | refine S1 ?_ | refine S2 ?_ | refine S5 ?_))
      refine RG.call rfl rfl rfl rfl (ct) [] rfl rfl rfl rfl (.nil _) (.nil _) (fun _ h => False.elim h) rfl (A.ren_free _ _ rfl) rfl ?_
      (first | refine K4 ?_)
      (first | refine K4 ?_)
      by_cases hTs : T = s
      · rw [r2 hTs]
        simp only [syN, Sy.cl, List.cons_append, List.nil_append]
        rw [h1]
        refine RG.put 73 rfl (v' := .val (.bool false)) (congrArg (fun b => A.val (.bool b)) (show (!(ByteArray.toList T == ByteArray.toList s)) = false by rw [toList_beq, decide_eq_true hTs]; rfl)) ?_
        (repeat (first | refine K4 ?_ | refine L1 ?_ | refine L3 ?_ | refine RG.d ?_ | refine S1 ?_ | refine S2 ?_ | refine S3 ?_ | refine S6 ?_ | refine S8 ?_))
        exact ⟨⟨_, rfl, rfl⟩, rfl, .nil _⟩
      · rw [r3 hTs]
        simp only [zSum, Sy.cl, List.cons_append, List.nil_append]
        refine RG.put 73 rfl (v' := .val (.bool true)) (congrArg (fun b => A.val (.bool b)) (show (!(ByteArray.toList T == ByteArray.toList s)) = true by rw [toList_beq, decide_eq_false hTs]; rfl)) ?_
        (repeat (first | refine K4 ?_ | refine L3 ?_ | refine RG.d ?_ | refine S1 ?_ | refine S2 ?_ | refine S7 ?_))
        refine AW.sub (Sub.frzH (ks := []) (c' := zSum.cl ++ [i64 3]) 0 rfl List.not_mem_nil (by repeat (first | exact Frzs.nil | refine Frzs.cons (Frz.wk (Frz.refl _) Wk.nil) ?_ | refine Frzs.cons (Frz.refl _) ?_))) ?_
        refine S6 ?_
        exact ⟨⟨_, rfl, rfl⟩, rfl, .nil _⟩
    have k2 : ((10 + 2 * j : Nat) : Int) + 1 < (N.length : Int) := k2
    rw [prD_take N j (by omega)] at h1
    obtain ⟨Z, hZ⟩ : ∃ Z, Z = P ++ [(⟨N.getD (10 + 2 * j) 0, N.getD (10 + 2 * j + 1) 0, 0⟩ : Pr)] := ⟨_, rfl⟩
    have h1 : prD (N.drop 10) = Z ++ prD (N.drop (10 + 2 * (j + 1))) := by rw [h1, hZ, List.append_assoc]; rfl
    have lZ : Z.length = P.length + 1 := by rw [hZ, List.length_append]; rfl
    have k3 : 10 + 2 * j + 1 < N.length := by omega
    (repeat (first | refine K2 ?_ | refine K4 ?_ | refine K6 ?_ | refine L1 ?_ | refine L2 ?_ | refine S1 ?_ | refine S2 ?_ | refine S3 ?_ | refine S4 ?_))
    refine RG.put 63 rfl (v' := i64 ((10 + 2 * j + 1 : Nat) : Int)) rfl ?_
    (repeat (first | refine K1 ?_))
    refine RG.append tok rfl rfl rfl rfl rfl rfl rfl rfl (n1 := P.length) (c := flC Pr.cl P) (ks := [2]) rfl (m := 1) (ks' := [3]) rfl rfl (by omega) rfl (by omega) (by omega) rfl (c' := flC Pr.cl Z) (by rw [List.take_of_length_le (by omega), hZ, flP_app]; rfl) ?_
    rw [show P.length + 1 = Z.length by omega]
    (repeat (first | refine K2 ?_ | refine K4 ?_ | refine L3 ?_ | refine RG.d ?_ | refine RG.dd ?_ | refine S2 ?_))
    exact ⟨(j + 1, Z), ⟨by dsimp only; omega, by dsimp only; omega, h1⟩, by dsimp only; omega, Sub.renB sgq (by repeat (first | exact SubEr.no _ _ | refine SubEr.put rfl ?_)) (SubHr.put2 rfl (SubHr.put2 rfl (SubHr.put rfl (flC_free Pr.cl_free _) (SubHr.no _ _)))) sgq_inj (fun a ha => sgq_hi a ha) (fun a ha => absurd ha (Nat.not_lt_zero _))⟩
end Go.Proofs.YtifeioddiddnoaaGreatDoor
