/- The reference's lists of bits: quotients, what fits. No conditions. -/
import Derived.Test.YtbhahgbdkgjliaaGreatDoorRB6
set_option linter.unusedVariables false
set_option linter.unusedSimpArgs false
namespace Go.Proofs.YtbhahgbdkgjliaaGreatDoor
open Go.Abs Go Go.RowKit
set_option maxRecDepth 20000
open Rb
theorem nv_div {a T : List Int} {m : Nat} {r : Int} (ha : isB a) (hT : isB T) (hm : 0 < m) (h0 : 0 ≤ r) (h1 : r < m) (h : bz a = m * bz T + r) : nv T = nv a / m ∧ r = ((nv a % m : Nat) : Int) := by
  obtain ⟨e1, e2⟩ := div_end (by omega) h0 h1 h
  have e3 := nv_eq ha
  have e4 := nv_eq hT
  constructor
  · have : (nv T : Int) = ((nv a / m : Nat) : Int) := by rw [e4, e1, ← e3]; rfl
    exact_mod_cast this
  · rw [e2, ← e3]; rfl
set_option maxHeartbeats 16000000 in
theorem bdivide_fc (a : List Int) (m : Nat) (ha : isB a) (la : a.length ≤ 200) (hm : 1 ≤ m ∧ m ≤ 4611686018427387904) : FC Tryz.prog gi 38 [rdb a, i64 (m : Int)] [] (.agg [rdb (bL (nv a / m)), i64 ((nv a % m : Nat) : Int)]) [] NoP := by
  obtain ⟨W, hW⟩ : ∃ W, W = bL (nv a / m) := ⟨_, rfl⟩
  obtain ⟨Z, hZ⟩ : ∃ W, W = ((nv a % m : Nat) : Int) := ⟨_, rfl⟩
  rw [← hW, ← hZ]
  refine FC.of_AW tok Tryz.func38 (by kernel_rfl) rfl Tryz.ntmps38 [] rfl rfl rfl ?_; intro w0 X0 Y f0 hI0 hX0
  (repeat (first | refine K1 ?_ | refine K2 ?_ | refine K3 ?_ | refine K4 ?_ | refine K5 ?_ | refine K6 ?_ | refine K7 ?_ | refine L1 ?_ | refine L2 ?_ | refine L3 ?_ | refine RG.d ?_ | refine RG.dd ?_ | refine S1 ?_ | refine S2 ?_ | refine S3 ?_ | refine S4 ?_ | refine S5 ?_ | refine S7 ?_ | refine S8 ?_))
  refine RG.new tok rfl rfl rfl (show 0 ≤ (a.length : Int) ∧ (a.length : Int) ≤ (a.length : Int) ∧ (a.length : Int) ≤ 9223372036854775807 ∧ (a.length : Int) * 8 ≤ 140737488355328 by omega) rfl (show rep a.length [i64 0] = ints .i64 (List.replicate a.length 0 ++ []) by rw [List.append_nil, rep_zero]) ?_
  (repeat (first | refine K1 ?_ | refine K2 ?_ | refine K3 ?_ | refine K4 ?_ | refine K5 ?_ | refine K6 ?_ | refine K7 ?_ | refine L1 ?_ | refine L2 ?_ | refine L3 ?_ | refine RG.d ?_ | refine RG.dd ?_ | refine S1 ?_ | refine S2 ?_ | refine S3 ?_ | refine S4 ?_ | refine S5 ?_ | refine S7 ?_ | refine S8 ?_))
  refine AW.loopS (fun p : Nat × Int × List Int => ⟨put 0 (some (rdb a)) (put 1 (some (i64 (m : Int))) (put 4 (some (.ptr 0 [] 0)) (put 5 (some (.sl 1 [] 1 0 a.length)) (put 6 (some (i64 p.2.1)) (put 7 (some (i64 ((p.1 : Int) - 1))) noE))))), hput 0 (.one ([.val (.slice none 0 0), i64 0])) (hput 1 (.one (ints .i64 (List.replicate p.1 0 ++ p.2.2))) noH), 2⟩)
    (fun p => p.1 ≤ a.length ∧ isB p.2.2 ∧ p.2.2.length = a.length - p.1 ∧ 0 ≤ p.2.1 ∧ p.2.1 < m ∧ bz (a.drop p.1) = m * bz p.2.2 + p.2.1) (fun p => p.1) (a.length, 0, []) ⟨Nat.le_refl _, isB_nil, by simp, Int.le_refl 0, by dsimp only; omega, by rw [List.drop_eq_nil_of_le (Nat.le_refl _)]; show (0 : Int) = m * 0 + 0; omega⟩ (Sub.of (by repeat (first | exact SubE.no _ | refine SubE.put rfl ?_)) (by repeat (first | exact SubH.no _ | refine SubH.put rfl ?_)) rfl) ?_
  rintro ⟨k, r, T⟩ ⟨hk, hTb, hTl, hr0, hr1, hv⟩
  dsimp only at hk hTb hTl hr0 hr1 hv
  cases k with
  | zero =>
    obtain ⟨e1, e2⟩ := nv_div ha hTb (by omega) hr0 hr1 hv
    have cc := bcut_fc T hTb (by omega)
    rw [e1, ← hW] at cc
    have e3 : r = Z := by rw [e2, hZ]
    rw [← e3]
    refine AW.sub (Sub.frz (ks := [1]) 5 rfl (frzI (kk := .i64) (xs := T) rfl (.head _) (show a.length = T.length by omega))) ?_
    (repeat (first | refine K1 ?_ | refine K2 ?_ | refine K3 ?_ | refine K4 ?_ | refine K5 ?_ | refine K6 ?_ | refine K7 ?_ | refine L1 ?_ | refine L2 ?_ | refine L3 ?_ | refine RG.d ?_ | refine RG.dd ?_ | refine S1 ?_ | refine S2 ?_ | refine S3 ?_ | refine S4 ?_ | refine S5 ?_ | refine S7 ?_ | refine S8 ?_))
    refine RG.call rfl rfl rfl rfl (cc) [] rfl rfl rfl rfl (.nil _) (.nil _) (fun _ h => False.elim h) rfl (A.ren_free _ _ rfl) rfl ?_
    (repeat (first | refine K1 ?_ | refine K2 ?_ | refine K3 ?_ | refine K4 ?_ | refine K5 ?_ | refine K6 ?_ | refine K7 ?_ | refine L1 ?_ | refine L2 ?_ | refine L3 ?_ | refine RG.d ?_ | refine RG.dd ?_ | refine S1 ?_ | refine S2 ?_ | refine S3 ?_ | refine S4 ?_ | refine S5 ?_ | refine S6 ?_ | refine S7 ?_ | refine S8 ?_))
    exact ⟨⟨_, rfl, rfl⟩, rfl, .nil _⟩
  | succ j =>
    have gb := gt_bit ha j
    have hat := ints_cut a j (gt a j) (gt_some (by omega)) .i64
    have hd0 := div_step hv
    have hd1 := div_step1 hv
    obtain ⟨x, hx⟩ : ∃ x, x = gt a j := ⟨_, rfl⟩
    rw [← hx] at gb hat hd0 hd1
    (repeat (first | refine K1 ?_ | refine K2 ?_ | refine K3 ?_ | refine K4 ?_ | refine K5 ?_ | refine K6 ?_ | refine K7 ?_ | refine L1 ?_ | refine L2 ?_ | refine L3 ?_ | refine RG.d ?_ | refine RG.dd ?_ | refine S1 ?_ | refine S2 ?_ | refine S3 ?_ | refine S4 ?_ | refine S5 ?_ | refine S7 ?_ | refine S8 ?_))
    refine AW.condD rfl (fun _ => ?_) (fun h => absurd (show ((j + 1 : Nat) : Int) - 1 ≥ 0 by omega) h)
    refine S3 ?_
    repeat (first | refine S1 ?_ | refine S4 ?_)
    refine S2 ?_
    iterate 2 ((first | refine K1 ?_ | refine K2 ?_ | refine K3 ?_ | refine K4 ?_ | refine K5 ?_ | refine K6 ?_ | refine K7 ?_ | refine L1 ?_ | refine L2 ?_ | refine L3 ?_))
    refine RG.put 19 rfl (v' := i64 (2 * r)) (congrArg i64 (show IntKind.i64.wrap (2 * r) = 2 * r from wrap_i64 (by omega))) ?_
    iterate 2 ((first | refine K1 ?_ | refine K2 ?_ | refine K3 ?_ | refine K4 ?_ | refine K5 ?_ | refine K6 ?_ | refine K7 ?_ | refine L1 ?_ | refine L2 ?_ | refine L3 ?_))
    refine RG.put 21 rfl (v' := i64 (j : Int)) (congrArg i64 (show ((j + 1 : Nat) : Int) - 1 = (j : Int) by omega)) ?_
    refine RG.idx tok rfl rfl rfl rfl rfl rfl hat ⟨by omega, by omega⟩ rfl ?_
    iterate 2 ((first | refine K1 ?_ | refine K2 ?_ | refine K3 ?_ | refine K4 ?_ | refine K5 ?_ | refine K6 ?_ | refine K7 ?_ | refine L1 ?_ | refine L2 ?_ | refine L3 ?_))
    (repeat (first | refine K1 ?_ | refine K2 ?_ | refine K3 ?_ | refine K4 ?_ | refine K5 ?_ | refine K6 ?_ | refine K7 ?_ | refine L1 ?_ | refine L2 ?_ | refine L3 ?_ | refine RG.d ?_ | refine RG.dd ?_ | refine S1 ?_ | refine S2 ?_ | refine S3 ?_ | refine S4 ?_ | refine S5 ?_ | refine S7 ?_ | refine S8 ?_))
    refine AW.condD rfl (fun k2 => ?_) (fun k2 => ?_)
    · have k2 : 2 * r + x ≥ (m : Int) := k2
      (repeat (first | refine K1 ?_ | refine K2 ?_ | refine K3 ?_ | refine K4 ?_ | refine K5 ?_ | refine K6 ?_ | refine K7 ?_ | refine L1 ?_ | refine L2 ?_ | refine L3 ?_ | refine RG.d ?_ | refine RG.dd ?_ | refine S1 ?_ | refine S2 ?_ | refine S3 ?_ | refine S4 ?_ | refine S5 ?_ | refine S7 ?_ | refine S8 ?_))
      refine RG.put 33 rfl (v' := .ptr 1 [] (0 + iNat (j : Int) * 1)) (show A.ptr 1 [] (0 + iNat (((j + 1 : Nat) : Int) - 1) * 1) = _ by rw [show ((j + 1 : Nat) : Int) - 1 = (j : Int) by omega]) ?_
      refine RG.store tok rfl rfl rfl rfl (stA_map rfl (fun x => .val (.int .i64 x)) (xs := List.replicate (j + 1) 0 ++ T) rfl (show 0 + iNat (j : Int) * 1 < _ by rw [List.length_append, List.length_replicate]; show 0 + j * 1 < _; omega) 1 rfl rfl) rfl (c'' := ints .i64 (List.replicate j 0 ++ 1 :: T)) (show ((List.replicate (j + 1) 0 ++ T : List Int).set (0 + j * 1) 1).map _ = _ by rw [show 0 + j * 1 = j by omega, zeros_set]; rfl) rfl ?_
      (repeat (first | refine K1 ?_ | refine K2 ?_ | refine K3 ?_ | refine K4 ?_ | refine K5 ?_ | refine K6 ?_ | refine K7 ?_ | refine L1 ?_ | refine L2 ?_ | refine L3 ?_ | refine RG.d ?_ | refine RG.dd ?_ | refine S1 ?_ | refine S2 ?_ | refine S3 ?_ | refine S4 ?_ | refine S5 ?_ | refine S7 ?_ | refine S8 ?_))
      exact ⟨(j, 2 * r + x - m, 1 :: T), ⟨by dsimp only; omega, isB_mk (.inr rfl) hTb, by show T.length + 1 = _; omega, by dsimp only; omega, by dsimp only; omega, hd1⟩, by dsimp only; omega, Sub.of (by repeat (first | exact SubE.no _ | refine SubE.put rfl ?_ | refine SubE.put (show some (A.val (.int .i64 (((j + 1 : Nat) : Int) - 1 - 1))) = some (i64 ((j : Int) - 1)) by rw [show ((j + 1 : Nat) : Int) - 1 - 1 = (j : Int) - 1 by omega]) ?_)) (by repeat (first | exact SubH.no _ | refine SubH.put rfl ?_)) rfl⟩
    · have k2 : ¬ 2 * r + x ≥ (m : Int) := k2
      (repeat (first | refine K1 ?_ | refine K2 ?_ | refine K3 ?_ | refine K4 ?_ | refine K5 ?_ | refine K6 ?_ | refine K7 ?_ | refine L1 ?_ | refine L2 ?_ | refine L3 ?_ | refine RG.d ?_ | refine RG.dd ?_ | refine S1 ?_ | refine S2 ?_ | refine S3 ?_ | refine S4 ?_ | refine S5 ?_ | refine S7 ?_ | refine S8 ?_))
      exact ⟨(j, 2 * r + x, 0 :: T), ⟨by dsimp only; omega, isB_mk (.inl rfl) hTb, by show T.length + 1 = _; omega, by dsimp only; omega, by dsimp only; omega, hd0⟩, by dsimp only; omega, Sub.of (by repeat (first | exact SubE.no _ | refine SubE.put rfl ?_ | refine SubE.put (show some (A.val (.int .i64 (((j + 1 : Nat) : Int) - 1 - 1))) = some (i64 ((j : Int) - 1)) by rw [show ((j + 1 : Nat) : Int) - 1 - 1 = (j : Int) - 1 by omega]) ?_)) (by repeat (first | exact SubH.no _ | refine SubH.put rfl ?_ | refine SubH.put (show Reg.one (ints .i64 (List.replicate (j + 1) 0 ++ T)) = Reg.one (ints .i64 (List.replicate j 0 ++ 0 :: T)) by rw [zeros_skip]) ?_)) rfl⟩
theorem drop_le {l : List Int} (h : isB l) : ∀ k, bz (l.drop k) ≤ bz l
  | 0 => Int.le_refl _
  | k + 1 => by
    have h1 := drop_le h k
    have h2 := bv_drop l k
    have h3 := gt_bit h k
    have h4 := bv_nonneg (isB_drop h (k + 1))
    omega
set_option maxHeartbeats 8000000 in
theorem bfits_fc (a : List Int) (ha : isB a) (la : a.length ≤ 200) : FC Tryz.prog gi 60 [rdb a] [] (if nv a ≤ 4611686018427387904 then .tup [i64 (nv a : Int), .val (.bool true)] else .tup [i64 0, .val (.bool false)]) [] NoP := by
  have c1 : FC Tryz.prog gi 26 [] [] (i64 4611686018427387904) [] NoP := by
    refine FC.of_AW tok Tryz.func26 (by kernel_rfl) rfl Tryz.ntmps26 [] rfl rfl rfl ?_; intro w0 X0 Y f0 hI0 hX0
    (repeat (first | refine K1 ?_ | refine K2 ?_ | refine K3 ?_ | refine K4 ?_ | refine K5 ?_ | refine K6 ?_ | refine K7 ?_ | refine L1 ?_ | refine L2 ?_ | refine L3 ?_ | refine RG.d ?_ | refine RG.dd ?_ | refine S1 ?_ | refine S2 ?_ | refine S3 ?_ | refine S4 ?_ | refine S5 ?_ | refine S6 ?_ | refine S7 ?_ | refine S8 ?_))
    exact ⟨⟨_, rfl, rfl⟩, rfl, .nil _⟩
  have c2 := bits_fc 4611686018427387904 (by decide)
  have hb := bL_isB 4611686018427387904
  have c3 := bcompare_fc a (bL 4611686018427387904) ha hb (by omega) (by have := bL_len 63 4611686018427387904 (by decide); omega)
  rw [bv_bL, ← nv_eq ha] at c3
  have c2 : FC Tryz.prog gi 41 [i64 4611686018427387904] [] (rdb (bL 4611686018427387904)) [] NoP := c2
  have c3 : FC Tryz.prog gi 57 [rdb a, rdb (bL 4611686018427387904)] [] (i64 (cm (nv a : Int) ((4611686018427387904 : Nat) : Int))) [] NoP := c3
  obtain ⟨L, hL⟩ : ∃ L, L = bL 4611686018427387904 := ⟨_, rfl⟩
  rw [← hL] at c2 c3
  obtain ⟨q, hq⟩ : ∃ q, q = cm (nv a : Int) ((4611686018427387904 : Nat) : Int) := ⟨_, rfl⟩
  have hq2 : q > 0 ↔ 4611686018427387904 < nv a := by rw [hq]; exact cm_pos
  rw [← hq] at c3
  clear hL hq hb
  by_cases hf : nv a ≤ 4611686018427387904
  · rw [if_pos hf]
    have hn := nv_eq ha
    refine FC.of_AW tok Tryz.func60 (by kernel_rfl) rfl Tryz.ntmps60 [] rfl rfl rfl ?_; intro w0 X0 Y f0 hI0 hX0
    (repeat (first | refine K1 ?_ | refine K2 ?_ | refine K3 ?_ | refine K4 ?_ | refine K5 ?_ | refine K6 ?_ | refine K7 ?_ | refine L1 ?_ | refine L2 ?_ | refine L3 ?_ | refine RG.d ?_ | refine RG.dd ?_ | refine S1 ?_ | refine S2 ?_ | refine S3 ?_ | refine S4 ?_ | refine S5 ?_ | refine S7 ?_ | refine S8 ?_))
    refine RG.call rfl rfl rfl rfl (c1) [] rfl rfl rfl rfl (.nil _) (.nil _) (fun _ h => False.elim h) rfl (A.ren_free _ _ rfl) rfl ?_
    refine RG.call rfl rfl rfl rfl (c2) [] rfl rfl rfl rfl (.nil _) (.nil _) (fun _ h => False.elim h) rfl (A.ren_free _ _ rfl) rfl ?_
    refine RG.call rfl rfl rfl rfl (c3) [] rfl rfl rfl rfl (.nil _) (.nil _) (fun _ h => False.elim h) rfl (A.ren_free _ _ rfl) rfl ?_
    (repeat (first | refine K1 ?_ | refine K2 ?_ | refine K3 ?_ | refine K4 ?_ | refine K5 ?_ | refine K6 ?_ | refine K7 ?_ | refine L1 ?_ | refine L2 ?_ | refine L3 ?_ | refine RG.d ?_ | refine RG.dd ?_ | refine S1 ?_ | refine S2 ?_ | refine S3 ?_ | refine S4 ?_ | refine S5 ?_ | refine S7 ?_ | refine S8 ?_))
    refine AW.condD rfl (fun k => absurd (hq2.1 k) (by omega)) (fun _ => ?_)
    (repeat (first | refine K1 ?_ | refine K2 ?_ | refine K3 ?_ | refine K4 ?_ | refine K5 ?_ | refine K6 ?_ | refine K7 ?_ | refine L1 ?_ | refine L2 ?_ | refine L3 ?_ | refine RG.d ?_ | refine RG.dd ?_ | refine S1 ?_ | refine S2 ?_ | refine S3 ?_ | refine S4 ?_ | refine S5 ?_ | refine S7 ?_ | refine S8 ?_))
    refine AW.loopS (fun p : Nat × Int => ⟨put 0 (some (rdb a)) (put 4 (some (i64 p.2)) (put 5 (some (i64 ((p.1 : Int) - 1))) noE)), noH, 0⟩) (fun p => p.1 ≤ a.length ∧ p.2 = bz (a.drop p.1)) (fun p => p.1) (a.length, 0) ⟨Nat.le_refl _, by rw [List.drop_eq_nil_of_le (Nat.le_refl _)]; rfl⟩ (Sub.of (by repeat (first | exact SubE.no _ | refine SubE.put rfl ?_)) (by repeat (first | exact SubH.no _ | refine SubH.put rfl ?_)) rfl) ?_
    rintro ⟨k, n⟩ ⟨hk, hv⟩
    dsimp only at hk hv
    cases k with
    | zero =>
      have e : n = (nv a : Int) := by rw [hv, hn]; rfl
      subst e
      (repeat (first | refine K1 ?_ | refine K2 ?_ | refine K3 ?_ | refine K4 ?_ | refine K5 ?_ | refine K6 ?_ | refine K7 ?_ | refine L1 ?_ | refine L2 ?_ | refine L3 ?_ | refine RG.d ?_ | refine RG.dd ?_ | refine S1 ?_ | refine S2 ?_ | refine S3 ?_ | refine S4 ?_ | refine S5 ?_ | refine S6 ?_ | refine S7 ?_ | refine S8 ?_))
      exact ⟨⟨_, rfl, rfl⟩, rfl, .nil _⟩
    | succ j =>
      have gb := gt_bit ha j
      have hat := ints_cut a j (gt a j) (gt_some (by omega)) .i64
      have hd := bv_drop a j
      have d1 := drop_le ha j
      have d2 := bv_nonneg (isB_drop ha (j + 1))
      obtain ⟨x, hx⟩ : ∃ x, x = gt a j := ⟨_, rfl⟩
      rw [← hx] at gb hat hd
      rw [← hv] at hd d2
      (repeat (first | refine K1 ?_ | refine K2 ?_ | refine K3 ?_ | refine K4 ?_ | refine K5 ?_ | refine K6 ?_ | refine K7 ?_ | refine L1 ?_ | refine L2 ?_ | refine L3 ?_ | refine RG.d ?_ | refine RG.dd ?_ | refine S1 ?_ | refine S2 ?_ | refine S3 ?_ | refine S4 ?_ | refine S5 ?_ | refine S7 ?_ | refine S8 ?_))
      refine AW.condD rfl (fun _ => ?_) (fun h => absurd (show ((j + 1 : Nat) : Int) - 1 ≥ 0 by omega) h)
      refine S3 ?_
      repeat (first | refine S1 ?_ | refine S4 ?_)
      refine S2 ?_
      iterate 2 ((first | refine K1 ?_ | refine K2 ?_ | refine K3 ?_ | refine K4 ?_ | refine K5 ?_ | refine K6 ?_ | refine K7 ?_ | refine L1 ?_ | refine L2 ?_ | refine L3 ?_))
      refine RG.put 19 rfl (v' := i64 (2 * n)) rfl ?_
      iterate 2 ((first | refine K1 ?_ | refine K2 ?_ | refine K3 ?_ | refine K4 ?_ | refine K5 ?_ | refine K6 ?_ | refine K7 ?_ | refine L1 ?_ | refine L2 ?_ | refine L3 ?_))
      refine RG.put 21 rfl (v' := i64 (j : Int)) (congrArg i64 (show ((j + 1 : Nat) : Int) - 1 = (j : Int) by omega)) ?_
      refine RG.idx tok rfl rfl rfl rfl rfl rfl hat ⟨by omega, by omega⟩ rfl ?_
      (repeat (first | refine K1 ?_ | refine K2 ?_ | refine K3 ?_ | refine K4 ?_ | refine K5 ?_ | refine K6 ?_ | refine K7 ?_ | refine L1 ?_ | refine L2 ?_ | refine L3 ?_ | refine RG.d ?_ | refine RG.dd ?_ | refine S1 ?_ | refine S2 ?_ | refine S3 ?_ | refine S4 ?_ | refine S5 ?_ | refine S7 ?_ | refine S8 ?_))
      exact ⟨(j, 2 * n + x), ⟨by dsimp only; omega, by dsimp only; omega⟩, by dsimp only; omega, Sub.of (by repeat (first | exact SubE.no _ | refine SubE.put rfl ?_ | refine SubE.put (show some (A.val (.int .i64 (((j + 1 : Nat) : Int) - 1 - 1))) = some (i64 ((j : Int) - 1)) by rw [show ((j + 1 : Nat) : Int) - 1 - 1 = (j : Int) - 1 by omega]) ?_)) (by repeat (first | exact SubH.no _ | refine SubH.put rfl ?_)) rfl⟩
  · rw [if_neg hf]
    refine FC.of_AW tok Tryz.func60 (by kernel_rfl) rfl Tryz.ntmps60 [] rfl rfl rfl ?_; intro w0 X0 Y f0 hI0 hX0
    (repeat (first | refine K1 ?_ | refine K2 ?_ | refine K3 ?_ | refine K4 ?_ | refine K5 ?_ | refine K6 ?_ | refine K7 ?_ | refine L1 ?_ | refine L2 ?_ | refine L3 ?_ | refine RG.d ?_ | refine RG.dd ?_ | refine S1 ?_ | refine S2 ?_ | refine S3 ?_ | refine S4 ?_ | refine S5 ?_ | refine S7 ?_ | refine S8 ?_))
    refine RG.call rfl rfl rfl rfl (c1) [] rfl rfl rfl rfl (.nil _) (.nil _) (fun _ h => False.elim h) rfl (A.ren_free _ _ rfl) rfl ?_
    refine RG.call rfl rfl rfl rfl (c2) [] rfl rfl rfl rfl (.nil _) (.nil _) (fun _ h => False.elim h) rfl (A.ren_free _ _ rfl) rfl ?_
    refine RG.call rfl rfl rfl rfl (c3) [] rfl rfl rfl rfl (.nil _) (.nil _) (fun _ h => False.elim h) rfl (A.ren_free _ _ rfl) rfl ?_
    (repeat (first | refine K1 ?_ | refine K2 ?_ | refine K3 ?_ | refine K4 ?_ | refine K5 ?_ | refine K6 ?_ | refine K7 ?_ | refine L1 ?_ | refine L2 ?_ | refine L3 ?_ | refine RG.d ?_ | refine RG.dd ?_ | refine S1 ?_ | refine S2 ?_ | refine S3 ?_ | refine S4 ?_ | refine S5 ?_ | refine S7 ?_ | refine S8 ?_))
    refine AW.condD rfl (fun _ => ?_) (fun k => absurd (hq2.2 (by omega)) k)
    (repeat (first | refine K1 ?_ | refine K2 ?_ | refine K3 ?_ | refine K4 ?_ | refine K5 ?_ | refine K6 ?_ | refine K7 ?_ | refine L1 ?_ | refine L2 ?_ | refine L3 ?_ | refine RG.d ?_ | refine RG.dd ?_ | refine S1 ?_ | refine S2 ?_ | refine S3 ?_ | refine S4 ?_ | refine S5 ?_ | refine S6 ?_ | refine S7 ?_ | refine S8 ?_))
    exact ⟨⟨_, rfl, rfl⟩, rfl, .nil _⟩
end Go.Proofs.YtbhahgbdkgjliaaGreatDoor
