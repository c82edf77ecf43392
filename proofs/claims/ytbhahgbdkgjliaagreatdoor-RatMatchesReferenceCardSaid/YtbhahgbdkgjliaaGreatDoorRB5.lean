/- The reference's lists of bits: comparisons, differences. No conditions. -/
import Derived.Test.YtbhahgbdkgjliaaGreatDoorRB4
set_option linter.unusedVariables false
set_option linter.unusedSimpArgs false
namespace Go.Proofs.YtbhahgbdkgjliaaGreatDoor
open Go.Abs Go Go.RowKit
set_option maxRecDepth 20000
open Rb
theorem maxI (a b : Nat) : (if (a : Int) < (b : Int) then (b : Int) else (a : Int)) = ((max a b : Nat) : Int) := by split <;> omega
set_option maxHeartbeats 4000000 in
theorem bcompare_fc (a b : List Int) (ha : isB a) (hb : isB b) (la : a.length ≤ 1000) (lb : b.length ≤ 1000) : FC Tryz.prog gi 57 [rdb a, rdb b] [] (i64 (cm (bz a) (bz b))) [] NoP := by
  obtain ⟨R, hR⟩ : ∃ R, R = cm (bz a) (bz b) := ⟨_, rfl⟩
  rw [← hR]
  refine FC.of_AW tok Tryz.func57 (by kernel_rfl) rfl Tryz.ntmps57 [] rfl rfl rfl ?_; intro w0 X0 Y f0 hI0 hX0
  refine S1 ?_; (repeat (first | refine K1 ?_ | refine K2 ?_ | refine K3 ?_ | refine K4 ?_ | refine K5 ?_ | refine K6 ?_ | refine K7 ?_ | refine L1 ?_ | refine L2 ?_ | refine L3 ?_ | refine RG.d ?_ | refine RG.dd ?_ | refine S2 ?_ | refine S3 ?_ | refine S4 ?_ | refine S5 ?_ | refine S7 ?_ | refine S8 ?_))
  repeat refine S1 ?_
  refine S2 ?_
  iterate 5 ((first | refine K1 ?_ | refine K2 ?_ | refine K3 ?_ | refine K4 ?_ | refine K5 ?_ | refine K6 ?_ | refine K7 ?_ | refine L1 ?_ | refine L2 ?_ | refine L3 ?_))
  refine RG.put 10 rfl (v' := i64 ((max a.length b.length : Nat) : Int)) (congrArg i64 (maxI a.length b.length)) ?_
  (repeat (first | refine K1 ?_ | refine K2 ?_ | refine K3 ?_ | refine K4 ?_ | refine K5 ?_ | refine K6 ?_ | refine K7 ?_ | refine L1 ?_ | refine L2 ?_ | refine L3 ?_ | refine RG.d ?_ | refine RG.dd ?_ | refine S1 ?_ | refine S2 ?_ | refine S3 ?_ | refine S4 ?_ | refine S5 ?_ | refine S7 ?_ | refine S8 ?_))
  refine AW.loopS (fun k : Nat => ⟨put 0 (some (rdb a)) (put 1 (some (rdb b)) (put 5 (some (i64 ((k : Int) - 1))) noE)), noH, 0⟩) (fun k => k ≤ max a.length b.length ∧ bz (a.drop k) = bz (b.drop k)) (fun k => k) (max a.length b.length) ⟨Nat.le_refl _, by rw [List.drop_eq_nil_of_le (by omega), List.drop_eq_nil_of_le (by omega)]⟩ (Sub.of (by repeat (first | exact SubE.no _ | refine SubE.put rfl ?_)) (by repeat (first | exact SubH.no _ | refine SubH.put rfl ?_)) rfl) ?_
  rintro k ⟨hk, hv⟩
  cases k with
  | zero =>
    have e : R = 0 := by
      rw [hR]; unfold cm
      have hv : bz a = bz b := hv
      rw [if_neg (by omega), if_pos hv]
    subst e
    (repeat (first | refine K1 ?_ | refine K2 ?_ | refine K3 ?_ | refine K4 ?_ | refine K5 ?_ | refine K6 ?_ | refine K7 ?_ | refine L1 ?_ | refine L2 ?_ | refine L3 ?_ | refine RG.d ?_ | refine RG.dd ?_ | refine S1 ?_ | refine S2 ?_ | refine S3 ?_ | refine S4 ?_ | refine S5 ?_ | refine S7 ?_ | refine S8 ?_))
    (repeat (first | refine K1 ?_ | refine K2 ?_ | refine K3 ?_ | refine K4 ?_ | refine K5 ?_ | refine K6 ?_ | refine K7 ?_ | refine L1 ?_ | refine L2 ?_ | refine L3 ?_ | refine RG.d ?_ | refine RG.dd ?_ | refine S1 ?_ | refine S2 ?_ | refine S3 ?_ | refine S4 ?_ | refine S5 ?_ | refine S6 ?_ | refine S7 ?_ | refine S8 ?_))
    exact ⟨⟨_, rfl, rfl⟩, rfl, .nil _⟩
  | succ j =>
    have ca := bat_fc a j
    have cb := bat_fc b j
    rw [show (j : Int) = ((j + 1 : Nat) : Int) - 1 by omega] at ca cb
    have ga := gt_bit ha j
    have gb := gt_bit hb j
    have cmb := cm_bits ha hb (i := j) hv
    rw [← hR] at cmb
    have hstep : gt a j = gt b j → bz (a.drop j) = bz (b.drop j) := fun h => by rw [bv_drop a j, bv_drop b j, hv, h]
    obtain ⟨x, hx⟩ : ∃ x, x = gt a j := ⟨_, rfl⟩
    obtain ⟨y, hy⟩ : ∃ x, x = gt b j := ⟨_, rfl⟩
    rw [← hx] at ca ga cmb hstep
    rw [← hy] at cb gb cmb hstep
    (repeat (first | refine K1 ?_ | refine K2 ?_ | refine K3 ?_ | refine K4 ?_ | refine K5 ?_ | refine K6 ?_ | refine K7 ?_ | refine L1 ?_ | refine L2 ?_ | refine L3 ?_ | refine RG.d ?_ | refine RG.dd ?_ | refine S1 ?_ | refine S2 ?_ | refine S3 ?_ | refine S4 ?_ | refine S5 ?_ | refine S7 ?_ | refine S8 ?_))
    refine AW.condD rfl (fun _ => ?_) (fun h => absurd (show ((j + 1 : Nat) : Int) - 1 ≥ 0 by omega) h)
    (repeat (first | refine K1 ?_ | refine K2 ?_ | refine K3 ?_ | refine K4 ?_ | refine K5 ?_ | refine K6 ?_ | refine K7 ?_ | refine L1 ?_ | refine L2 ?_ | refine L3 ?_ | refine RG.d ?_ | refine RG.dd ?_ | refine S1 ?_ | refine S2 ?_ | refine S3 ?_ | refine S4 ?_ | refine S5 ?_ | refine S7 ?_ | refine S8 ?_))
    refine RG.call rfl rfl rfl rfl (ca) [] rfl rfl rfl rfl (.nil _) (.nil _) (fun _ h => False.elim h) rfl (A.ren_free _ _ rfl) rfl ?_
    (repeat (first | refine K1 ?_ | refine K2 ?_ | refine K3 ?_ | refine K4 ?_ | refine K5 ?_ | refine K6 ?_ | refine K7 ?_ | refine L1 ?_ | refine L2 ?_ | refine L3 ?_ | refine RG.d ?_ | refine RG.dd ?_ | refine S1 ?_ | refine S2 ?_ | refine S3 ?_ | refine S4 ?_ | refine S5 ?_ | refine S7 ?_ | refine S8 ?_))
    refine RG.call rfl rfl rfl rfl (cb) [] rfl rfl rfl rfl (.nil _) (.nil _) (fun _ h => False.elim h) rfl (A.ren_free _ _ rfl) rfl ?_
    (repeat (first | refine K1 ?_ | refine K2 ?_ | refine K3 ?_ | refine K4 ?_ | refine K5 ?_ | refine K6 ?_ | refine K7 ?_ | refine L1 ?_ | refine L2 ?_ | refine L3 ?_ | refine RG.d ?_ | refine RG.dd ?_ | refine S1 ?_ | refine S2 ?_ | refine S3 ?_ | refine S4 ?_ | refine S5 ?_ | refine S7 ?_ | refine S8 ?_))
    refine AW.condD rfl (fun k2 => ?_) (fun k2 => ?_)
    · have e := cmb k2
      (repeat (first | refine K1 ?_ | refine K2 ?_ | refine K3 ?_ | refine K4 ?_ | refine K5 ?_ | refine K6 ?_ | refine K7 ?_ | refine L1 ?_ | refine L2 ?_ | refine L3 ?_ | refine RG.d ?_ | refine RG.dd ?_ | refine S1 ?_ | refine S2 ?_ | refine S3 ?_ | refine S4 ?_ | refine S5 ?_ | refine S7 ?_ | refine S8 ?_))
      refine RG.call rfl rfl rfl rfl (ca) [] rfl rfl rfl rfl (.nil _) (.nil _) (fun _ h => False.elim h) rfl (A.ren_free _ _ rfl) rfl ?_
      (repeat (first | refine K1 ?_ | refine K2 ?_ | refine K3 ?_ | refine K4 ?_ | refine K5 ?_ | refine K6 ?_ | refine K7 ?_ | refine L1 ?_ | refine L2 ?_ | refine L3 ?_ | refine RG.d ?_ | refine RG.dd ?_ | refine S1 ?_ | refine S2 ?_ | refine S3 ?_ | refine S4 ?_ | refine S5 ?_ | refine S7 ?_ | refine S8 ?_))
      refine RG.call rfl rfl rfl rfl (cb) [] rfl rfl rfl rfl (.nil _) (.nil _) (fun _ h => False.elim h) rfl (A.ren_free _ _ rfl) rfl ?_
      (repeat (first | refine K1 ?_ | refine K2 ?_ | refine K3 ?_ | refine K4 ?_ | refine K5 ?_ | refine K6 ?_ | refine K7 ?_ | refine L1 ?_ | refine L2 ?_ | refine L3 ?_ | refine RG.d ?_ | refine RG.dd ?_ | refine S1 ?_ | refine S2 ?_ | refine S3 ?_ | refine S4 ?_ | refine S5 ?_ | refine S7 ?_ | refine S8 ?_))
      subst e
      (repeat (first | refine K1 ?_ | refine K2 ?_ | refine K3 ?_ | refine K4 ?_ | refine K5 ?_ | refine K6 ?_ | refine K7 ?_ | refine L1 ?_ | refine L2 ?_ | refine L3 ?_ | refine RG.d ?_ | refine RG.dd ?_ | refine S1 ?_ | refine S2 ?_ | refine S3 ?_ | refine S4 ?_ | refine S5 ?_ | refine S6 ?_ | refine S7 ?_ | refine S8 ?_))
      exact ⟨⟨_, rfl, rfl⟩, rfl, .nil _⟩
    · have k2 : x = y := Decidable.byContradiction k2
      (repeat (first | refine K1 ?_ | refine K2 ?_ | refine K3 ?_ | refine K4 ?_ | refine K5 ?_ | refine K6 ?_ | refine K7 ?_ | refine L1 ?_ | refine L2 ?_ | refine L3 ?_ | refine RG.d ?_ | refine RG.dd ?_ | refine S1 ?_ | refine S2 ?_ | refine S3 ?_ | refine S4 ?_ | refine S5 ?_ | refine S7 ?_ | refine S8 ?_))
      exact ⟨j, ⟨by omega, hstep k2⟩, by omega, Sub.of (by repeat (first | exact SubE.no _ | refine SubE.put rfl ?_ | refine SubE.put (show some (A.val (.int .i64 (((j + 1 : Nat) : Int) - 1 - 1))) = some (i64 ((j : Int) - 1)) by rw [show ((j + 1 : Nat) : Int) - 1 - 1 = (j : Int) - 1 by omega]) ?_)) (by repeat (first | exact SubH.no _ | refine SubH.put rfl ?_)) rfl⟩
set_option maxHeartbeats 8000000 in
theorem bminus_fc (a b : List Int) (ha : isB a) (hb : isB b) (la : a.length ≤ 1000) (lb : b.length ≤ 1000) (hab : nv b ≤ nv a) : FC Tryz.prog gi 58 [rdb a, rdb b] [] (rdb (bL (nv a - nv b))) [] NoP := by
  obtain ⟨W, hW⟩ : ∃ W, W = bL (nv a - nv b) := ⟨_, rfl⟩
  rw [← hW]
  refine FC.of_AW tok Tryz.func58 (by kernel_rfl) rfl Tryz.ntmps58 [] rfl rfl rfl ?_; intro w0 X0 Y f0 hI0 hX0
  (repeat (first | refine K1 ?_ | refine K2 ?_ | refine K3 ?_ | refine K4 ?_ | refine K5 ?_ | refine K6 ?_ | refine K7 ?_ | refine L1 ?_ | refine L2 ?_ | refine L3 ?_ | refine RG.d ?_ | refine RG.dd ?_ | refine S1 ?_ | refine S2 ?_ | refine S3 ?_ | refine S4 ?_ | refine S5 ?_ | refine S7 ?_ | refine S8 ?_))
  refine AW.loopS (fun p : Nat × Int × List Int => ⟨put 0 (some (rdb a)) (put 1 (some (rdb b)) (put 5 (some (.sl 0 [] 1 0 p.2.2.length)) (put 6 (some (i64 p.2.1)) (put 7 (some (i64 (p.1 : Int))) noE)))), hput 0 (.one (ints .i64 p.2.2)) noH, 1⟩)
    (fun p => p.1 ≤ a.length ∧ p.2.2.length = p.1 ∧ isB p.2.2 ∧ (p.2.1 = 0 ∨ p.2.1 = 1) ∧ bz a - bz b = bvI p.2.2 (bz (a.drop p.1) - bz (b.drop p.1) - p.2.1))
    (fun p => a.length - p.1) (0, 0, []) ⟨Nat.zero_le _, rfl, isB_nil, .inl rfl, by show bz a - bz b = bz a - bz b - 0; omega⟩ (Sub.of (by repeat (first | exact SubE.no _ | refine SubE.put rfl ?_)) (by repeat (first | exact SubH.no _ | refine SubH.put rfl ?_)) rfl) ?_
  rintro ⟨i, c, U⟩ ⟨hi, hU, hUb, hc, hT⟩
  dsimp only at hi hU hUb hc hT
  have lU := Go.Abs.ints_length .i64 U
  (repeat (first | refine K1 ?_ | refine K2 ?_ | refine K3 ?_ | refine K4 ?_ | refine K5 ?_ | refine K6 ?_ | refine K7 ?_ | refine L1 ?_ | refine L2 ?_ | refine L3 ?_ | refine RG.d ?_ | refine RG.dd ?_ | refine S1 ?_ | refine S2 ?_ | refine S3 ?_ | refine S4 ?_ | refine S5 ?_ | refine S7 ?_ | refine S8 ?_))
  refine AW.condD rfl (fun k => ?_) (fun k => ?_)
  rotate_left
  · have k : ¬ (i : Int) < (a.length : Int) := k
    rw [List.drop_eq_nil_of_le (show a.length ≤ i by omega)] at hT
    have e1 := nv_eq ha; have e2 := nv_eq hb; have e3 := nv_eq hUb
    have hT' : bz a - bz b = bvI U (0 - bz (b.drop i) - c) := hT
    have hT : bz a - bz b = bz U := minus_end (T := bz a - bz b) (c := c) hUb (isB_drop hb i) (by omega) (by omega) hT'
    have hN : nv U = nv a - nv b := by omega
    have cc := bcut_fc U hUb (by omega)
    rw [hN, ← hW] at cc
    refine AW.sub (Sub.frz (ks := [0]) 5 rfl (frzI rfl (.head _) rfl)) ?_
    (repeat (first | refine K1 ?_ | refine K2 ?_ | refine K3 ?_ | refine K4 ?_ | refine K5 ?_ | refine K6 ?_ | refine K7 ?_ | refine L1 ?_ | refine L2 ?_ | refine L3 ?_ | refine RG.d ?_ | refine RG.dd ?_ | refine S1 ?_ | refine S2 ?_ | refine S3 ?_ | refine S4 ?_ | refine S5 ?_ | refine S7 ?_ | refine S8 ?_))
    refine RG.call rfl rfl rfl rfl (cc) [] rfl rfl rfl rfl (.nil _) (.nil _) (fun _ h => False.elim h) rfl (A.ren_free _ _ rfl) rfl ?_
    (repeat (first | refine K1 ?_ | refine K2 ?_ | refine K3 ?_ | refine K4 ?_ | refine K5 ?_ | refine K6 ?_ | refine K7 ?_ | refine L1 ?_ | refine L2 ?_ | refine L3 ?_ | refine RG.d ?_ | refine RG.dd ?_ | refine S1 ?_ | refine S2 ?_ | refine S3 ?_ | refine S4 ?_ | refine S5 ?_ | refine S6 ?_ | refine S7 ?_ | refine S8 ?_))
    exact ⟨⟨_, rfl, rfl⟩, rfl, .nil _⟩
  have k : (i : Int) < (a.length : Int) := k
  have ca := bat_fc a i
  have cb := bat_fc b i
  have ga := gt_bit ha i
  have gb := gt_bit hb i
  obtain ⟨x, hx⟩ : ∃ x, x = gt a i := ⟨_, rfl⟩
  obtain ⟨y, hy⟩ : ∃ x, x = gt b i := ⟨_, rfl⟩
  rw [← hx] at ca ga
  rw [← hy] at cb gb
  obtain ⟨s, hs⟩ : ∃ s, s = x - y - c := ⟨_, rfl⟩
  (repeat (first | refine K1 ?_ | refine K2 ?_ | refine K3 ?_ | refine K4 ?_ | refine K5 ?_ | refine K6 ?_ | refine K7 ?_ | refine L1 ?_ | refine L2 ?_ | refine L3 ?_ | refine RG.d ?_ | refine RG.dd ?_ | refine S1 ?_ | refine S2 ?_ | refine S3 ?_ | refine S4 ?_ | refine S5 ?_ | refine S7 ?_ | refine S8 ?_))
  refine RG.call rfl rfl rfl rfl (ca) [] rfl rfl rfl rfl (.nil _) (.nil _) (fun _ h => False.elim h) rfl (A.ren_free _ _ rfl) rfl ?_
  (repeat (first | refine K1 ?_ | refine K2 ?_ | refine K3 ?_ | refine K4 ?_ | refine K5 ?_ | refine K6 ?_ | refine K7 ?_ | refine L1 ?_ | refine L2 ?_ | refine L3 ?_ | refine RG.d ?_ | refine RG.dd ?_ | refine S1 ?_ | refine S2 ?_ | refine S3 ?_ | refine S4 ?_ | refine S5 ?_ | refine S7 ?_ | refine S8 ?_))
  refine RG.call rfl rfl rfl rfl (cb) [] rfl rfl rfl rfl (.nil _) (.nil _) (fun _ h => False.elim h) rfl (A.ren_free _ _ rfl) rfl ?_
  iterate 3 ((first | refine K1 ?_ | refine K2 ?_ | refine K3 ?_ | refine K4 ?_ | refine K5 ?_ | refine K6 ?_ | refine K7 ?_ | refine L1 ?_ | refine L2 ?_ | refine L3 ?_))
  refine RG.put 24 rfl (v' := i64 s) (congrArg i64 (show IntKind.i64.wrap (x - y - c) = s by rw [hs]; exact wrap_i64 (by omega))) ?_
  (repeat (first | refine K1 ?_ | refine K2 ?_ | refine K3 ?_ | refine K4 ?_ | refine K5 ?_ | refine K6 ?_ | refine K7 ?_ | refine L1 ?_ | refine L2 ?_ | refine L3 ?_ | refine RG.d ?_ | refine RG.dd ?_ | refine S1 ?_ | refine S2 ?_ | refine S3 ?_ | refine S4 ?_ | refine S5 ?_ | refine S7 ?_ | refine S8 ?_))
  refine AW.condD rfl (fun k2 => ?_) (fun k2 => ?_)
  · have k2 : s < 0 := k2
    have hst := minus_step a b i c (s + 2) 1 (by rw [← hx, ← hy]; omega)
    rw [hst, ← bvI_snoc] at hT
    obtain ⟨Z, hZ⟩ : ∃ Z, Z = U ++ [s + 2] := ⟨_, rfl⟩
    rw [← hZ] at hT
    have lZ : Z.length = U.length + 1 := by rw [hZ, List.length_append]; rfl
    have hZb : isB Z := by rw [hZ]; exact isB_snoc hUb (by omega)
    (repeat (first | refine K1 ?_ | refine K2 ?_ | refine K3 ?_ | refine K4 ?_ | refine K5 ?_ | refine K6 ?_ | refine K7 ?_ | refine L1 ?_ | refine L2 ?_ | refine L3 ?_ | refine RG.d ?_ | refine RG.dd ?_ | refine S1 ?_ | refine S2 ?_ | refine S3 ?_ | refine S4 ?_ | refine S5 ?_ | refine S7 ?_ | refine S8 ?_))
    refine RG.append tok rfl rfl rfl rfl rfl rfl rfl rfl (n1 := U.length) (c := ints .i64 U) (ks := [0]) rfl (m := 1) (ks' := [1]) rfl rfl (by omega) rfl (by omega) (by omega) rfl (c' := ints .i64 Z) (by rw [List.take_of_length_le (by omega), hZ, ints_append]; rfl) ?_
    rw [show U.length + 1 = Z.length by omega]
    (repeat (first | refine K1 ?_ | refine K2 ?_ | refine K3 ?_ | refine K4 ?_ | refine K5 ?_ | refine K6 ?_ | refine K7 ?_ | refine L1 ?_ | refine L2 ?_ | refine L3 ?_ | refine RG.d ?_ | refine RG.dd ?_ | refine S1 ?_ | refine S2 ?_ | refine S3 ?_ | refine S4 ?_ | refine S5 ?_ | refine S7 ?_ | refine S8 ?_))
    exact ⟨(i + 1, 1, Z), ⟨by dsimp only; omega, by dsimp only; omega, hZb, by dsimp only; omega, hT⟩, by dsimp only; omega, Sub.renB nxb (by repeat (first | exact SubEr.no _ _ | refine SubEr.put rfl ?_ | refine SubEr.put (show some (A.val (.int .i64 ((i : Int) + 1))) = some (i64 ((i + 1 : Nat) : Int)) from rfl) ?_)) (SubHr.put rfl (ints_free _ _ _) (SubHr.no _ _)) nxb_inj (fun a ha => nxb_hi a ha) (fun a ha => absurd ha (Nat.not_lt_zero _))⟩
  · have k2 : ¬ s < 0 := k2
    have hst := minus_step a b i c (s) 0 (by rw [← hx, ← hy]; omega)
    rw [hst, ← bvI_snoc] at hT
    obtain ⟨Z, hZ⟩ : ∃ Z, Z = U ++ [s] := ⟨_, rfl⟩
    rw [← hZ] at hT
    have lZ : Z.length = U.length + 1 := by rw [hZ, List.length_append]; rfl
    have hZb : isB Z := by rw [hZ]; exact isB_snoc hUb (by omega)
    (repeat (first | refine K1 ?_ | refine K2 ?_ | refine K3 ?_ | refine K4 ?_ | refine K5 ?_ | refine K6 ?_ | refine K7 ?_ | refine L1 ?_ | refine L2 ?_ | refine L3 ?_ | refine RG.d ?_ | refine RG.dd ?_ | refine S1 ?_ | refine S2 ?_ | refine S3 ?_ | refine S4 ?_ | refine S5 ?_ | refine S7 ?_ | refine S8 ?_))
    refine RG.append tok rfl rfl rfl rfl rfl rfl rfl rfl (n1 := U.length) (c := ints .i64 U) (ks := [0]) rfl (m := 1) (ks' := [1]) rfl rfl (by omega) rfl (by omega) (by omega) rfl (c' := ints .i64 Z) (by rw [List.take_of_length_le (by omega), hZ, ints_append]; rfl) ?_
    rw [show U.length + 1 = Z.length by omega]
    (repeat (first | refine K1 ?_ | refine K2 ?_ | refine K3 ?_ | refine K4 ?_ | refine K5 ?_ | refine K6 ?_ | refine K7 ?_ | refine L1 ?_ | refine L2 ?_ | refine L3 ?_ | refine RG.d ?_ | refine RG.dd ?_ | refine S1 ?_ | refine S2 ?_ | refine S3 ?_ | refine S4 ?_ | refine S5 ?_ | refine S7 ?_ | refine S8 ?_))
    exact ⟨(i + 1, 0, Z), ⟨by dsimp only; omega, by dsimp only; omega, hZb, by dsimp only; omega, hT⟩, by dsimp only; omega, Sub.renB nxb (by repeat (first | exact SubEr.no _ _ | refine SubEr.put rfl ?_ | refine SubEr.put (show some (A.val (.int .i64 ((i : Int) + 1))) = some (i64 ((i + 1 : Nat) : Int)) from rfl) ?_)) (SubHr.put rfl (ints_free _ _ _) (SubHr.no _ _)) nxb_inj (fun a ha => nxb_hi a ha) (fun a ha => absurd ha (Nat.not_lt_zero _))⟩
end Go.Proofs.YtbhahgbdkgjliaaGreatDoor
