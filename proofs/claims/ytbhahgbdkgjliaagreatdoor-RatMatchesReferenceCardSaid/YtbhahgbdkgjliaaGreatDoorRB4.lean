/- The reference's lists of bits: sums, differences, comparisons. No conditions. -/
import Derived.Test.YtbhahgbdkgjliaaGreatDoorRB3
set_option linter.unusedVariables false
set_option linter.unusedSimpArgs false
namespace Go.Proofs.YtbhahgbdkgjliaaGreatDoor
open Go.Abs Go Go.RowKit
set_option maxRecDepth 20000
open Rb
set_option maxHeartbeats 8000000 in
theorem bplus_fc (a b : List Int) (ha : isB a) (hb : isB b) (la : a.length ≤ 1000) (lb : b.length ≤ 1000) : FC Tryz.prog gi 56 [rdb a, rdb b] [] (rdb (bL (nv a + nv b))) [] NoP := by
  obtain ⟨W, hW⟩ : ∃ W, W = bL (nv a + nv b) := ⟨_, rfl⟩
  rw [← hW]
  refine FC.of_AW tok Tryz.func56 (by kernel_rfl) rfl Tryz.ntmps56 [] rfl rfl rfl ?_; intro w0 X0 Y f0 hI0 hX0
  (repeat (first | refine K1 ?_ | refine K2 ?_ | refine K3 ?_ | refine K4 ?_ | refine K5 ?_ | refine K6 ?_ | refine K7 ?_ | refine L1 ?_ | refine L2 ?_ | refine L3 ?_ | refine RG.d ?_ | refine RG.dd ?_ | refine S1 ?_ | refine S2 ?_ | refine S3 ?_ | refine S4 ?_ | refine S5 ?_ | refine S7 ?_ | refine S8 ?_))
  refine AW.loopS (fun p : Nat × Int × List Int => ⟨put 0 (some (rdb a)) (put 1 (some (rdb b)) (put 5 (some (.sl 0 [] 1 0 p.2.2.length)) (put 6 (some (i64 p.2.1)) (put 7 (some (i64 (p.1 : Int))) noE)))), hput 0 (.one (ints .i64 p.2.2)) noH, 1⟩)
    (fun p => p.1 ≤ max a.length b.length + 1 ∧ p.2.2.length = p.1 ∧ isB p.2.2 ∧ (p.2.1 = 0 ∨ p.2.1 = 1) ∧ (p.1 = max a.length b.length + 1 → p.2.1 = 0) ∧ bz a + bz b = bvI p.2.2 (bz (a.drop p.1) + bz (b.drop p.1) + p.2.1))
    (fun p => max a.length b.length + 1 - p.1) (0, 0, []) ⟨Nat.zero_le _, rfl, isB_nil, .inl rfl, fun _ => rfl, by show bz a + bz b = bz a + bz b + 0; omega⟩ (Sub.of (by repeat (first | exact SubE.no _ | refine SubE.put rfl ?_)) (by repeat (first | exact SubH.no _ | refine SubH.put rfl ?_)) rfl) ?_
  rintro ⟨i, c, U⟩ ⟨hi, hU, hUb, hc, hce, hT⟩
  dsimp only at hi hU hUb hc hce hT
  have lU := Go.Abs.ints_length .i64 U
  by_cases hend : i = max a.length b.length + 1
  · have h0 := hce hend
    have hT : bz a + bz b = bz U := by
      rw [hT, List.drop_eq_nil_of_le (show a.length ≤ i by omega), List.drop_eq_nil_of_le (show b.length ≤ i by omega), h0]; rfl
    have hN : nv U = nv a + nv b := by
      have e1 := nv_eq ha; have e2 := nv_eq hb; have e3 := nv_eq hUb
      omega
    have cc := bcut_fc U hUb (by omega)
    rw [hN, ← hW] at cc
    (repeat (first | refine K1 ?_ | refine K2 ?_ | refine K3 ?_ | refine K4 ?_ | refine K5 ?_ | refine K6 ?_ | refine K7 ?_ | refine L1 ?_ | refine L2 ?_ | refine L3 ?_ | refine RG.d ?_ | refine RG.dd ?_ | refine S1 ?_ | refine S2 ?_ | refine S3 ?_ | refine S4 ?_ | refine S5 ?_ | refine S7 ?_ | refine S8 ?_))
    refine RG.split 14 rfl (fun k => absurd (show (i : Int) ≤ (a.length : Int) from k) (by omega)) (fun _ => ?_)
    (repeat (first | refine K1 ?_ | refine K2 ?_ | refine K3 ?_ | refine K4 ?_ | refine K5 ?_ | refine K6 ?_ | refine K7 ?_ | refine L1 ?_ | refine L2 ?_ | refine L3 ?_ | refine RG.d ?_ | refine RG.dd ?_ | refine S1 ?_ | refine S2 ?_ | refine S3 ?_ | refine S4 ?_ | refine S5 ?_ | refine S7 ?_ | refine S8 ?_))
    refine AW.condD rfl (fun k => absurd (show (i : Int) ≤ (b.length : Int) from k) (by omega)) (fun _ => ?_)
    refine AW.sub (Sub.frz (ks := [0]) 5 rfl (frzI rfl (.head _) rfl)) ?_
    (repeat (first | refine K1 ?_ | refine K2 ?_ | refine K3 ?_ | refine K4 ?_ | refine K5 ?_ | refine K6 ?_ | refine K7 ?_ | refine L1 ?_ | refine L2 ?_ | refine L3 ?_ | refine RG.d ?_ | refine RG.dd ?_ | refine S1 ?_ | refine S2 ?_ | refine S3 ?_ | refine S4 ?_ | refine S5 ?_ | refine S7 ?_ | refine S8 ?_))
    refine RG.call rfl rfl rfl rfl (cc) [] rfl rfl rfl rfl (.nil _) (.nil _) (fun _ h => False.elim h) rfl (A.ren_free _ _ rfl) rfl ?_
    (repeat (first | refine K1 ?_ | refine K2 ?_ | refine K3 ?_ | refine K4 ?_ | refine K5 ?_ | refine K6 ?_ | refine K7 ?_ | refine L1 ?_ | refine L2 ?_ | refine L3 ?_ | refine RG.d ?_ | refine RG.dd ?_ | refine S1 ?_ | refine S2 ?_ | refine S3 ?_ | refine S4 ?_ | refine S5 ?_ | refine S6 ?_ | refine S7 ?_ | refine S8 ?_))
    exact ⟨⟨_, rfl, rfl⟩, rfl, .nil _⟩
  have ca := bat_fc a i
  have cb := bat_fc b i
  have ga := gt_bit ha i
  have gb := gt_bit hb i
  obtain ⟨x, hx⟩ : ∃ x, x = gt a i := ⟨_, rfl⟩
  obtain ⟨y, hy⟩ : ∃ x, x = gt b i := ⟨_, rfl⟩
  rw [← hx] at ca ga
  rw [← hy] at cb gb
  obtain ⟨s, hs⟩ : ∃ s : Nat, x + y + c = s := ⟨(x + y + c).toNat, by omega⟩
  have hst := plus_step a b i c ((s % 2 : Nat) : Int) ((s / 2 : Nat) : Int) (by rw [← hx, ← hy, hs]; omega)
  rw [hst, ← bvI_snoc] at hT
  obtain ⟨Z, hZ⟩ : ∃ Z, Z = U ++ [((s % 2 : Nat) : Int)] := ⟨_, rfl⟩
  rw [← hZ] at hT
  have lZ : Z.length = U.length + 1 := by rw [hZ, List.length_append]; rfl
  have hZb : isB Z := by rw [hZ]; exact isB_snoc hUb (by omega)
  have hc2 : ((s / 2 : Nat) : Int) = 0 ∨ ((s / 2 : Nat) : Int) = 1 := by omega
  have hce2 : i + 1 = max a.length b.length + 1 → ((s / 2 : Nat) : Int) = 0 := fun h => by
    have e1 : x = 0 := by
      rw [hx]; unfold gt
      rw [List.getD_eq_getElem?_getD, List.getElem?_eq_none (by omega)]; rfl
    have e2 : y = 0 := by
      rw [hy]; unfold gt
      rw [List.getD_eq_getElem?_getD, List.getElem?_eq_none (by omega)]; rfl
    omega
  by_cases h1 : i ≤ a.length
  · (repeat (first | refine K1 ?_ | refine K2 ?_ | refine K3 ?_ | refine K4 ?_ | refine K5 ?_ | refine K6 ?_ | refine K7 ?_ | refine L1 ?_ | refine L2 ?_ | refine L3 ?_ | refine RG.d ?_ | refine RG.dd ?_ | refine S1 ?_ | refine S2 ?_ | refine S3 ?_ | refine S4 ?_ | refine S5 ?_ | refine S7 ?_ | refine S8 ?_))
    refine RG.split 14 rfl (fun _ => ?_) (fun k => absurd (show (i : Int) ≤ (a.length : Int) by omega) k)
    (repeat (first | refine K1 ?_ | refine K2 ?_ | refine K3 ?_ | refine K4 ?_ | refine K5 ?_ | refine K6 ?_ | refine K7 ?_ | refine L1 ?_ | refine L2 ?_ | refine L3 ?_ | refine RG.d ?_ | refine RG.dd ?_ | refine S1 ?_ | refine S2 ?_ | refine S3 ?_ | refine S4 ?_ | refine S5 ?_ | refine S7 ?_ | refine S8 ?_))
    refine RG.call rfl rfl rfl rfl (ca) [] rfl rfl rfl rfl (.nil _) (.nil _) (fun _ h => False.elim h) rfl (A.ren_free _ _ rfl) rfl ?_
    (repeat (first | refine K1 ?_ | refine K2 ?_ | refine K3 ?_ | refine K4 ?_ | refine K5 ?_ | refine K6 ?_ | refine K7 ?_ | refine L1 ?_ | refine L2 ?_ | refine L3 ?_ | refine RG.d ?_ | refine RG.dd ?_ | refine S1 ?_ | refine S2 ?_ | refine S3 ?_ | refine S4 ?_ | refine S5 ?_ | refine S7 ?_ | refine S8 ?_))
    refine RG.call rfl rfl rfl rfl (cb) [] rfl rfl rfl rfl (.nil _) (.nil _) (fun _ h => False.elim h) rfl (A.ren_free _ _ rfl) rfl ?_
    iterate 3 ((first | refine K1 ?_ | refine K2 ?_ | refine K3 ?_ | refine K4 ?_ | refine K5 ?_ | refine K6 ?_ | refine K7 ?_ | refine L1 ?_ | refine L2 ?_ | refine L3 ?_))
    refine RG.put 30 rfl (v' := i64 (s : Int)) (congrArg i64 (show IntKind.i64.wrap (x + y + c) = (s : Int) by rw [hs]; exact wrap_i64 (by omega))) ?_
    (repeat (first | refine K1 ?_ | refine K2 ?_ | refine K3 ?_ | refine K4 ?_ | refine K5 ?_ | refine K6 ?_ | refine K7 ?_ | refine L1 ?_ | refine L2 ?_ | refine L3 ?_ | refine RG.d ?_ | refine RG.dd ?_ | refine S1 ?_ | refine S2 ?_ | refine S3 ?_ | refine S4 ?_ | refine S5 ?_ | refine S7 ?_ | refine S8 ?_))
    refine RG.append tok rfl rfl rfl rfl rfl rfl rfl rfl (n1 := U.length) (c := ints .i64 U) (ks := [0]) rfl (m := 1) (ks' := [1]) rfl rfl (by omega) rfl (by omega) (by omega) rfl (c' := ints .i64 Z) (by rw [List.take_of_length_le (by omega), hZ, ints_append]; rfl) ?_
    rw [show U.length + 1 = Z.length by omega]
    (repeat (first | refine K1 ?_ | refine K2 ?_ | refine K3 ?_ | refine K4 ?_ | refine K5 ?_ | refine K6 ?_ | refine K7 ?_ | refine L1 ?_ | refine L2 ?_ | refine L3 ?_ | refine RG.d ?_ | refine RG.dd ?_ | refine S1 ?_ | refine S2 ?_ | refine S3 ?_ | refine S4 ?_ | refine S5 ?_ | refine S7 ?_ | refine S8 ?_))
    exact ⟨(i + 1, ((s / 2 : Nat) : Int), Z), ⟨by dsimp only; omega, by dsimp only; omega, hZb, hc2, hce2, hT⟩, by dsimp only; omega, Sub.renB nxb (by repeat (first | exact SubEr.no _ _ | refine SubEr.put rfl ?_ | refine SubEr.put (show some (A.val (.int .i64 (IntKind.i64.wrap ((s : Int).tdiv (2 : Nat))))) = some (i64 ((s / 2 : Nat) : Int)) by rw [quoB s 2 (by omega)]) ?_ | refine SubEr.put (show some (A.val (.int .i64 ((i : Int) + 1))) = some (i64 ((i + 1 : Nat) : Int)) from rfl) ?_)) (SubHr.put rfl (ints_free _ _ _) (SubHr.no _ _)) nxb_inj (fun a ha => nxb_hi a ha) (fun a ha => absurd ha (Nat.not_lt_zero _))⟩
  · have h2 : i ≤ b.length := by omega
    (repeat (first | refine K1 ?_ | refine K2 ?_ | refine K3 ?_ | refine K4 ?_ | refine K5 ?_ | refine K6 ?_ | refine K7 ?_ | refine L1 ?_ | refine L2 ?_ | refine L3 ?_ | refine RG.d ?_ | refine RG.dd ?_ | refine S1 ?_ | refine S2 ?_ | refine S3 ?_ | refine S4 ?_ | refine S5 ?_ | refine S7 ?_ | refine S8 ?_))
    refine RG.split 14 rfl (fun k => absurd (show (i : Int) ≤ (a.length : Int) from k) (by omega)) (fun _ => ?_)
    (repeat (first | refine K1 ?_ | refine K2 ?_ | refine K3 ?_ | refine K4 ?_ | refine K5 ?_ | refine K6 ?_ | refine K7 ?_ | refine L1 ?_ | refine L2 ?_ | refine L3 ?_ | refine RG.d ?_ | refine RG.dd ?_ | refine S1 ?_ | refine S2 ?_ | refine S3 ?_ | refine S4 ?_ | refine S5 ?_ | refine S7 ?_ | refine S8 ?_))
    refine AW.condD rfl (fun _ => ?_) (fun k => absurd (show (i : Int) ≤ (b.length : Int) by omega) k)
    (repeat (first | refine K1 ?_ | refine K2 ?_ | refine K3 ?_ | refine K4 ?_ | refine K5 ?_ | refine K6 ?_ | refine K7 ?_ | refine L1 ?_ | refine L2 ?_ | refine L3 ?_ | refine RG.d ?_ | refine RG.dd ?_ | refine S1 ?_ | refine S2 ?_ | refine S3 ?_ | refine S4 ?_ | refine S5 ?_ | refine S7 ?_ | refine S8 ?_))
    refine RG.call rfl rfl rfl rfl (ca) [] rfl rfl rfl rfl (.nil _) (.nil _) (fun _ h => False.elim h) rfl (A.ren_free _ _ rfl) rfl ?_
    (repeat (first | refine K1 ?_ | refine K2 ?_ | refine K3 ?_ | refine K4 ?_ | refine K5 ?_ | refine K6 ?_ | refine K7 ?_ | refine L1 ?_ | refine L2 ?_ | refine L3 ?_ | refine RG.d ?_ | refine RG.dd ?_ | refine S1 ?_ | refine S2 ?_ | refine S3 ?_ | refine S4 ?_ | refine S5 ?_ | refine S7 ?_ | refine S8 ?_))
    refine RG.call rfl rfl rfl rfl (cb) [] rfl rfl rfl rfl (.nil _) (.nil _) (fun _ h => False.elim h) rfl (A.ren_free _ _ rfl) rfl ?_
    iterate 3 ((first | refine K1 ?_ | refine K2 ?_ | refine K3 ?_ | refine K4 ?_ | refine K5 ?_ | refine K6 ?_ | refine K7 ?_ | refine L1 ?_ | refine L2 ?_ | refine L3 ?_))
    refine RG.put 30 rfl (v' := i64 (s : Int)) (congrArg i64 (show IntKind.i64.wrap (x + y + c) = (s : Int) by rw [hs]; exact wrap_i64 (by omega))) ?_
    (repeat (first | refine K1 ?_ | refine K2 ?_ | refine K3 ?_ | refine K4 ?_ | refine K5 ?_ | refine K6 ?_ | refine K7 ?_ | refine L1 ?_ | refine L2 ?_ | refine L3 ?_ | refine RG.d ?_ | refine RG.dd ?_ | refine S1 ?_ | refine S2 ?_ | refine S3 ?_ | refine S4 ?_ | refine S5 ?_ | refine S7 ?_ | refine S8 ?_))
    refine RG.append tok rfl rfl rfl rfl rfl rfl rfl rfl (n1 := U.length) (c := ints .i64 U) (ks := [0]) rfl (m := 1) (ks' := [1]) rfl rfl (by omega) rfl (by omega) (by omega) rfl (c' := ints .i64 Z) (by rw [List.take_of_length_le (by omega), hZ, ints_append]; rfl) ?_
    rw [show U.length + 1 = Z.length by omega]
    (repeat (first | refine K1 ?_ | refine K2 ?_ | refine K3 ?_ | refine K4 ?_ | refine K5 ?_ | refine K6 ?_ | refine K7 ?_ | refine L1 ?_ | refine L2 ?_ | refine L3 ?_ | refine RG.d ?_ | refine RG.dd ?_ | refine S1 ?_ | refine S2 ?_ | refine S3 ?_ | refine S4 ?_ | refine S5 ?_ | refine S7 ?_ | refine S8 ?_))
    exact ⟨(i + 1, ((s / 2 : Nat) : Int), Z), ⟨by dsimp only; omega, by dsimp only; omega, hZb, hc2, hce2, hT⟩, by dsimp only; omega, Sub.renB nxb (by repeat (first | exact SubEr.no _ _ | refine SubEr.put rfl ?_ | refine SubEr.put (show some (A.val (.int .i64 (IntKind.i64.wrap ((s : Int).tdiv (2 : Nat))))) = some (i64 ((s / 2 : Nat) : Int)) by rw [quoB s 2 (by omega)]) ?_ | refine SubEr.put (show some (A.val (.int .i64 ((i : Int) + 1))) = some (i64 ((i + 1 : Nat) : Int)) from rfl) ?_)) (SubHr.put rfl (ints_free _ _ _) (SubHr.no _ _)) nxb_inj (fun a ha => nxb_hi a ha) (fun a ha => absurd ha (Nat.not_lt_zero _))⟩
end Go.Proofs.YtbhahgbdkgjliaaGreatDoor
