/- The reference's lists of bits: products, quotients, what fits. No conditions. -/
import Derived.Test.YtbhahgbdkgjliaaGreatDoorRB5
set_option linter.unusedVariables false
set_option linter.unusedSimpArgs false
namespace Go.Proofs.YtbhahgbdkgjliaaGreatDoor
open Go.Abs Go Go.RowKit
set_option maxRecDepth 20000
open Rb
theorem i64s_cell (l : List Int) : (ints .i64 l).all A.cell = true := by
  rw [List.all_eq_true]
  intro x hx
  unfold ints at hx
  rw [List.mem_map] at hx
  obtain ⟨n, _, rfl⟩ := hx
  rfl
theorem rep_zero : ∀ n : Nat, rep n [i64 0] = ints .i64 (List.replicate n 0)
  | 0 => rfl
  | n + 1 => by
    rw [List.replicate_succ]
    show [i64 0] ++ rep n [i64 0] = i64 0 :: ints .i64 (List.replicate n 0)
    rw [rep_zero n]; rfl
set_option maxHeartbeats 8000000 in
theorem btimes_fc (a b : List Int) (ha : isB a) (hb : isB b) (la : a.length ≤ 200) (lb : b.length ≤ 200) : FC Tryz.prog gi 40 [rdb a, rdb b] [] (rdb (bL (nv a * nv b))) [] NoP := by
  obtain ⟨W, hW⟩ : ∃ W, W = bL (nv a * nv b) := ⟨_, rfl⟩
  rw [← hW]
  refine FC.of_AW tok Tryz.func40 (by kernel_rfl) rfl Tryz.ntmps40 [] rfl rfl rfl ?_; intro w0 X0 Y f0 hI0 hX0
  (repeat (first | refine K1 ?_ | refine K2 ?_ | refine K3 ?_ | refine K4 ?_ | refine K5 ?_ | refine K6 ?_ | refine K7 ?_ | refine L1 ?_ | refine L2 ?_ | refine L3 ?_ | refine RG.d ?_ | refine RG.dd ?_ | refine S1 ?_ | refine S2 ?_ | refine S3 ?_ | refine S4 ?_ | refine S5 ?_ | refine S7 ?_ | refine S8 ?_))
  refine RG.append (c' := ints .i64 a) tok rfl rfl rfl rfl rfl rfl rfl rfl rfl rfl (cut_len a) (by decide) (i64s_cell a) (by omega) (by omega) rfl rfl ?_
  refine RG.put 11 rfl (v' := .sl 2 [] 1 0 a.length) (congrArg (A.sl 2 [] 1 0) (Nat.zero_add _)) ?_
  (repeat (first | refine K1 ?_ | refine K2 ?_ | refine K3 ?_ | refine K4 ?_ | refine K5 ?_ | refine K6 ?_ | refine K7 ?_ | refine L1 ?_ | refine L2 ?_ | refine L3 ?_ | refine RG.d ?_ | refine RG.dd ?_ | refine S1 ?_ | refine S2 ?_ | refine S3 ?_ | refine S4 ?_ | refine S5 ?_ | refine S7 ?_ | refine S8 ?_))
  refine AW.sub (Sub.frz (ks := [2]) 6 rfl (frzI rfl (.head _) rfl)) ?_
  refine AW.sub (Sub.frz (ks := [0]) 5 rfl (frzI (kk := .i64) (xs := []) rfl (.head _) rfl)) ?_
  refine AW.loopS (fun p : Nat × List Int × List Int => ⟨put 0 (some (rdb a)) (put 1 (some (rdb b)) (put 5 (some (rdb p.2.1)) (put 6 (some (rdb p.2.2)) (put 7 (some (i64 (p.1 : Int))) noE)))), noH, 0⟩)
    (fun p => p.1 ≤ b.length ∧ isB p.2.1 ∧ isB p.2.2 ∧ p.2.1.length ≤ a.length + p.1 ∧ p.2.2.length = a.length + p.1 ∧ bz p.2.1 + bz p.2.2 * bz (b.drop p.1) = bz a * bz b ∧ p.2.1 = bL (nv p.2.1)) (fun p => b.length - p.1) (0, [], a) ⟨Nat.zero_le _, isB_nil, ha, Nat.zero_le _, rfl, by show 0 + bz a * bz b = _; omega, by show [] = bL 0; rw [bL_zero]⟩ (Sub.down (by repeat (first | exact SubE.no _ | refine SubE.put rfl ?_)) (by repeat (first | exact SubH.no _ | refine SubH.put rfl ?_)) (by repeat (first | exact LtE.no _ | refine LtE.put rfl ?_)) (by repeat (first | exact LtH.no _ | refine LtH.put rfl rfl ?_)) rfl) ?_
  rintro ⟨i, U, H⟩ ⟨hi, hUb, hHb, hUl, hHl, hT, hUc⟩
  dsimp only at hi hUb hHb hUl hHl hT hUc
  (repeat (first | refine K1 ?_ | refine K2 ?_ | refine K3 ?_ | refine K4 ?_ | refine K5 ?_ | refine K6 ?_ | refine K7 ?_ | refine L1 ?_ | refine L2 ?_ | refine L3 ?_ | refine RG.d ?_ | refine RG.dd ?_ | refine S1 ?_ | refine S2 ?_ | refine S3 ?_ | refine S4 ?_ | refine S5 ?_ | refine S7 ?_ | refine S8 ?_))
  refine AW.condD rfl (fun k => ?_) (fun k => ?_)
  rotate_left
  · have k : ¬ (i : Int) < (b.length : Int) := k
    rw [List.drop_eq_nil_of_le (by omega)] at hT
    have hT : bz U = bz a * bz b := by
      have : bz U + bz H * 0 = bz a * bz b := hT
      rw [Int.mul_zero] at this
      omega
    have e : U = W := by rw [hUc, nv_mul ha hb hUb hT, ← hW]
    rw [e]
    (repeat (first | refine K1 ?_ | refine K2 ?_ | refine K3 ?_ | refine K4 ?_ | refine K5 ?_ | refine K6 ?_ | refine K7 ?_ | refine L1 ?_ | refine L2 ?_ | refine L3 ?_ | refine RG.d ?_ | refine RG.dd ?_ | refine S1 ?_ | refine S2 ?_ | refine S3 ?_ | refine S4 ?_ | refine S5 ?_ | refine S6 ?_ | refine S7 ?_ | refine S8 ?_))
    exact ⟨⟨_, rfl, rfl⟩, rfl, .nil _⟩
  have k : (i : Int) < (b.length : Int) := k
  have gb := gt_bit hb i
  have hst := fun (out2 : List Int) (h : (gt b i = 1 ∧ bz out2 = bz U + bz H) ∨ (gt b i = 0 ∧ bz out2 = bz U)) => times_step (by omega) U out2 H _ hT h
  have hat := ints_cut b i (gt b i) (gt_some (by omega)) .i64
  obtain ⟨y, hy⟩ : ∃ x, x = gt b i := ⟨_, rfl⟩
  rw [← hy] at gb hat hst
  have hH2 : isB (0 :: H) := isB_mk (.inl rfl) hHb
  (repeat (first | refine K1 ?_ | refine K2 ?_ | refine K3 ?_ | refine K4 ?_ | refine K5 ?_ | refine K6 ?_ | refine K7 ?_ | refine L1 ?_ | refine L2 ?_ | refine L3 ?_ | refine RG.d ?_ | refine RG.dd ?_ | refine S1 ?_ | refine S2 ?_ | refine S3 ?_ | refine S4 ?_ | refine S5 ?_ | refine S7 ?_ | refine S8 ?_))
  refine AW.condD rfl (fun k2 => ?_) (fun k2 => ?_)
  · have k2 : y = 1 := by rw [hy]; exact k2
    have cp := bplus_fc U H hUb hHb (by omega) (by omega)
    obtain ⟨V, hVd⟩ : ∃ V, V = bL (nv U + nv H) := ⟨_, rfl⟩
    rw [← hVd] at cp
    have hV : isB V := by rw [hVd]; exact bL_isB _
    have hVv : bz V = bz U + bz H := by
      rw [hVd, bv_bL, Int.natCast_add, nv_eq hUb, nv_eq hHb]
    have hVc : V = bL (nv V) := by rw [hVd, nv_bL]
    have hVl : V.length ≤ a.length + (i + 1) := by
      rw [hVd]
      refine bL_len _ _ ?_
      have e1 := nv_lt hUb
      have e2 := nv_lt hHb
      have e3 : 2 ^ U.length ≤ 2 ^ (a.length + i) := Nat.pow_le_pow_right (by decide) hUl
      have e4 : 2 ^ H.length = 2 ^ (a.length + i) := by rw [hHl]
      have e5 : 2 ^ (a.length + (i + 1)) = 2 ^ (a.length + i) * 2 := by rw [← Nat.add_assoc, Nat.pow_succ]
      omega
    have hT2 := hst V (.inl ⟨k2, hVv⟩)
    (repeat (first | refine K1 ?_ | refine K2 ?_ | refine K3 ?_ | refine K4 ?_ | refine K5 ?_ | refine K6 ?_ | refine K7 ?_ | refine L1 ?_ | refine L2 ?_ | refine L3 ?_ | refine RG.d ?_ | refine RG.dd ?_ | refine S1 ?_ | refine S2 ?_ | refine S3 ?_ | refine S4 ?_ | refine S5 ?_ | refine S7 ?_ | refine S8 ?_))
    refine RG.call rfl rfl rfl rfl (cp) [] rfl rfl rfl rfl (.nil _) (.nil _) (fun _ h => False.elim h) rfl (A.ren_free _ _ rfl) rfl ?_
    (repeat (first | refine K1 ?_ | refine K2 ?_ | refine K3 ?_ | refine K4 ?_ | refine K5 ?_ | refine K6 ?_ | refine K7 ?_ | refine L1 ?_ | refine L2 ?_ | refine L3 ?_ | refine RG.d ?_ | refine RG.dd ?_ | refine S1 ?_ | refine S2 ?_ | refine S3 ?_ | refine S4 ?_ | refine S5 ?_ | refine S7 ?_ | refine S8 ?_))
    refine RG.append (c' := ints .i64 (0 :: H)) (m := H.length) tok rfl rfl rfl rfl rfl rfl rfl rfl rfl rfl (cut_len H) (by decide) (i64s_cell H) (by omega) (by omega) rfl rfl ?_
    refine RG.put 28 rfl (v' := .sl 1 [] 1 0 (0 :: H).length) (congrArg (A.sl 1 [] 1 0) (Nat.add_comm 1 _)) ?_
    (repeat (first | refine K1 ?_ | refine K2 ?_ | refine K3 ?_ | refine K4 ?_ | refine K5 ?_ | refine K6 ?_ | refine K7 ?_ | refine L1 ?_ | refine L2 ?_ | refine L3 ?_ | refine RG.d ?_ | refine RG.dd ?_ | refine S2 ?_ | refine S3 ?_ | refine S4 ?_ | refine S5 ?_ | refine S7 ?_ | refine S8 ?_))
    exact ⟨(i + 1, V, 0 :: H), ⟨by dsimp only; omega, hV, hH2, hVl, by show H.length + 1 = _; omega, hT2, hVc⟩, by dsimp only; omega, Sub.trans (Sub.frz (ks := [1]) 6 rfl (frzI (kk := .i64) (xs := 0 :: H) rfl (.head _) rfl)) (Sub.down (by repeat (first | exact SubE.no _ | refine SubE.put rfl ?_ | refine SubE.put (show some (A.val (.int .i64 ((i : Int) + 1))) = some (i64 ((i + 1 : Nat) : Int)) from rfl) ?_)) (by repeat (first | exact SubH.no _ | refine SubH.put rfl ?_)) (by repeat (first | exact LtE.no _ | refine LtE.put rfl ?_)) (by repeat (first | exact LtH.no _ | refine LtH.put rfl rfl ?_)) rfl)⟩
  · have k2 : y = 0 := by
      rcases gb with h | h
      · exact h
      · exact absurd (show gt b i = 1 by rw [← hy]; exact h) k2
    have hT2 := hst U (.inr ⟨k2, rfl⟩)
    have hV := hUb
    have hVc := hUc
    have hVl : U.length ≤ a.length + (i + 1) := by omega
    (repeat (first | refine K1 ?_ | refine K2 ?_ | refine K3 ?_ | refine K4 ?_ | refine K5 ?_ | refine K6 ?_ | refine K7 ?_ | refine L1 ?_ | refine L2 ?_ | refine L3 ?_ | refine RG.d ?_ | refine RG.dd ?_ | refine S1 ?_ | refine S2 ?_ | refine S3 ?_ | refine S4 ?_ | refine S5 ?_ | refine S7 ?_ | refine S8 ?_))
    refine RG.append (c' := ints .i64 (0 :: H)) (m := H.length) tok rfl rfl rfl rfl rfl rfl rfl rfl rfl rfl (cut_len H) (by decide) (i64s_cell H) (by omega) (by omega) rfl rfl ?_
    refine RG.put 28 rfl (v' := .sl 1 [] 1 0 (0 :: H).length) (congrArg (A.sl 1 [] 1 0) (Nat.add_comm 1 _)) ?_
    (repeat (first | refine K1 ?_ | refine K2 ?_ | refine K3 ?_ | refine K4 ?_ | refine K5 ?_ | refine K6 ?_ | refine K7 ?_ | refine L1 ?_ | refine L2 ?_ | refine L3 ?_ | refine RG.d ?_ | refine RG.dd ?_ | refine S2 ?_ | refine S3 ?_ | refine S4 ?_ | refine S5 ?_ | refine S7 ?_ | refine S8 ?_))
    exact ⟨(i + 1, U, 0 :: H), ⟨by dsimp only; omega, hV, hH2, hVl, by show H.length + 1 = _; omega, hT2, hVc⟩, by dsimp only; omega, Sub.trans (Sub.frz (ks := [1]) 6 rfl (frzI (kk := .i64) (xs := 0 :: H) rfl (.head _) rfl)) (Sub.down (by repeat (first | exact SubE.no _ | refine SubE.put rfl ?_ | refine SubE.put (show some (A.val (.int .i64 ((i : Int) + 1))) = some (i64 ((i + 1 : Nat) : Int)) from rfl) ?_)) (by repeat (first | exact SubH.no _ | refine SubH.put rfl ?_)) (by repeat (first | exact LtE.no _ | refine LtE.put rfl ?_)) (by repeat (first | exact LtH.no _ | refine LtH.put rfl rfl ?_)) rfl)⟩
end Go.Proofs.YtbhahgbdkgjliaaGreatDoor
