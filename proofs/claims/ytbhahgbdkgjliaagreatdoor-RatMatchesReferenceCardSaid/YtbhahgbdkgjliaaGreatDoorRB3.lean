/- The reference's lists of bits: bits, at, cut. No conditions. -/
import Derived.Test.YtbhahgbdkgjliaaGreatDoorR1
import Derived.Test.YtbhahgbdkgjliaaGreatDoorRB2
import Derived.Test.YtbhahgbdkgjliaaGreatDoorAbsE
import Derived.Test.YtbhahgbdkgjliaaGreatDoorAbsD
set_option linter.unusedVariables false
set_option linter.unusedSimpArgs false
namespace Go.Proofs.YtbhahgbdkgjliaaGreatDoor
open Go.Abs Go Go.RowKit
set_option maxRecDepth 20000
open Rb
theorem quoB (x y : Nat) (h : x < 9223372036854775808) : IntKind.i64.wrap ((x : Int).tdiv (y : Int)) = ((x / y : Nat) : Int) := by
  have hk : x / y ≤ x := Nat.div_le_self _ _
  rw [show ((x : Int).tdiv (y : Int)) = ((x / y : Nat) : Int) from rfl]
  obtain ⟨k, hk'⟩ : ∃ k, k = x / y := ⟨_, rfl⟩
  rw [← hk'] at hk ⊢
  rw [wrap_i64 (by omega)]
abbrev rdb (l : List Int) : A := .ro l.length (ints .i64 l)
theorem ints_append (k : IntKind) (a b : List Int) : ints k (a ++ b) = ints k a ++ ints k b := by simp [ints]
theorem ints_cut (xs : List Int) (i : Nat) (x : Int) (h : xs[i]? = some x) (k : IntKind) : dropO (iNat (i : Int) * 1) (ints k xs) = some (.val (.int k x) :: ints k (xs.drop (i + 1))) := by
  have hi := (List.getElem?_eq_some_iff.1 h).1
  have := Go.Abs.ints_at (k := k) hi
  rw [List.getD_eq_getElem?_getD, h] at this
  exact this
theorem ints_tk (l : List Int) (k : Nat) : (ints .i64 l).take (k * 1) = ints .i64 (l.take k) := by
  rw [Nat.mul_one]; unfold ints; rw [List.map_take]
theorem cut_ro {l W : List Int} {k : Nat} (hk : k ≤ l.length) (e : l.take k = W) : some (A.ro (iNat (k : Int)) ((ints .i64 l).take (iNat (k : Int) * 1))) = some (A.ro W.length (ints .i64 W)) := by
  show some (A.ro k ((ints .i64 l).take (k * 1))) = _
  rw [ints_tk, e, ← e, List.length_take, Nat.min_eq_left hk]
theorem cut_len (l : List Int) : (ints .i64 l).length = l.length * 1 := by rw [ints_length]; omega
theorem gt_some {l : List Int} {i : Nat} (h : i < l.length) : l[i]? = some (Rb.gt l i) := by
  unfold Rb.gt
  rw [List.getD_eq_getElem?_getD, List.getElem?_eq_getElem h]; rfl
def nxb (k : Nat) : Nat := k + 2
theorem nxb_inj : ∀ a b, nxb a = nxb b → a = b := by intro a b h; unfold nxb at h; omega
theorem nxb_hi (a : Nat) (ha : 1 ≤ a) : 3 ≤ nxb a := by unfold nxb; omega
set_option maxHeartbeats 4000000 in
theorem bits_fc (n : Nat) (hn : n ≤ 9223372036854775807) : FC Tryz.prog gi 41 [i64 (n : Int)] [] (rdb (bL n)) [] NoP := by
  obtain ⟨W, hW⟩ : ∃ W, W = bL n := ⟨_, rfl⟩
  have hlen : W.length ≤ 63 := by rw [hW]; exact bL_len 63 n (by omega)
  rw [← hW]
  refine FC.of_AW tok Tryz.func41 (by kernel_rfl) rfl Tryz.ntmps41 [] rfl rfl rfl ?_; intro w0 X0 Y f0 hI0 hX0
  (repeat (first | refine K1 ?_ | refine K2 ?_ | refine K3 ?_ | refine K4 ?_ | refine K5 ?_ | refine K6 ?_ | refine K7 ?_ | refine L1 ?_ | refine L2 ?_ | refine L3 ?_ | refine RG.d ?_ | refine RG.dd ?_ | refine S1 ?_ | refine S2 ?_ | refine S3 ?_ | refine S4 ?_ | refine S5 ?_ | refine S7 ?_ | refine S8 ?_))
  refine AW.loopS (fun p : Nat × List Int => ⟨put 0 (some (i64 (p.1 : Int))) (put 3 (some (.sl 0 [] 1 0 p.2.length)) noE), hput 0 (.one (ints .i64 p.2)) noH, 1⟩) (fun p => W = p.2 ++ bL p.1 ∧ p.1 ≤ 9223372036854775807) (fun p => p.1) (n, []) ⟨by rw [hW]; rfl, hn⟩ (Sub.of (by repeat (first | exact SubE.no _ | refine SubE.put rfl ?_)) (by repeat (first | exact SubH.no _ | refine SubH.put rfl ?_)) rfl) ?_
  rintro ⟨m, U⟩ ⟨h1, hm⟩
  dsimp only at h1 hm
  have lU := Go.Abs.ints_length .i64 U
  (repeat (first | refine K1 ?_ | refine K2 ?_ | refine K3 ?_ | refine K4 ?_ | refine K5 ?_ | refine K6 ?_ | refine K7 ?_ | refine L1 ?_ | refine L2 ?_ | refine L3 ?_ | refine RG.d ?_ | refine RG.dd ?_ | refine S1 ?_ | refine S2 ?_ | refine S3 ?_ | refine S4 ?_ | refine S5 ?_ | refine S7 ?_ | refine S8 ?_))
  refine AW.condD rfl (fun k => ?_) (fun k => ?_)
  rotate_left
  · have hm0 : m = 0 := by
      have : ¬ (0 : Int) < (m : Int) := k
      omega
    rw [hm0, bL_zero, List.append_nil] at h1
    subst h1
    refine AW.sub (Sub.frz (ks := [0]) 3 rfl (frzI rfl (.head _) rfl)) ?_
    (repeat (first | refine K1 ?_ | refine K2 ?_ | refine K3 ?_ | refine K4 ?_ | refine K5 ?_ | refine K6 ?_ | refine K7 ?_ | refine L1 ?_ | refine L2 ?_ | refine L3 ?_ | refine RG.d ?_ | refine RG.dd ?_ | refine S1 ?_ | refine S2 ?_ | refine S3 ?_ | refine S4 ?_ | refine S5 ?_ | refine S6 ?_ | refine S7 ?_ | refine S8 ?_))
    exact ⟨⟨_, rfl, rfl⟩, rfl, .nil _⟩
  have k : (0 : Int) < (m : Int) := k
  rw [bL_pos (by omega)] at h1
  obtain ⟨Z, hZ⟩ : ∃ Z, Z = U ++ [((m % 2 : Nat) : Int)] := ⟨_, rfl⟩
  have h2 : W = Z ++ bL (m / 2) := by rw [h1, hZ, List.append_assoc]; rfl
  have lZ : Z.length = U.length + 1 := by rw [hZ, List.length_append]; rfl
  have l3 : U.length + 1 ≤ 63 := by
    have := congrArg List.length h2
    rw [List.length_append] at this
    omega
  (repeat (first | refine K1 ?_ | refine K2 ?_ | refine K3 ?_ | refine K4 ?_ | refine K5 ?_ | refine K6 ?_ | refine K7 ?_ | refine L1 ?_ | refine L2 ?_ | refine L3 ?_ | refine RG.d ?_ | refine RG.dd ?_ | refine S1 ?_ | refine S2 ?_ | refine S3 ?_ | refine S4 ?_ | refine S5 ?_ | refine S7 ?_ | refine S8 ?_))
  refine RG.append tok rfl rfl rfl rfl rfl rfl rfl rfl (n1 := U.length) (c := ints .i64 U) (ks := [0]) rfl (m := 1) (ks' := [1]) rfl rfl (by omega) rfl (by omega) (by omega) rfl (c' := ints .i64 Z) (by rw [List.take_of_length_le (by omega), hZ, ints_append]; rfl) ?_
  rw [show U.length + 1 = Z.length by omega]
  (repeat (first | refine K1 ?_ | refine K2 ?_ | refine K3 ?_ | refine K4 ?_ | refine K5 ?_ | refine K6 ?_ | refine K7 ?_ | refine L1 ?_ | refine L2 ?_ | refine L3 ?_ | refine RG.d ?_ | refine RG.dd ?_ | refine S1 ?_ | refine S2 ?_ | refine S3 ?_ | refine S4 ?_ | refine S5 ?_ | refine S7 ?_ | refine S8 ?_))
  exact ⟨(m / 2, Z), ⟨h2, by dsimp only; omega⟩, by show m / 2 < m; omega, Sub.renB nxb (by repeat (first | exact SubEr.no _ _ | refine SubEr.put rfl ?_ | refine SubEr.put (show some (A.val (.int .i64 (IntKind.i64.wrap ((m : Int).tdiv (2 : Nat))))) = some (i64 ((m / 2 : Nat) : Int)) by rw [quoB m 2 (by omega)]) ?_)) (SubHr.put rfl (ints_free _ _ _) (SubHr.no _ _)) nxb_inj (fun a ha => nxb_hi a ha) (fun a ha => absurd ha (Nat.not_lt_zero _))⟩
theorem bat_fc (l : List Int) (i : Nat) : FC Tryz.prog gi 70 [rdb l, i64 (i : Int)] [] (i64 (gt l i)) [] NoP := by
  obtain ⟨R, hR⟩ : ∃ R, R = gt l i := ⟨_, rfl⟩
  rw [← hR]
  refine FC.of_AW tok Tryz.func70 (by kernel_rfl) rfl Tryz.ntmps70 [] rfl rfl rfl ?_; intro w0 X0 Y f0 hI0 hX0
  (repeat (first | refine K1 ?_ | refine K2 ?_ | refine K3 ?_ | refine K4 ?_ | refine K5 ?_ | refine K6 ?_ | refine K7 ?_ | refine L1 ?_ | refine L2 ?_ | refine L3 ?_ | refine RG.d ?_ | refine RG.dd ?_ | refine S1 ?_ | refine S2 ?_ | refine S3 ?_ | refine S4 ?_ | refine S5 ?_ | refine S7 ?_ | refine S8 ?_))
  refine AW.condD rfl (fun k => ?_) (fun k => ?_)
  · have k : (i : Int) < (l.length : Int) := k
    subst hR
    (repeat (first | refine K1 ?_ | refine K2 ?_ | refine K3 ?_ | refine K4 ?_ | refine K5 ?_ | refine K6 ?_ | refine K7 ?_ | refine L1 ?_ | refine L2 ?_ | refine L3 ?_ | refine RG.d ?_ | refine RG.dd ?_ | refine S1 ?_ | refine S2 ?_ | refine S3 ?_ | refine S4 ?_ | refine S5 ?_ | refine S6 ?_ | refine S7 ?_ | refine S8 ?_))
    exact ⟨⟨_, rfl, rfl⟩, rfl, .nil _⟩
  · have k : ¬ (i : Int) < (l.length : Int) := k
    have e : R = 0 := by
      rw [hR]; unfold gt
      rw [List.getD_eq_getElem?_getD, List.getElem?_eq_none (by omega)]; rfl
    subst e
    (repeat (first | refine K1 ?_ | refine K2 ?_ | refine K3 ?_ | refine K4 ?_ | refine K5 ?_ | refine K6 ?_ | refine K7 ?_ | refine L1 ?_ | refine L2 ?_ | refine L3 ?_ | refine RG.d ?_ | refine RG.dd ?_ | refine S1 ?_ | refine S2 ?_ | refine S3 ?_ | refine S4 ?_ | refine S5 ?_ | refine S6 ?_ | refine S7 ?_ | refine S8 ?_))
    exact ⟨⟨_, rfl, rfl⟩, rfl, .nil _⟩
theorem btake_canon {l : List Int} (h : isB l) {k : Nat} (hk : k ≤ l.length) (hv : bz (l.take k) = bz l) (hl : k = 0 ∨ gt l (k - 1) ≠ 0) : l.take k = bL (nv l) := by
  have h1 := isB_take h k
  have e : nv (l.take k) = nv l := by unfold nv; rw [hv]
  rw [← e]
  refine canon h1 ?_
  rcases hl with rfl | hl
  · exact .inl (by simp)
  · rcases Nat.eq_zero_or_pos k with rfl | h0
    · exact .inl (by simp)
    · refine .inr ?_
      have hb := gt_bit h (k - 1)
      have hg : l[k - 1]? = some 1 := by
        have : gt l (k - 1) = 1 := by omega
        unfold gt at this
        rw [List.getD_eq_getElem?_getD, List.getElem?_eq_getElem (by omega)] at this
        rw [List.getElem?_eq_getElem (by omega)]
        exact congrArg some this
      rw [List.getLast?_eq_getElem?, List.length_take, Nat.min_eq_left hk, List.getElem?_take]
      rw [if_pos (by omega)]
      exact hg
theorem btake_zero {l : List Int} {k : Nat} (hk : k + 1 ≤ l.length) (h0 : gt l k = 0) (hv : bz (l.take (k + 1)) = bz l) : bz (l.take k) = bz l := by
  rw [← hv, List.take_add_one, show l[k]? = some 0 by
    unfold gt at h0
    rw [List.getD_eq_getElem?_getD, List.getElem?_eq_getElem (by omega)] at h0
    rw [List.getElem?_eq_getElem (by omega)]
    exact congrArg some h0]
  show bz _ = bvI (l.take k ++ [0]) 0
  rw [bvI_snoc]; rfl
set_option maxHeartbeats 4000000 in
theorem bcut_fc (l : List Int) (h : isB l) (hl : l.length ≤ 100000) : FC Tryz.prog gi 59 [rdb l] [] (rdb (bL (nv l))) [] NoP := by
  obtain ⟨W, hW⟩ : ∃ W, W = bL (nv l) := ⟨_, rfl⟩
  rw [← hW]
  refine FC.of_AW tok Tryz.func59 (by kernel_rfl) rfl Tryz.ntmps59 [] rfl rfl rfl ?_; intro w0 X0 Y f0 hI0 hX0
  (repeat (first | refine K1 ?_ | refine K2 ?_ | refine K3 ?_ | refine K4 ?_ | refine K5 ?_ | refine K6 ?_ | refine K7 ?_ | refine L1 ?_ | refine L2 ?_ | refine L3 ?_ | refine RG.d ?_ | refine RG.dd ?_ | refine S1 ?_ | refine S2 ?_ | refine S3 ?_ | refine S4 ?_ | refine S5 ?_ | refine S7 ?_ | refine S8 ?_))
  refine AW.loopS (fun k : Nat => ⟨put 0 (some (rdb l)) (put 3 (some (i64 (k : Int))) noE), noH, 0⟩) (fun k => k ≤ l.length ∧ bz (l.take k) = bz l) (fun k => k) l.length ⟨Nat.le_refl _, by rw [List.take_length]⟩ (Sub.of (by repeat (first | exact SubE.no _ | refine SubE.put rfl ?_)) (by repeat (first | exact SubH.no _ | refine SubH.put rfl ?_)) rfl) ?_
  rintro k ⟨hk, hv⟩
  cases k with
  | zero =>
    have e : l.take 0 = W := by rw [hW]; exact btake_canon h hk hv (.inl rfl)
    (repeat (first | refine K1 ?_ | refine K2 ?_ | refine K3 ?_ | refine K4 ?_ | refine K5 ?_ | refine K6 ?_ | refine K7 ?_ | refine L1 ?_ | refine L2 ?_ | refine L3 ?_ | refine RG.d ?_ | refine RG.dd ?_ | refine S1 ?_ | refine S2 ?_ | refine S3 ?_ | refine S4 ?_ | refine S5 ?_ | refine S7 ?_ | refine S8 ?_))
    refine RG.split 8 rfl (fun h => absurd (show ((0 : Nat) : Int) > 0 from h) (by omega)) (fun _ => ?_)
    (repeat (first | refine K1 ?_ | refine K2 ?_ | refine K3 ?_ | refine K4 ?_ | refine K5 ?_ | refine K6 ?_ | refine K7 ?_ | refine L1 ?_ | refine L2 ?_ | refine L3 ?_ | refine RG.d ?_ | refine RG.dd ?_ | refine S1 ?_ | refine S2 ?_ | refine S3 ?_ | refine S4 ?_ | refine S5 ?_ | refine S7 ?_ | refine S8 ?_))
    refine RG.val tok rfl rfl rfl (show 0 ≤ ((0 : Nat) : Int) ∧ ((0 : Nat) : Int) ≤ (l.length : Int) ∧ (ints .i64 l).length = l.length * 1 from ⟨by omega, by omega, cut_len l⟩) rfl (cut_ro hk e) ?_
    (repeat (first | refine K1 ?_ | refine K2 ?_ | refine K3 ?_ | refine K4 ?_ | refine K5 ?_ | refine K6 ?_ | refine K7 ?_ | refine L1 ?_ | refine L2 ?_ | refine L3 ?_ | refine RG.d ?_ | refine RG.dd ?_ | refine S1 ?_ | refine S2 ?_ | refine S3 ?_ | refine S4 ?_ | refine S5 ?_ | refine S6 ?_ | refine S7 ?_ | refine S8 ?_))
    exact ⟨⟨_, rfl, rfl⟩, rfl, .nil _⟩
  | succ j =>
    have hat := ints_cut l j (gt l j) (gt_some (by omega)) .i64
    obtain ⟨x, hx⟩ : ∃ x, x = gt l j := ⟨_, rfl⟩
    rw [← hx] at hat
    (repeat (first | refine K1 ?_ | refine K2 ?_ | refine K3 ?_ | refine K4 ?_ | refine K5 ?_ | refine K6 ?_ | refine K7 ?_ | refine L1 ?_ | refine L2 ?_ | refine L3 ?_ | refine RG.d ?_ | refine RG.dd ?_ | refine S1 ?_ | refine S2 ?_ | refine S3 ?_ | refine S4 ?_ | refine S5 ?_ | refine S7 ?_ | refine S8 ?_))
    refine RG.split 8 rfl (fun _ => ?_) (fun h => absurd (show ((j + 1 : Nat) : Int) > 0 by omega) h)
    (repeat (first | refine K1 ?_ | refine K2 ?_ | refine K3 ?_ | refine K4 ?_ | refine K5 ?_ | refine K6 ?_ | refine K7 ?_ | refine L1 ?_ | refine L2 ?_ | refine L3 ?_ | refine RG.d ?_ | refine RG.dd ?_ | refine S1 ?_ | refine S2 ?_ | refine S3 ?_ | refine S4 ?_ | refine S5 ?_ | refine S7 ?_ | refine S8 ?_))
    refine RG.put 11 rfl (v' := i64 (j : Int)) (congrArg i64 (show ((j + 1 : Nat) : Int) - 1 = (j : Int) by omega)) ?_
    refine RG.idx tok rfl rfl rfl rfl rfl rfl hat ⟨by omega, by omega⟩ rfl ?_
    (repeat (first | refine K1 ?_ | refine K2 ?_ | refine K3 ?_ | refine K4 ?_ | refine K5 ?_ | refine K6 ?_ | refine K7 ?_ | refine L1 ?_ | refine L2 ?_ | refine L3 ?_ | refine RG.d ?_ | refine RG.dd ?_ | refine S1 ?_ | refine S2 ?_ | refine S3 ?_ | refine S4 ?_ | refine S5 ?_ | refine S7 ?_ | refine S8 ?_))
    refine AW.condD rfl (fun k2 => ?_) (fun k2 => ?_)
    · have k2 : x = 0 := k2
      (repeat (first | refine K1 ?_ | refine K2 ?_ | refine K3 ?_ | refine K4 ?_ | refine K5 ?_ | refine K6 ?_ | refine K7 ?_ | refine L1 ?_ | refine L2 ?_ | refine L3 ?_ | refine RG.d ?_ | refine RG.dd ?_ | refine S1 ?_ | refine S2 ?_ | refine S3 ?_ | refine S4 ?_ | refine S5 ?_ | refine S7 ?_ | refine S8 ?_))
      exact ⟨j, ⟨by omega, btake_zero hk (by rw [← hx, k2]) hv⟩, by omega, Sub.of (by repeat (first | exact SubE.no _ | refine SubE.put rfl ?_ | refine SubE.put (show some (A.val (.int .i64 (((j + 1 : Nat) : Int) - 1))) = some (i64 (j : Int)) by rw [show ((j + 1 : Nat) : Int) - 1 = (j : Int) by omega]) ?_)) (by repeat (first | exact SubH.no _ | refine SubH.put rfl ?_)) rfl⟩
    · have k2 : ¬ x = 0 := k2
      have e : l.take (j + 1) = W := by rw [hW]; exact btake_canon h hk hv (.inr (by rw [Nat.add_sub_cancel, ← hx]; exact k2))
      (repeat (first | refine K1 ?_ | refine K2 ?_ | refine K3 ?_ | refine K4 ?_ | refine K5 ?_ | refine K6 ?_ | refine K7 ?_ | refine L1 ?_ | refine L2 ?_ | refine L3 ?_ | refine RG.d ?_ | refine RG.dd ?_ | refine S1 ?_ | refine S2 ?_ | refine S3 ?_ | refine S4 ?_ | refine S5 ?_ | refine S7 ?_ | refine S8 ?_))
      refine RG.val tok rfl rfl rfl (show 0 ≤ ((j + 1 : Nat) : Int) ∧ ((j + 1 : Nat) : Int) ≤ (l.length : Int) ∧ (ints .i64 l).length = l.length * 1 from ⟨by omega, by omega, cut_len l⟩) rfl (cut_ro hk e) ?_
      (repeat (first | refine K1 ?_ | refine K2 ?_ | refine K3 ?_ | refine K4 ?_ | refine K5 ?_ | refine K6 ?_ | refine K7 ?_ | refine L1 ?_ | refine L2 ?_ | refine L3 ?_ | refine RG.d ?_ | refine RG.dd ?_ | refine S1 ?_ | refine S2 ?_ | refine S3 ?_ | refine S4 ?_ | refine S5 ?_ | refine S6 ?_ | refine S7 ?_ | refine S8 ?_))
      exact ⟨⟨_, rfl, rfl⟩, rfl, .nil _⟩
end Go.Proofs.YtbhahgbdkgjliaaGreatDoor
