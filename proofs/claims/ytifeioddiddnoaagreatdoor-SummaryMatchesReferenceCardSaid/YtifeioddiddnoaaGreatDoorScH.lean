/- Summaries are joined. No conditions. -/
import Derived.Test.YtifeioddiddnoaaGreatDoorScG
import Derived.Test.YtifeioddiddnoaaGreatDoorScEp
import Derived.Test.YtifeioddiddnoaaGreatDoorShelf
set_option linter.unusedVariables false
set_option linter.unusedSimpArgs false
namespace Go.Proofs.YtifeioddiddnoaaGreatDoor
open Go.Abs Go Go.RowKit
set_option maxRecDepth 20000
theorem insR_len' (l : List Pr) : (isort l).length = l.length := by rw [← sorted_all, List.length_reverse, sorted_len l _ (Nat.le_refl _)]
theorem isort_mem (l : List Pr) (z : Pr) (h : z ∈ isort l) : z ∈ l := by
  rw [← sorted_all, List.mem_reverse] at h
  exact sorted_mem l z _ (Nat.le_refl _) h
theorem len_ex (n : Nat) (hn : n ≤ 1000) : ∃ lim : Int, FC Tryz.prog ge 101 [.val (.int .u64 (n : Int))] [] (i64 lim) [] NoP := by
  refine ⟨(Lib.bitLen n : Int), FC.of_calls (enter_of Tryz.func101 rfl rfl) fun w vs _ hv => ?_⟩
  · obtain ⟨a, rfl, e1⟩ := VL1 hv
    rw [e1.val]
    refine (Tryz.bits_Len (n : Int) w (by omega) (by omega)).mono ?_
    rintro e w' ⟨rfl, rfl⟩
    exact ⟨rfl, Below.refl _ _⟩
theorem flP_noRo : ∀ l : List Pr, noRoL (flC Pr.cl l) = true
  | [] => rfl
  | x :: l => noRoL_append (a := x.cl) rfl (flP_noRo l)
theorem flP_nop {M : List Pr} (i : Nat) (rg : Reg) (p : List Nat) (c : List A) (h1 : [Reg.one (flC Pr.cl M)][i]? = some rg) (h2 : rg.get p = some c) : noRoL c = true := by
  cases i with
  | succ i => simp at h1
  | zero =>
    simp only [List.getElem?_cons_zero, Option.some.injEq] at h1
    subst h1
    cases p with
    | cons _ _ => simp [Reg.get] at h2
    | nil =>
      simp only [Reg.get, Option.some.injEq] at h2
      subst h2; exact flP_noRo M
set_option maxHeartbeats 8000000 in
theorem merge_fc (a b : List Pr) (hl : a.length + b.length ≤ 12) (ba : ∀ x, x ∈ a → x.bd) (bb : ∀ x, x ∈ b → x.bd) : FC Tryz.prog ge 42 [rdP a, rdP b, .fn 38 [] []] [] (rdP (mrg a b)) [] NoP := by
  have hbd : ∀ x, x ∈ a ++ b → x.bd := fun x hx => (List.mem_append.1 hx).elim (ba x) (bb x)
  have cC := concat_fc a b (by omega) (by omega)
  have hL : (a ++ b).length = a.length + b.length := List.length_append
  obtain ⟨lim, hlim⟩ := len_ex (a ++ b).length (by omega)
  have cS := sortF_fc (a ++ b) (by omega) hbd lim hlim
  have cK := compact_fc (isort (a ++ b)) (by rw [insR_len']; omega) (fun x hx => hbd x (isort_mem _ _ hx))
  rw [insR_len', hL] at cK
  rw [hL] at cS
  unfold mrg
  obtain ⟨R, hR⟩ : ∃ R, R = compactP (isort (a ++ b)) := ⟨_, rfl⟩
  rw [← hR] at cK ⊢
  obtain ⟨S, hS⟩ : ∃ R, R = isort (a ++ b) := ⟨_, rfl⟩
  rw [← hS] at cK cS
  obtain ⟨L, hLL⟩ : ∃ R, R = a ++ b := ⟨_, rfl⟩
  rw [← hLL] at cC cS
  clear hlim hLL hS
  refine FC.of_AW tok Tryz.func42 (by kernel_rfl) rfl Tryz.ntmps42 [] rfl rfl rfl ?_; intro w0 X0 Y f0 hI0 hX0
  (repeat (first | refine K4 ?_ | refine L2 ?_ | refine RG.d ?_ | refine S1 ?_ | refine S2 ?_))
  refine RG.callB rfl rfl rfl rfl (cC) [] [1] rfl rfl (.cons (View.sl (p := []) rfl (by decide) (by decide) rfl rfl) .nil) rfl rfl rfl flP_nop (.nil _) (.cons (.free (flC_free Pr.cl_free _)) (.nil _)) (fun _ h => False.elim h) rfl rfl rfl ?_
  (repeat (first | refine K4 ?_ | refine L1 ?_ | refine RG.d ?_ | refine S1 ?_ | refine S2 ?_))
  refine RG.call rfl rfl rfl rfl (cS) [2] rfl rfl rfl rfl (.cons rfl (.free (flC_free Pr.cl_free _)) (Reg.lt_one (flC_free (fun _ => rfl) _)) ⟨[], _, rfl⟩ (.nil _)) (.cons (.free (flC_free Pr.cl_free _)) (.nil _)) (fun _ h => False.elim h) rfl rfl rfl ?_
  (repeat (first | refine K4 ?_ | refine RG.d ?_ | refine S1 ?_ | refine S2 ?_))
  refine RG.call rfl rfl rfl rfl (cK) [2, 0] rfl rfl rfl rfl (.cons rfl (.free (flC_free Pr.cl_free _)) (Reg.lt_one (flC_free (fun _ => rfl) _)) ⟨[], _, rfl⟩ (.cons rfl (.one rfl) (Reg.lt_one rfl) ⟨[], _, rfl⟩ (.nil _))) (.cons (.free (flC_free Pr.cl_free _)) (.cons (.one rfl) (.nil _))) (fun _ h => False.elim h) rfl rfl rfl ?_
  (repeat (first | refine K4 ?_ | refine RG.d ?_))
  refine AW.sub (Sub.frz (ks := [2]) 6 rfl (frzC (st := 3) rfl (.head _) (flC_len Pr.cl_len R) (flC_free Pr.cl_free R))) ?_
  refine S6 ?_
  exact ⟨⟨_, rfl, rfl⟩, rfl, .nil _⟩
theorem prOf_bd : ∀ k, k < 64 → ∀ x, x ∈ prOf k → x.bd := by
  intro k _ x hx
  unfold prOf at hx
  rw [List.mem_filterMap] at hx
  obtain ⟨i, hi, h⟩ := hx
  have hi : i < 6 := by simpa using hi
  split at h
  · have : ∀ i, i < 6 → ∀ x, prAll[i]? = some x → (0 ≤ x.a ∧ x.a ≤ 2) ∧ (0 ≤ x.b ∧ x.b ≤ 2) := by
      intro i hi x hx
      match i, hi with
      | 0, _ => cases hx; decide
      | 1, _ => cases hx; decide
      | 2, _ => cases hx; decide
      | 3, _ => cases hx; decide
      | 4, _ => cases hx; decide
      | 5, _ => cases hx; decide
    have := this i hi x h
    exact ⟨by omega, by omega, by omega, by omega⟩
  · cases h
theorem ior_nat (a b : Nat) : ior (a : Int) (b : Int) = ((a ||| b : Nat) : Int) := by unfold ior; simp
theorem or_nat {a b : Nat} (ha : a < 4294967296) (hb : b < 4294967296) : IntKind.i64.wrap ((BitVec.ofInt 64 (a : Int) ||| BitVec.ofInt 64 (b : Int)).toNat : Nat) = ((a ||| b : Nat) : Int) := by
  rw [or_i64 ⟨by omega, by omega⟩ ⟨by omega, by omega⟩, ior_nat]
theorem and_nat {a b : Nat} (ha : a < 4294967296) (hb : b < 4294967296) : IntKind.i64.wrap ((BitVec.ofInt 64 (a : Int) &&& BitVec.ofInt 64 (b : Int)).toNat : Nat) = ((a &&& b : Nat) : Int) := by
  have e : (BitVec.ofInt 64 (a : Int) &&& BitVec.ofInt 64 (b : Int)).toNat = a &&& b := by
    rw [BitVec.toNat_and, BitVec.toNat_ofInt, BitVec.toNat_ofInt]
    congr 1 <;> omega
  rw [e]
  have : a &&& b ≤ a := Nat.and_le_left
  exact wrap_i64 ⟨by omega, by omega⟩
theorem max_int (a b : Nat) : (if (a : Int) < (b : Int) then (b : Int) else (a : Int)) = ((max a b : Nat) : Int) := by split <;> omega
set_option maxHeartbeats 8000000 in
theorem join_fc (m n : Nm) (hm : m.ok) (hn : n.ok) : FC Tryz.prog ge 14 [.agg m.sy.cl, .agg n.sy.cl] [] (.agg (m.join n).sy.cl) [] NoP := by
  have l1 := prOf_len m.k
  have l2 := prOf_len n.k
  have cJ := sjoin_fc m.t n.t hm.t hn.t
  have cM := merge_fc (prOf m.k) (prOf n.k) (by omega) (prOf_bd _ hm.k) (prOf_bd _ hn.k)
  rw [mrg_or hm.k hn.k] at cM
  have eT := or_nat (and_lt hm.T (by decide)) (and_lt hn.T (by decide))
  have eL := or_nat (and_lt hm.L (by decide)) (and_lt hn.L (by decide))
  have eO := and_nat (and_lt hm.O (by decide)) (and_lt hn.O (by decide))
  have eC := max_int m.c n.c
  obtain ⟨t, T, L, O, k, c⟩ := m
  obtain ⟨t', T', L', O', k', c'⟩ := n
  unfold Nm.join Nm.sy
  dsimp only at eT eL eO eC cJ cM ⊢
  obtain ⟨J, hJ⟩ : ∃ J, J = nf (t.join t') := ⟨_, rfl⟩
  obtain ⟨u, hu⟩ : ∃ J, J = nf t := ⟨_, rfl⟩
  obtain ⟨v, hv⟩ : ∃ J, J = nf t' := ⟨_, rfl⟩
  obtain ⟨p1, hp1⟩ : ∃ J, J = prOf k := ⟨_, rfl⟩
  obtain ⟨p2, hp2⟩ : ∃ J, J = prOf k' := ⟨_, rfl⟩
  obtain ⟨p3, hp3⟩ : ∃ J, J = prOf (k ||| k') := ⟨_, rfl⟩
  rw [← hJ, ← hu, ← hv] at cJ
  rw [← hp1, ← hp2, ← hp3] at cM
  rw [← hJ, ← hu, ← hv, ← hp1, ← hp2, ← hp3]
  obtain ⟨Tx, hTx⟩ : ∃ J, J = (((T ||| T' : Nat)) : Int) := ⟨_, rfl⟩
  obtain ⟨Lx, hLx⟩ : ∃ J, J = (((L ||| L' : Nat)) : Int) := ⟨_, rfl⟩
  obtain ⟨Ox, hOx⟩ : ∃ J, J = (((O &&& O' : Nat)) : Int) := ⟨_, rfl⟩
  obtain ⟨Cx, hCx⟩ : ∃ J, J = (((max c c' : Nat)) : Int) := ⟨_, rfl⟩
  rw [← hTx] at eT ⊢
  rw [← hLx] at eL ⊢
  rw [← hOx] at eO ⊢
  rw [← hCx] at eC ⊢
  clear hTx hLx hOx hCx hJ hu hv hp1 hp2 hp3
  obtain ⟨u1, u2, u3, u4, u5⟩ := u
  obtain ⟨v1, v2, v3, v4, v5⟩ := v
  obtain ⟨J1, J2, J3, J4, J5⟩ := J
  simp only [Sy.cl, Ab.cl] at cJ ⊢
  refine FC.of_AW tok Tryz.func14 (by kernel_rfl) rfl Tryz.ntmps14 [] rfl rfl rfl ?_; intro w0 X0 Y f0 hI0 hX0
  (repeat (first | refine RG.call rfl rfl rfl rfl (cJ) [] rfl rfl rfl rfl (.nil _) (.nil _) (fun _ h => False.elim h) rfl (A.ren_free _ _ rfl) rfl ?_ | refine RG.call rfl rfl rfl rfl (cM) [] rfl rfl rfl rfl (.nil _) (.nil _) (fun _ h => False.elim h) rfl (A.ren_free _ _ rfl) rfl ?_ | refine K4 ?_ | refine L1 ?_ | refine L2 ?_ | refine L3 ?_ | refine RG.d ?_ | refine RG.dd ?_ | refine S1 ?_ | refine S2 ?_))
  refine S6 ?_
  exact ⟨⟨_, rfl, agS eT eL eO eC⟩, rfl, .nil _⟩
end Go.Proofs.YtifeioddiddnoaaGreatDoor
