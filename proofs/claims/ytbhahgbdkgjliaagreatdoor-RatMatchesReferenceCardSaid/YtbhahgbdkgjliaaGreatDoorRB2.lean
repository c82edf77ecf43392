/- Sums, differences, products and quotients of lists of bits, step by step. No program. -/
import Derived.Test.YtbhahgbdkgjliaaGreatDoorRB1
set_option linter.unusedVariables false
set_option linter.unusedSimpArgs false
namespace Go.Proofs.YtbhahgbdkgjliaaGreatDoor
namespace Rb
theorem plus_step (a b : List Int) (i : Nat) (c s t : Int) (hs : gt a i + gt b i + c = s + 2 * t) : bz (a.drop i) + bz (b.drop i) + c = s + 2 * (bz (a.drop (i + 1)) + bz (b.drop (i + 1)) + t) := by
  have h1 := bv_drop a i; have h2 := bv_drop b i
  omega
theorem minus_step (a b : List Int) (i : Nat) (c s t : Int) (hs : gt a i - gt b i - c = s - 2 * t) : bz (a.drop i) - bz (b.drop i) - c = s + 2 * (bz (a.drop (i + 1)) - bz (b.drop (i + 1)) - t) := by
  have h1 := bv_drop a i; have h2 := bv_drop b i
  omega
theorem minus_end {out b : List Int} (ho : isB out) (hb : isB b) {c T : Int} (hc : 0 ≤ c) (hT : 0 ≤ T) (h : T = bvI out (0 - bz b - c)) : T = bz out := by
  have h1 := bv_nonneg hb
  by_cases h2 : bz b + c = 0
  · rw [h, show 0 - bz b - c = 0 by omega]; rfl
  · have := bvI_neg ho (x := 0 - bz b - c) (by omega)
    omega
theorem mul_step1 (s r : Int) : s * (1 + 2 * r) = s + (2 * s) * r := by
  rw [Int.mul_add, Int.mul_one, ← Int.mul_assoc, Int.mul_comm s 2]
theorem mul_step0 (s r : Int) : s * (0 + 2 * r) = (2 * s) * r := by
  rw [Int.zero_add, ← Int.mul_assoc, Int.mul_comm s 2]
theorem bv_zero_cons (l : List Int) : bz (0 :: l) = 2 * bz l := by show 0 + 2 * bz l = _; omega
theorem times_step {b : List Int} {i : Nat} (hi : i < b.length) (out out2 sh : List Int) (T : Int) (h : bz out + bz sh * bz (b.drop i) = T) (hb : (gt b i = 1 ∧ bz out2 = bz out + bz sh) ∨ (gt b i = 0 ∧ bz out2 = bz out)) :
    bz out2 + bz (0 :: sh) * bz (b.drop (i + 1)) = T := by
  rw [bv_zero_cons]
  rw [bv_drop b i] at h
  rcases hb with ⟨h1, h2⟩ | ⟨h1, h2⟩
  · rw [h1, mul_step1] at h
    rw [h2]; omega
  · rw [h1, mul_step0] at h
    rw [h2]; omega
theorem zeros_isB (n : Nat) : isB (List.replicate n 0) := fun x hx => .inl (List.eq_of_mem_replicate hx)
theorem bv_zeros : ∀ (n : Nat) (l : List Int), bz (List.replicate n 0 ++ l) = (2 ^ n : Nat) * bz l
  | 0, l => by simp
  | n + 1, l => by
    rw [List.replicate_succ, List.cons_append, bv_zero_cons, bv_zeros n l, Nat.pow_succ]
    rw [← Int.mul_assoc]
    congr 1
    omega
theorem zeros_set (i : Nat) (T : List Int) : (List.replicate (i + 1) 0 ++ T : List Int).set i 1 = List.replicate i 0 ++ 1 :: T := by
  rw [List.replicate_succ', List.append_assoc, List.set_append, if_neg (by simp)]
  simp
theorem zeros_skip (i : Nat) (T : List Int) : (List.replicate (i + 1) 0 ++ T : List Int) = List.replicate i 0 ++ 0 :: T := by
  rw [List.replicate_succ', List.append_assoc]; rfl
theorem div_step {a T : List Int} {i : Nat} {m r : Int} (h : bz (a.drop (i + 1)) = m * bz T + r) : bz (a.drop i) = m * bz (0 :: T) + (2 * r + gt a i) := by
  rw [bv_drop, h, bv_zero_cons, ← Int.mul_assoc, Int.mul_comm m 2, Int.mul_assoc]
  omega
theorem div_step1 {a T : List Int} {i : Nat} {m r : Int} (h : bz (a.drop (i + 1)) = m * bz T + r) : bz (a.drop i) = m * bz (1 :: T) + (2 * r + gt a i - m) := by
  rw [div_step h, bv_zero_cons]
  have : bz (1 :: T) = 1 + 2 * bz T := rfl
  rw [this, Int.mul_add, Int.mul_one]
  omega
theorem div_end {a T : List Int} {m r : Int} (hm : 0 < m) (h0 : 0 ≤ r) (h1 : r < m) (h : bz a = m * bz T + r) : bz T = bz a / m ∧ r = bz a % m := by
  rw [h]
  constructor
  · rw [Int.add_comm, Int.add_mul_ediv_left _ _ (by omega), Int.ediv_eq_zero_of_lt h0 h1, Int.zero_add]
  · rw [Int.add_comm, Int.add_mul_emod_self_left, Int.emod_eq_of_lt h0 h1]
theorem nv_mul {a b c : List Int} (ha : isB a) (hb : isB b) (hc : isB c) (h : bz c = bz a * bz b) : nv c = nv a * nv b := by
  have e1 := nv_eq ha; have e2 := nv_eq hb; have e3 := nv_eq hc
  have : (nv c : Int) = ((nv a * nv b : Nat) : Int) := by rw [e3, h, Int.natCast_mul, e1, e2]
  exact_mod_cast this
/-- The sign that a comparison tells. -/
theorem cm_pos {a b : Nat} : cm (a : Int) (b : Int) > 0 ↔ b < a := by unfold cm; split <;> (try split) <;> omega
theorem cm_ge {a b : Nat} : cm (a : Int) (b : Int) ≥ 0 ↔ b ≤ a := by unfold cm; split <;> (try split) <;> omega
end Rb
end Go.Proofs.YtbhahgbdkgjliaaGreatDoor
