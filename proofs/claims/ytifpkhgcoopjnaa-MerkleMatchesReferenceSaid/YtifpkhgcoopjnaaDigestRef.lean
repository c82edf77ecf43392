/- What the reference's functions of the digest on single words and lists compute: the same as the program's. No conditions. -/
import Derived.Test.YtifpkhgcoopjnaaDigestLists
namespace Go.Proofs.Ytifpkhgcoopjnaa
open Go.RowKit

namespace Dg
/-- k rounds of unshifted. -/
def unsh (y : BitVec 64) (n : Nat) : Nat → BitVec 64
  | 0 => y
  | k + 1 => y ^^^ unsh y n k >>> n
theorem unsh32 (y : BitVec 64) : unsh y 32 64 = y ^^^ y >>> 32 := by
  have key : ∀ k, 1 ≤ k → unsh y 32 k = y ^^^ y >>> 32 := by
    intro k
    induction k with
    | zero => omega
    | succ k ih =>
      intro _
      by_cases h : k = 0
      · subst h; rfl
      · show y ^^^ unsh y 32 k >>> 32 = _
        rw [ih (by omega), sh_xor, sh_sh, sh_zero y (32 + 32) (by omega), xor_zero]
  exact key 64 (by omega)
theorem unsh29 (y : BitVec 64) : unsh y 29 64 = y ^^^ (y >>> 29 ^^^ y >>> 58) := by
  have key : ∀ k, 2 ≤ k → unsh y 29 k = y ^^^ (y >>> 29 ^^^ y >>> 58) := by
    intro k
    induction k with
    | zero => omega
    | succ k ih =>
      intro _
      by_cases h : k = 1
      · subst h
        show y ^^^ (y ^^^ y >>> 29) >>> 29 = _
        rw [sh_xor, sh_sh]
      · show y ^^^ unsh y 29 k >>> 29 = _
        rw [ih (by omega), sh_xor, sh_xor, sh_sh, sh_sh, sh_zero y (58 + 29) (by omega), xor_zero]
  exact key 64 (by omega)
/-- k rounds of the reference's inverse. -/
def invBit (a : BitVec 64) : Nat → BitVec 64
  | 0 => 0#64
  | k + 1 =>
    let out := invBit a k
    if ((out * a) >>> k &&& 1#64) ≠ (if k = 0 then 1#64 else 0#64) then out ||| 1#64 * B (2 ^ k) else out
theorem invBitA : invBit mulA 64 = inverse mulA := by decide +kernel
theorem invBitB : invBit mulB 64 = inverse mulB := by decide +kernel
end Dg

set_option maxHeartbeats 400000 in
theorem rstep_any (h v : Int) (w : World) :
    Calls Try.prog 27 #[.int .u64 h, .int .u64 v] w fun e w' => e = .returned (.int .u64 (I (Dg.step (B h) (B v)))) ∧ w = w' := by
  go_enter Try.func27, Try.ntmps27
  go_wp2
  go_ret
  refine ⟨?_, rfl⟩
  show Ending.returned (.int .u64 _) = Ending.returned (.int .u64 _)
  have h1 : ∀ x : BitVec 64, I x / (536870912 : Int) = I (x >>> 29) := fun x => I_div x 29
  have h2 : ∀ x : BitVec 64, I x / (4294967296 : Int) = I (x >>> 32) := fun x => I_div x 32
  have hA : B 11400714819323198485 = Dg.mulA := by decide +kernel
  have hB : B 13787848793156543929 = Dg.mulB := by decide +kernel
  simp only [xor_u64, wrap_u64, B_I, B_mul, h1, h2, hA, hB]
  rfl

set_option maxHeartbeats 400000 in
theorem rjoin_any (a b : Int) (w : World) :
    Calls Try.prog 26 #[.int .u64 a, .int .u64 b] w fun e w' => e = .returned (.int .u64 (I (Dg.join (B a) (B b)))) ∧ w = w' := by
  go_enter Try.func26, Try.ntmps26
  go_wp2_with (go_at_call 27; refine (rstep_any _ _ _).mono ?_; rintro e w' ⟨rfl, rfl⟩)
  go_ret
  refine ⟨?_, rfl⟩
  show Ending.returned (.int .u64 _) = Ending.returned (.int .u64 _)
  simp only [B_I]
  rfl

theorem I_shr (x : BitVec 64) (k : Nat) : I x / 2 ^ k = I (x >>> k) := by rw [← I_div]; simp

set_option maxHeartbeats 400000 in
theorem unsh_any (y : Int) (n : Nat) (hn : n < 64) (w : World) (hy : U y) :
    Calls Try.prog 44 #[.int .u64 y, .int .i64 n] w fun e w' => e = .returned (.int .u64 (I (Dg.unsh (B y) n 64))) ∧ w = w' := by
  obtain ⟨y, rfl⟩ := hy
  go_enter Try.func44, Try.ntmps44
  go_wp2
  go_loop [5, 6] (fun x i => ∃ k : Nat, k ≤ 64 ∧ i = .int .i64 k ∧ x = .int .u64 (I (Dg.unsh y n k))) (fun _ i => 64 - (intOf i).toNat)
  case atStart => exact ⟨0, by omega, rfl, rfl⟩
  case round =>
    obtain ⟨k, hk, rfl, rfl⟩ := hrel
    by_cases hlt : k < 64
    · go_wp2
      refine ⟨⟨k + 1, by omega, by go_num, ?_⟩, by simp [intOf]; omega⟩
      rw [I_shr, xor_u64, B_I, B_I]; rfl
    · go_wp2
      go_ret
      obtain rfl : k = 64 := by omega
      exact ⟨by rw [B_I]; rfl, rfl⟩

theorem inv_form (a : Int) (k : Nat) : bits .and .u64 (IntKind.u64.wrap (I (Dg.invBit (B a) k) * a) / 2 ^ k) 1 = I ((Dg.invBit (B a) k * B a) >>> k &&& 1#64) := by
  have h1 : B 1 = 1#64 := by decide +kernel
  rw [wrap_u64, B_mul, B_I, I_shr, and_u64, B_I, h1]
theorem inv_c (k : Nat) (c : Int) (h : c = if k = 0 then 1 else 0) : c = I (if k = 0 then 1#64 else 0#64) := by
  rw [h]; split <;> decide +kernel
theorem inv_yes (a : Int) (k : Nat) (c : Int) (hc : c = if k = 0 then 1 else 0) (h : (bits .and .u64 (IntKind.u64.wrap (I (Dg.invBit (B a) k) * a) / 2 ^ k) 1 != c) = true) :
    Value.int .u64 (bits .or .u64 (I (Dg.invBit (B a) k)) (IntKind.u64.wrap (2 ^ k))) = .int .u64 (I (Dg.invBit (B a) (k + 1))) := by
  rw [inv_form, inv_c k c hc, I_bne, bne_iff_ne] at h
  have e : Dg.invBit (B a) (k + 1) = Dg.invBit (B a) k ||| 1#64 * B (2 ^ k) := by
    show (if _ then _ else _) = _
    rw [if_pos h]
  rw [e, or_u64, wrap_u64, B_I, B_I, BitVec.one_mul]
theorem inv_no (a : Int) (k : Nat) (c : Int) (hc : c = if k = 0 then 1 else 0) (h : (bits .and .u64 (IntKind.u64.wrap (I (Dg.invBit (B a) k) * a) / 2 ^ k) 1 != c) = false) :
    Value.int .u64 (I (Dg.invBit (B a) k)) = .int .u64 (I (Dg.invBit (B a) (k + 1))) := by
  rw [inv_form, inv_c k c hc, I_bne] at h
  have h' : (Dg.invBit (B a) k * B a) >>> k &&& 1#64 = if k = 0 then 1#64 else 0#64 := by simpa using h
  have e : Dg.invBit (B a) (k + 1) = Dg.invBit (B a) k := by
    show (if _ then _ else _) = _
    rw [if_neg (by rw [h']; simp)]
  rw [e]

set_option maxHeartbeats 400000 in
theorem rinv_any (a : Int) (w : World) :
    Calls Try.prog 45 #[.int .u64 a] w fun e w' => e = .returned (.int .u64 (I (Dg.invBit (B a) 64))) ∧ w = w' := by
  go_enter Try.func45, Try.ntmps45
  go_wp2
  go_loop [3, 4] (fun x i => ∃ k : Nat, k ≤ 64 ∧ i = .int .i64 k ∧ x = .int .u64 (I (Dg.invBit (B a) k))) (fun _ i => 64 - (intOf i).toNat)
  case atStart => exact ⟨0, by omega, rfl, rfl⟩
  case round =>
    obtain ⟨k, hk, rfl, rfl⟩ := hrel
    by_cases hlt : k < 64
    · by_cases h0 : k = 0
      · subst h0
        go_wp2
        · exact ⟨⟨1, by omega, by go_num, inv_yes a 0 1 rfl (by rw [show (2 : Int) ^ 0 = 1 from rfl, Int.ediv_one]; assumption)⟩, by simp [intOf]⟩
        · exact ⟨⟨1, by omega, by go_num, inv_no a 0 1 rfl (by rw [show (2 : Int) ^ 0 = 1 from rfl, Int.ediv_one]; assumption)⟩, by simp [intOf]⟩
      · have hk0 : ((k : Int) == 0) = false := by rw [beq_eq_false_iff_ne]; omega
        go_wp2
        · exact ⟨⟨k + 1, by omega, by go_num, inv_yes a k 0 (by rw [if_neg h0]) (by assumption)⟩, by simp [intOf]; omega⟩
        · exact ⟨⟨k + 1, by omega, by go_num, inv_no a k 0 (by rw [if_neg h0]) (by assumption)⟩, by simp [intOf]; omega⟩
    · go_wp2
      go_ret
      obtain rfl : k = 64 := by omega
      exact ⟨rfl, rfl⟩

set_option maxHeartbeats 400000 in
theorem rback_any (h x : Int) (w : World) (hx : U x) :
    Calls Try.prog 28 #[.int .u64 h, .int .u64 x] w fun e w' => e = .returned (.int .u64 (I (Dg.back (B h) (B x)))) ∧ w = w' := by
  obtain ⟨x, rfl⟩ := hx
  have hA : B 11400714819323198485 = Dg.mulA := by decide +kernel
  have hB : B 13787848793156543929 = Dg.mulB := by decide +kernel
  have c1 := hid (fun w => unsh_any (I x) 32 (by omega) w (U_I _))
  have c2 := hid (fun w => hB ▸ rinv_any 13787848793156543929 w)
  have c4 := hid (fun w => hA ▸ rinv_any 11400714819323198485 w)
  clear hA hB
  go_enter Try.func28, Try.ntmps28
  go_wp2_with fail
  refine (c1.out _).mono ?_
  rintro e w' ⟨rfl, rfl⟩
  go_wp2_with fail
  refine (c2.out _).mono ?_
  rintro e w' ⟨rfl, rfl⟩
  go_wp2_with fail
  refine (unsh_any _ 29 (by omega) _ ?_).mono ?_
  · rw [wrap_u64]; exact U_I _
  rintro e w' ⟨rfl, rfl⟩
  go_wp2_with fail
  refine (c4.out _).mono ?_
  rintro e w' ⟨rfl, rfl⟩
  go_wp2_with fail
  go_ret
  refine ⟨?_, rfl⟩
  show Ending.returned (.int .u64 _) = Ending.returned (.int .u64 _)
  simp only [xor_u64, wrap_u64, B_I, B_mul, Dg.unsh32, Dg.unsh29, Dg.invBitA, Dg.invBitB]
  rfl

set_option maxRecDepth 100000 in
set_option maxHeartbeats 400000 in
theorem rwords_any (v : Value) (xs : List Int) (w : World) (hs : Sl .i64 w v xs) :
    Calls Try.prog 24 #[v] w fun e w' => e = .returned (.int .u64 (I (Dg.words xs))) ∧ w = w' := by
  obtain ⟨a, cap, rfl, hcap, hmax, _, hne⟩ := hs
  unfold maxLen at hmax
  have hB : B 2611923443488327891 = 2611923443488327891#64 := by decide +kernel
  have hlen : xs.length ≤ 9223372036854775807 := by omega
  clear hmax
  have HB := hid hB; clear hB
  have HNE := hid hne; clear hne
  go_enter Try.func24, Try.ntmps24
  go_wp2_with (go_at_call 27; refine (rstep_any _ _ _).mono ?_; rintro e w' ⟨rfl, rfl⟩)
  go_loop [3, 4] (fun h i => ∃ k : Nat, k ≤ xs.length ∧ i = .int .i64 k ∧ h = .int .u64 (I (Dg.wordsFrom xs.length (xs.take k)))) (fun _ i => xs.length - (intOf i).toNat)
  case atStart => exact ⟨0, by omega, rfl, by rw [HB.out]; rfl⟩
  case round =>
    obtain ⟨k, hk, rfl, rfl⟩ := hrel
    by_cases hlt : k < xs.length
    · obtain ⟨b, o, rfl, _, hc⟩ := HNE.out (by omega)
      have hck := hc k hlt
      clear hc
      go_wp2_with (go_at_call 27; refine (rstep_any _ _ _).mono ?_; rintro e w' ⟨rfl, rfl⟩)
      refine ⟨⟨k + 1, by omega, by go_num, ?_⟩, by simp [intOf]; omega⟩
      rw [take_snocD xs k 0 hlt, Dg.wordsFrom_snoc, B_I, wrap_u64, B_I]
      simp [List.getD, hlt]
    · go_wp2
      go_ret
      obtain rfl : k = xs.length := by omega
      refine ⟨?_, rfl⟩
      rw [List.take_length]; rfl

end Go.Proofs.Ytifpkhgcoopjnaa
