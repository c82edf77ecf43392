/- Numerals: what a text of digits is read as. No program. -/
import Derived.Lib.AtoiAllCases
import Derived.Lib.ItoaMem
import Derived.Lib.Bytealg
import Derived.Laws.Strings
set_option linter.unusedVariables false
set_option linter.unusedSimpArgs false
namespace Go.Proofs.YtbhahgbdkgjliaaGreatDoor
namespace Rt
open Go Go.Lib
theorem dg_val {d : Nat} (h : d < 10) : (UInt8.ofNat (48 + d)).toNat = 48 + d := by
  show (48 + d) % 256 = 48 + d
  omega
theorem dec_small {n : Nat} (h : n < 10) : decDigits n = [UInt8.ofNat (48 + n)] := by rw [decDigits, dif_pos h]
theorem dec_big {n : Nat} (h : ¬ n < 10) : decDigits n = decDigits (n / 10) ++ [UInt8.ofNat (48 + n % 10)] := by rw [decDigits, dif_neg h]
theorem dec_dig (n : Nat) : ∀ c, c ∈ decDigits n → 48 ≤ c.toNat ∧ c.toNat ≤ 57 := by
  induction n using Nat.strongRecOn with
  | _ n ih =>
    intro c hc
    by_cases h : n < 10
    · rw [dec_small h, List.mem_singleton] at hc
      rw [hc, dg_val h]; omega
    · rw [dec_big h] at hc
      rcases List.mem_append.1 hc with h1 | h1
      · exact ih (n / 10) (by omega) c h1
      · rw [List.mem_singleton.1 h1, dg_val (by omega)]; omega
theorem dec_ne (n : Nat) : decDigits n ≠ [] := by
  by_cases h : n < 10
  · rw [dec_small h]; simp
  · rw [dec_big h]; simp
theorem pu_snoc : ∀ (l : List UInt8) (acc a : Nat) (c : UInt8), parseUint10 acc l = .ok a → parseUint10 acc (l ++ [c]) = parseUint10 a [c]
  | [], acc, a, c, h => by
    simp only [parseUint10] at h
    injection h with h
    subst h
    rfl
  | b :: l, acc, a, c, h => by
    rw [List.cons_append]
    rw [parseUint10] at h ⊢
    split at h
    · rename_i hb
      rw [if_pos hb]
      split at h
      · cases h
      · rename_i h1
        rw [if_neg h1]
        split at h
        · cases h
        · rename_i h2
          rw [if_neg h2]
          exact pu_snoc l _ a c h
    · cases h
theorem pu_dec (n : Nat) (hn : n < 18446744073709551616) : parseUint10 0 (decDigits n) = .ok n := by
  induction n using Nat.strongRecOn with
  | _ n ih =>
    by_cases h : n < 10
    · rw [dec_small h, parseUint10, if_pos (by rw [dg_val h]; omega), if_neg (by omega), if_neg (by rw [dg_val h]; omega), parseUint10, dg_val h]
      congr 1; omega
    · rw [dec_big h, pu_snoc _ _ _ _ (ih (n / 10) (by omega) (by omega)), parseUint10]
      have e := dg_val (d := n % 10) (by omega)
      rw [if_pos (by rw [e]; omega), if_neg (by omega), if_neg (by rw [e]; omega), parseUint10, e]
      congr 1; omega
theorem dec_head (n : Nat) : ∃ c l, decDigits n = c :: l ∧ 48 ≤ c.toNat ∧ c.toNat ≤ 57 := by
  cases h : decDigits n with
  | nil => exact absurd h (dec_ne n)
  | cons c l => exact ⟨c, l, rfl, dec_dig n c (by rw [h]; simp)⟩
theorem atoi_itoa (n : Int) (h : -9223372036854775808 ≤ n ∧ n ≤ 9223372036854775807) : atoiAll (itoa n) = .ok n := by
  unfold itoa
  by_cases hn : n < 0
  · rw [if_pos hn, atoiAll_minus, parseMag, if_neg (dec_ne _), pu_dec _ (by omega)]
    show (if _ then _ else _) = _
    rw [if_neg (by omega)]
    congr 1; omega
  · obtain ⟨c, l, e, h1, h2⟩ := dec_head n.toNat
    rw [if_neg hn, e, atoiAll_plain c l (by omega) (by omega), ← e, parseMag, if_neg (dec_ne _), pu_dec _ (by omega)]
    show (if _ then _ else _) = _
    rw [if_neg (by omega)]
    congr 1; omega
theorem index_none (c : UInt8) : ∀ (l : List UInt8), (∀ b, b ∈ l → b ≠ c) → indexByte l c = -1
  | [], _ => rfl
  | b :: l, h => by
    have h1 : (b == c) = false := by simpa using h b (by simp)
    rw [indexByte, h1, index_none c l (fun x hx => h x (by simp [hx]))]; rfl
theorem index_at (c : UInt8) (m : List UInt8) : ∀ (l : List UInt8), (∀ b, b ∈ l → b ≠ c) → indexByte (l ++ c :: m) c = (l.length : Int)
  | [], _ => by simp [indexByte]
  | b :: l, h => by
    have h1 : (b == c) = false := by simpa using h b (by simp)
    have h2 := index_at c m l (fun x hx => h x (by simp [hx]))
    have h3 : (((l.length : Nat) : Int) == -1) = false := by simp
    rw [List.cons_append, indexByte, h1, h2, h3]
    simp
theorem itoa_mem (n : Int) : ∀ b, b ∈ itoa n → b.toNat = 45 ∨ (48 ≤ b.toNat ∧ b.toNat ≤ 57) := by
  intro b hb
  unfold itoa at hb
  split at hb
  · rcases List.mem_cons.1 hb with h | h
    · rw [h]; exact .inl rfl
    · exact .inr (dec_dig _ b h)
  · exact .inr (dec_dig _ b hb)
theorem itoa_ne47 (n : Int) : ∀ b, b ∈ itoa n → b ≠ 47 := by
  intro b hb e
  have := itoa_mem n b hb
  rw [e] at this
  have e2 : (47 : UInt8).toNat = 47 := rfl
  omega
/-- What digits mean, the first ahead. -/
def valL (n : Nat) (l : List UInt8) : Nat := l.foldl (fun n c => 10 * n + (c.toNat - 48)) n
theorem valL_nil (n : Nat) : valL n [] = n := rfl
theorem valL_cons (n : Nat) (c : UInt8) (l : List UInt8) : valL n (c :: l) = valL (10 * n + (c.toNat - 48)) l := by unfold valL; rw [List.foldl_cons]
theorem valL_append : ∀ (l m : List UInt8) (n : Nat), valL n (l ++ m) = valL (valL n l) m
  | [], m, n => rfl
  | c :: l, m, n => by rw [List.cons_append, valL_cons, valL_cons, valL_append l m]
theorem valL_dec (n : Nat) : valL 0 (decDigits n) = n := by
  induction n using Nat.strongRecOn with
  | _ n ih =>
    by_cases h : n < 10
    · rw [dec_small h, valL_cons, valL_nil, dg_val h]; omega
    · rw [dec_big h, valL_append, ih (n / 10) (by omega), valL_cons, valL_nil, dg_val (by omega)]; omega
theorem valL_ge : ∀ (l : List UInt8) (n : Nat), n ≤ valL n l
  | [], n => Nat.le_refl _
  | c :: l, n => by rw [valL_cons]; exact Nat.le_trans (by omega) (valL_ge l _)
/-- What the reference reads of digits: k rounds are left, i digits have been read. -/
def readL : Nat → List UInt8 → Nat → Nat → Nat → Nat × Nat
  | 0, _, n, i, _ => (n, i)
  | _ + 1, [], n, i, _ => (n, i)
  | k + 1, c :: r, n, i, sz => if 48 ≤ c.toNat ∧ c.toNat ≤ 57 then (if 461168601842738790 < n then (0, sz) else readL k r (10 * n + (c.toNat - 48)) (i + 1) sz) else (n, i)
theorem readL_digits : ∀ (ds rest : List UInt8) (k n i sz : Nat), (∀ c, c ∈ ds → 48 ≤ c.toNat ∧ c.toNat ≤ 57) → ds.length ≤ k → valL n ds ≤ 4611686018427387904 → (∀ c r, rest = c :: r → ¬ (48 ≤ c.toNat ∧ c.toNat ≤ 57)) →
    readL k (ds ++ rest) n i sz = (valL n ds, i + ds.length)
  | [], rest, 0, n, i, sz, _, _, _, _ => rfl
  | [], [], k + 1, n, i, sz, _, _, _, _ => rfl
  | [], c :: r, k + 1, n, i, sz, _, _, _, h4 => by
    rw [List.nil_append, readL, if_neg (h4 c r rfl)]; rfl
  | c :: ds, rest, 0, n, i, sz, _, h, _, _ => by simp at h
  | c :: ds, rest, k + 1, n, i, sz, h1, h2, h3, h4 => by
    rw [valL_cons] at h3
    have := valL_ge ds (10 * n + (c.toNat - 48))
    rw [List.cons_append, readL, if_pos (h1 c (by simp)), if_neg (by omega), readL_digits ds rest k _ _ _ (fun x hx => h1 x (by simp [hx])) (by simpa using h2) h3 h4, valL_cons, List.length_cons, Nat.add_assoc, Nat.add_comm 1]
theorem readL_bounds : ∀ (k : Nat) (l : List UInt8) (n i sz : Nat), n ≤ 4611686018427387909 → i + l.length ≤ sz → (readL k l n i sz).1 ≤ 4611686018427387909 ∧ (readL k l n i sz).2 ≤ sz
  | 0, _, n, i, sz, h, h2 => ⟨h, by show i ≤ sz; omega⟩
  | _ + 1, [], n, i, sz, h, h2 => ⟨h, by show i ≤ sz; omega⟩
  | k + 1, c :: r, n, i, sz, h, h2 => by
    rw [readL]
    split
    · split
      · exact ⟨Nat.zero_le _, Nat.le_refl _⟩
      · simp only [List.length_cons] at h2
        exact readL_bounds k r _ _ sz (by omega) (by omega)
    · exact ⟨h, by show i ≤ sz; simp only [List.length_cons] at h2; omega⟩
end Rt
end Go.Proofs.YtbhahgbdkgjliaaGreatDoor
