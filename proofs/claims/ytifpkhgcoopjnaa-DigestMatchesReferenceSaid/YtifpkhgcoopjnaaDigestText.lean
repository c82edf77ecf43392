/- Plain facts: reading undoes writing of the digits of a number, and the other way round. No conditions. -/
import Derived.Test.YtifpkhgcoopjnaaDigestPure
namespace Go.Proofs.Ytifpkhgcoopjnaa.Dg

/-- The number of digits, as a natural number. -/
def numN (l : List UInt8) : Nat := l.foldl (fun a c => a * 16 + (value (c.toNat : Int)).toNat) 0

theorem value_lt (c : UInt8) : 0 ≤ value (c.toNat : Int) ∧ value (c.toNat : Int) < 16 := by
  unfold value
  split
  · omega
  · split <;> omega
theorem numN_snoc (l : List UInt8) (c : UInt8) : numN (l ++ [c]) = numN l * 16 + (value (c.toNat : Int)).toNat := by simp [numN, List.foldl_append]
theorem numN_from (r : List UInt8) : ∀ a : Nat, r.foldl (fun a c => a * 16 + (value (c.toNat : Int)).toNat) a = a * 16 ^ r.length + numN r := by
  induction r with
  | nil => intro a; simp [numN]
  | cons c r ih =>
    intro a
    rw [List.foldl_cons, ih]
    have h := ih (0 * 16 + (value (c.toNat : Int)).toNat)
    have e : numN (c :: r) = r.foldl (fun a c => a * 16 + (value (c.toNat : Int)).toNat) (0 * 16 + (value (c.toNat : Int)).toNat) := rfl
    rw [Nat.zero_mul, Nat.zero_add] at h e
    rw [e, h, List.length_cons, Nat.pow_succ]
    generalize 16 ^ r.length = m
    have e1 : (a * 16 + (value (c.toNat : Int)).toNat) * m = a * (m * 16) + (value (c.toNat : Int)).toNat * m := by
      rw [Nat.add_mul, Nat.mul_assoc, Nat.mul_comm 16 m]
    rw [e1]; omega
theorem numN_append (l r : List UInt8) : numN (l ++ r) = numN l * 16 ^ r.length + numN r := by
  unfold numN; rw [List.foldl_append]; exact numN_from r _
theorem numN_lt (l : List UInt8) : numN l < 16 ^ l.length := by
  induction l with
  | nil => simp [numN]
  | cons c r ih =>
    have h := numN_append [c] r
    have hv := value_lt c
    have e : numN [c] = (value (c.toNat : Int)).toNat := by simp [numN]
    rw [List.singleton_append] at h
    rw [h, e, List.length_cons, Nat.pow_succ]
    generalize 16 ^ r.length = m at *
    have h1 : (value (c.toNat : Int)).toNat * m ≤ 15 * m := Nat.mul_le_mul_right _ (by omega)
    omega
theorem or_low (x : BitVec 64) (v : Int) (h0 : 0 ≤ v) (h1 : v < 16) : x <<< 4 ||| B v = x * 16#64 + B v := by
  have e : x <<< 4 = x * 16#64 := by rw [BitVec.shiftLeft_eq_mul_twoPow]; rfl
  rw [← e]
  symm
  apply BitVec.add_eq_or_of_and_eq_zero
  obtain ⟨n, rfl⟩ := Int.eq_ofNat_of_zero_le h0
  apply BitVec.eq_of_getLsbD_eq
  intro i hi
  rw [BitVec.getLsbD_and, BitVec.getLsbD_shiftLeft]
  by_cases hlt : i < 4
  · simp [hlt]
  · have : (B (n : Int)).getLsbD i = false := by
      unfold B
      rw [BitVec.ofInt_natCast, BitVec.getLsbD_ofNat]
      have h : n < 2 ^ i := Nat.lt_of_lt_of_le (show n < 2 ^ 4 by omega) (Nat.pow_le_pow_right (by omega) (by omega))
      rw [Nat.testBit_lt_two_pow h]; simp
    rw [this]; simp
theorem number_eq (l : List UInt8) : number l = BitVec.ofNat 64 (numN l) := by
  have key : ∀ r : List UInt8, ∀ a : Nat, r.foldl (fun (x : BitVec 64) c => x <<< 4 ||| B (value (c.toNat : Int))) (BitVec.ofNat 64 a) = BitVec.ofNat 64 (r.foldl (fun a c => a * 16 + (value (c.toNat : Int)).toNat) a) := by
    intro r
    induction r with
    | nil => intro a; rfl
    | cons c r ih =>
      intro a
      rw [List.foldl_cons, List.foldl_cons, ← ih]
      congr 1
      have hv := value_lt c
      rw [or_low _ _ hv.1 hv.2, BitVec.ofNat_add, BitVec.ofNat_mul]
      congr 1
      obtain ⟨n, hn⟩ := Int.eq_ofNat_of_zero_le hv.1
      rw [hn]
      unfold B; rw [BitVec.ofInt_natCast]; rfl
  exact key l 0
theorem number_toNat {l : List UInt8} (h : l.length = 16) : (number l).toNat = numN l := by
  rw [number_eq, BitVec.toNat_ofNat]
  have := numN_lt l
  rw [h] at this
  exact Nat.mod_eq_of_lt (by simpa using this)
/-- Digit i of a number, from the left, as a natural number. -/
theorem nib_toNat (x : BitVec 64) (i : Nat) (hi : i < 16) : (x >>> (60 - 4 * i) &&& 15#64).toNat = x.toNat / 16 ^ (15 - i) % 16 := by
  rw [BitVec.toNat_and, BitVec.toNat_ushiftRight, Nat.shiftRight_eq_div_pow]
  have e : 2 ^ (60 - 4 * i) = 16 ^ (15 - i) := by
    rw [show (60 - 4 * i) = 4 * (15 - i) by omega, Nat.pow_mul]
  rw [e]
  exact Nat.and_two_pow_sub_one_eq_mod _ 4
theorem digit_value : ∀ c : UInt8, isDigit (c.toNat : Int) = true → ([48, 49, 50, 51, 52, 53, 54, 55, 56, 57, 97, 98, 99, 100, 101, 102] : List UInt8).getD (value (c.toNat : Int)).toNat 0 = c := by
  have h : ∀ n : Fin 256, isDigit ((UInt8.ofNat n.val).toNat : Int) = true → ([48, 49, 50, 51, 52, 53, 54, 55, 56, 57, 97, 98, 99, 100, 101, 102] : List UInt8).getD (value ((UInt8.ofNat n.val).toNat : Int)).toNat 0 = UInt8.ofNat n.val := by decide +kernel
  intro c hc
  have := h ⟨c.toNat, c.toNat_lt⟩
  simp only [UInt8.ofNat_toNat] at this
  exact this hc
theorem value_digit : ∀ n, n < 16 → value (((([48, 49, 50, 51, 52, 53, 54, 55, 56, 57, 97, 98, 99, 100, 101, 102] : List UInt8).getD n 0).toNat : Int)) = n ∧ isDigit (((([48, 49, 50, 51, 52, 53, 54, 55, 56, 57, 97, 98, 99, 100, 101, 102] : List UInt8).getD n 0).toNat : Int)) = true := by
  decide +kernel
theorem numN_text (x : BitVec 64) : ∀ k, k ≤ 16 → numN ((List.range k).map (digitAt x)) = x.toNat / 16 ^ (16 - k) := by
  intro k
  induction k with
  | zero =>
    intro _
    have := x.isLt
    have e : (16 : Nat) ^ (16 - 0) = 2 ^ 64 := by decide
    rw [e, Nat.div_eq_of_lt this]; rfl
  | succ k ih =>
    intro hk
    rw [List.range_succ, List.map_append, List.map_singleton, numN_snoc, ih (by omega)]
    have hd : (value ((digitAt x k).toNat : Int)).toNat = x.toNat / 16 ^ (15 - k) % 16 := by
      unfold digitAt digit
      rw [nib_toNat x k (by omega)]
      have := (value_digit (x.toNat / 16 ^ (15 - k) % 16) (Nat.mod_lt _ (by omega))).1
      rw [this]; rfl
    rw [hd]
    have e1 : (16 : Nat) ^ (16 - k) = 16 ^ (15 - k) * 16 := by rw [← Nat.pow_succ]; congr 1; omega
    have e2 : 16 - (k + 1) = 15 - k := by omega
    rw [e1, e2, ← Nat.div_div_eq_div_mul]
    generalize x.toNat / 16 ^ (15 - k) = y
    omega
theorem number_text (x : BitVec 64) : number (text x) = x := by
  apply BitVec.eq_of_toNat_eq
  rw [number_toNat (text_length x)]
  have := numN_text x 16 (by omega)
  simpa [text] using this
theorem digits_text (x : BitVec 64) : digits (text x) = true := by
  unfold digits text
  rw [List.all_eq_true]
  intro c hc
  obtain ⟨i, hi, rfl⟩ := List.mem_map.1 hc
  have hi : i < 16 := by simpa using hi
  unfold digitAt digit
  rw [nib_toNat x i hi]
  exact (value_digit _ (Nat.mod_lt _ (by omega))).2
theorem parse_text (x : BitVec 64) : parse (text x) = (x, 0) := by
  rw [parse_good (text_length x) (digits_text x), number_text]
theorem text_inj {x y : BitVec 64} (h : text x = text y) : x = y := by rw [← number_text x, h, number_text]
theorem text_number {l : List UInt8} (h : l.length = 16) (hd : digits l = true) : text (number l) = l := by
  apply List.ext_getElem
  · rw [text_length, h]
  · intro i h1 h2
    rw [text_get]
    have hi : i < 16 := by rw [text_length] at h1; exact h1
    unfold digitAt digit
    rw [nib_toNat _ _ hi, number_toNat h]
    have hc : isDigit (l[i].toNat : Int) = true := List.all_eq_true.1 hd _ (List.getElem_mem h2)
    have e : l = (l.take i ++ [l[i]]) ++ l.drop (i + 1) := by
      rw [← List.take_succ_eq_append_getElem h2, List.take_append_drop]
    have hn : numN l = (numN (l.take i) * 16 + (value (l[i].toNat : Int)).toNat) * 16 ^ (15 - i) + numN (l.drop (i + 1)) := by
      conv => lhs; rw [e]
      rw [numN_append, numN_snoc, List.length_drop, h]
      congr 3; omega
    have hlt : numN (l.drop (i + 1)) < 16 ^ (15 - i) := by
      have := numN_lt (l.drop (i + 1))
      rw [List.length_drop, h] at this
      rw [show 15 - i = 16 - (i + 1) by omega]; exact this
    have hv := value_lt l[i]
    have hp : 0 < 16 ^ (15 - i) := Nat.pow_pos (by omega)
    have hq : numN l / 16 ^ (15 - i) % 16 = (value (l[i].toNat : Int)).toNat := by
      rw [hn, Nat.add_comm, Nat.add_mul_div_right _ _ hp, Nat.div_eq_of_lt hlt]
      omega
    rw [hq]
    exact digit_value _ hc
theorem parse_len {l : List UInt8} (h : l.length ≠ 16) : parse l = (0#64, 3) := if_neg h
theorem parse_cases (l : List UInt8) (h : l.length = 16) : (digits l = true ∧ parse l = (number l, 0)) ∨ (digits l = false ∧ parse l = (0#64, 3)) := by
  cases hd : digits l
  · right; exact ⟨rfl, by unfold parse; rw [if_pos h, if_neg (by rw [hd]; simp)]⟩
  · left; exact ⟨rfl, parse_good h hd⟩

end Go.Proofs.Ytifpkhgcoopjnaa.Dg
