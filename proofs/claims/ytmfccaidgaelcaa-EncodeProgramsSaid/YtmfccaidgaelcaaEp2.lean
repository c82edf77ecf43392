/- Words as bytes. No program. -/
import Derived.Test.YtmfccaidgaelcaaEp1
set_option linter.unusedVariables false
set_option linter.unusedSimpArgs false
namespace Go.Proofs.Ytmfccaidgaelcaa
/-- The k least bytes of a number, the least first. -/
def encN : Nat → Nat → List Nat
  | 0, _ => []
  | k + 1, n => n % 256 :: encN k (n / 256)
def decN : List Nat → Nat
  | [] => 0
  | b :: l => b + 256 * decN l
theorem encN_len : ∀ k n, (encN k n).length = k
  | 0, _ => rfl
  | k + 1, n => by rw [encN, List.length_cons, encN_len k]
theorem encN_lt : ∀ k n b, b ∈ encN k n → b < 256
  | 0, _, b, h => by cases h
  | k + 1, n, b, h => by
    rw [encN] at h
    rcases List.mem_cons.1 h with rfl | h
    · exact Nat.mod_lt _ (by decide)
    · exact encN_lt k _ b h
theorem decN_encN : ∀ k n, decN (encN k n) = n % 256 ^ k
  | 0, n => by rw [encN, decN, Nat.pow_zero, Nat.mod_one]
  | k + 1, n => by
    rw [encN, decN, decN_encN k, Nat.pow_succ, Nat.mul_comm (256 ^ k) 256, Nat.mod_mul]
theorem encN_decN : ∀ (l : List Nat), (∀ b, b ∈ l → b < 256) → encN l.length (decN l) = l
  | [], _ => rfl
  | b :: l, h => by
    have hb := h b (by simp)
    rw [List.length_cons, decN, encN, show (b + 256 * decN l) % 256 = b by omega, show (b + 256 * decN l) / 256 = decN l by omega, encN_decN l (fun x hx => h x (by simp [hx]))]
theorem decN_lt : ∀ (l : List Nat), (∀ b, b ∈ l → b < 256) → decN l < 256 ^ l.length
  | [], _ => by simp [decN]
  | b :: l, h => by
    have hb := h b (by simp)
    have := decN_lt l (fun x hx => h x (by simp [hx]))
    rw [List.length_cons, decN, Nat.pow_succ]
    omega
theorem decN_app : ∀ (l m : List Nat), decN (l ++ m) = decN l + 256 ^ l.length * decN m
  | [], m => by simp [decN]
  | b :: l, m => by
    rw [List.cons_append, decN, decN, decN_app l m, List.length_cons, Nat.pow_succ, Nat.mul_add, ← Nat.mul_assoc, Nat.mul_comm 256 (256 ^ l.length)]
    omega
theorem encN_get : ∀ (k n j : Nat), j < k → (encN k n)[j]? = some (n / 256 ^ j % 256)
  | 0, n, j, h => by omega
  | k + 1, n, 0, _ => by simp [encN]
  | k + 1, n, j + 1, h => by
    rw [encN, List.getElem?_cons_succ, encN_get k _ j (by omega), Nat.pow_succ, Nat.mul_comm (256 ^ j) 256, Nat.div_div_eq_div_mul]
theorem encN_take : ∀ (k n j : Nat), j < k → (encN k n).take (j + 1) = (encN k n).take j ++ [n / 256 ^ j % 256] := by
  intro k n j h
  rw [List.take_add_one, encN_get k n j h]; rfl
abbrev W64 : Int := 18446744073709551616
/-- A word without a sign. -/
def uns (x : Int) : Nat := (x % W64).toNat
/-- A word with a sign. -/
def sgnW (n : Nat) : Int := if n < 9223372036854775808 then (n : Int) else (n : Int) - W64
abbrev I64' (x : Int) : Prop := -9223372036854775808 ≤ x ∧ x ≤ 9223372036854775807
theorem uns_lt (x : Int) : uns x < 18446744073709551616 := by unfold uns W64; omega
theorem sgnW_uns (x : Int) (h : I64' x) : sgnW (uns x) = x := by unfold sgnW uns W64; unfold I64' at h; omega
theorem uns_sgnW (n : Nat) (h : n < 18446744073709551616) : uns (sgnW n) = n := by unfold sgnW uns W64; split <;> omega
theorem sgnW_i64 (n : Nat) (h : n < 18446744073709551616) : I64' (sgnW n) := by unfold sgnW I64' W64; split <;> omega
/-- The bytes of a word. -/
def byW (x : Int) : List Int := (encN 8 (uns x)).map fun n : Nat => (n : Int)
def bsL : List Int → List Int
  | [] => []
  | x :: l => byW x ++ bsL l
theorem byW_len (x : Int) : (byW x).length = 8 := by rw [byW, List.length_map, encN_len]
theorem byW_byte (x : Int) : ∀ b, b ∈ byW x → 0 ≤ b ∧ b ≤ 255 := by
  intro b hb
  obtain ⟨n, hn, rfl⟩ := List.mem_map.1 hb
  have := encN_lt _ _ n hn
  omega
theorem bsL_len : ∀ l, (bsL l).length = 8 * l.length
  | [] => rfl
  | x :: l => by rw [bsL, List.length_append, byW_len, bsL_len l, List.length_cons]; omega
theorem bsL_byte : ∀ l b, b ∈ bsL l → 0 ≤ b ∧ b ≤ 255
  | [], b, h => by cases h
  | x :: l, b, h => by
    rw [bsL] at h
    rcases List.mem_append.1 h with h | h
    · exact byW_byte x b h
    · exact bsL_byte l b h
theorem bsL_app : ∀ a b, bsL (a ++ b) = bsL a ++ bsL b
  | [], b => rfl
  | x :: a, b => by rw [List.cons_append, bsL, bsL, bsL_app a b, List.append_assoc]
/-- The word of bytes. -/
def wdB (l : List Int) : Int := sgnW (decN (l.map Int.toNat))
theorem wdB_byW (x : Int) (h : I64' x) : wdB (byW x) = x := by
  unfold wdB byW
  rw [List.map_map, show (Int.toNat ∘ fun n : Nat => (n : Int)) = id from funext fun n => Int.toNat_natCast n, List.map_id, decN_encN]
  rw [show (256 : Nat) ^ 8 = 18446744073709551616 from rfl, Nat.mod_eq_of_lt (uns_lt x), sgnW_uns x h]
theorem byW_wdB (l : List Int) (hl : l.length = 8) (hb : ∀ b, b ∈ l → 0 ≤ b ∧ b ≤ 255) : byW (wdB l) = l := by
  have h1 : ∀ b, b ∈ l.map Int.toNat → b < 256 := fun b hb' => by
    obtain ⟨x, hx, rfl⟩ := List.mem_map.1 hb'
    have := hb x hx
    omega
  have h2 := decN_lt _ h1
  have h3 := encN_decN _ h1
  rw [List.length_map, hl] at h2 h3
  unfold byW wdB
  rw [uns_sgnW _ h2, h3, List.map_map]
  conv => rhs; rw [← List.map_id l]
  apply List.map_congr_left
  intro x hx
  have := hb x hx
  simp only [Function.comp, id]
  omega
theorem wdB_i64 (l : List Int) (hl : l.length = 8) (hb : ∀ b, b ∈ l → 0 ≤ b ∧ b ≤ 255) : I64' (wdB l) := by
  have h1 : ∀ b, b ∈ l.map Int.toNat → b < 256 := fun b hb' => by
    obtain ⟨x, hx, rfl⟩ := List.mem_map.1 hb'
    have := hb x hx
    omega
  have h2 := decN_lt _ h1
  rw [List.length_map, hl] at h2
  exact sgnW_i64 _ h2
/-- All bytes are words, and less than a word behind them. -/
theorem split_words : ∀ (k : Nat) (b : List Int), b.length ≤ k → (∀ x, x ∈ b → 0 ≤ x ∧ x ≤ 255) → ∃ ws t, b = bsL ws ++ t ∧ t.length < 8 ∧ (∀ w, w ∈ ws → I64' w)
  | 0, b, h, _ => by
    obtain rfl := List.eq_nil_of_length_eq_zero (show b.length = 0 by omega)
    exact ⟨[], [], rfl, by decide, fun w hw => by cases hw⟩
  | k + 1, b, h, hb => by
    by_cases h8 : b.length < 8
    · exact ⟨[], b, rfl, h8, fun w hw => by cases hw⟩
    · obtain ⟨ws, t, e, h1, h2⟩ := split_words k (b.drop 8) (by rw [List.length_drop]; omega) (fun x hx => hb x (List.mem_of_mem_drop hx))
      have l8 : (b.take 8).length = 8 := by rw [List.length_take]; omega
      have b8 : ∀ x, x ∈ b.take 8 → 0 ≤ x ∧ x ≤ 255 := fun x hx => hb x (List.mem_of_mem_take hx)
      refine ⟨wdB (b.take 8) :: ws, t, ?_, h1, fun w hw => ?_⟩
      · rw [bsL, byW_wdB _ l8 b8, List.append_assoc, ← e, List.take_append_drop]
      · rcases List.mem_cons.1 hw with rfl | hw
        · exact wdB_i64 _ l8 b8
        · exact h2 w hw
theorem byW_inj {x y : Int} (hx : I64' x) (hy : I64' y) (h : byW x = byW y) : x = y := by rw [← wdB_byW x hx, h, wdB_byW y hy]
theorem bsL_inj : ∀ (a b : List Int), (∀ w, w ∈ a → I64' w) → (∀ w, w ∈ b → I64' w) → bsL a = bsL b → a = b
  | [], [], _, _, _ => rfl
  | [], y :: b, _, _, h => by have := congrArg List.length h; rw [bsL_len, bsL_len] at this; simp at this
  | x :: a, [], _, _, h => by have := congrArg List.length h; rw [bsL_len, bsL_len] at this; simp at this
  | x :: a, y :: b, ha, hb, h => by
    rw [bsL, bsL] at h
    obtain ⟨h1, h2⟩ := List.append_inj h (by rw [byW_len, byW_len])
    rw [byW_inj (ha x (by simp)) (hb y (by simp)) h1, bsL_inj a b (fun w hw => ha w (by simp [hw])) (fun w hw => hb w (by simp [hw])) h2]
/-- The j-th byte of a word. -/
theorem shr_byte (x : Int) (j : Nat) (hj : j < 8) : (x.fdiv (2 ^ (8 * j))) % 256 = ((uns x / 256 ^ j % 256 : Nat) : Int) := by
  unfold uns W64
  rw [Int.fdiv_eq_ediv_of_nonneg _ (Int.le_of_lt (Int.pow_pos (by decide)))]
  match j, hj with
  | 0, _ => simp; omega
  | 1, _ => simp; omega
  | 2, _ => simp; omega
  | 3, _ => simp; omega
  | 4, _ => simp; omega
  | 5, _ => simp; omega
  | 6, _ => simp; omega
  | 7, _ => simp; omega
end Go.Proofs.Ytmfccaidgaelcaa
