/- Plain facts: bytes of one length that differ at one place have different digests; so have a few bytes, and the same with a zero behind them. No conditions but that bytes are bytes. -/
import Derived.Test.YtifpkhgcoopjnaaDigestInj
import Derived.Laws.BitsAllLaws
namespace Go.Proofs.Ytifpkhgcoopjnaa.Dg
open Go.RowKit

def IsByte (y : Int) : Prop := 0 ≤ y ∧ y < 256
theorem B_byte {y : Int} (h : IsByte y) : (B y).toNat = y.toNat := by
  obtain ⟨h0, h1⟩ := h
  obtain ⟨n, rfl⟩ := Int.eq_ofNat_of_zero_le h0
  unfold B
  rw [BitVec.ofInt_natCast, BitVec.toNat_ofNat]
  omega
theorem or_step (x : BitVec 64) (y : Int) (c : BitVec 64) (j : Nat) (hc : c.toNat = 2 ^ (8 * j)) (hj : j < 8) (hx : x.toNat < 2 ^ (8 * j)) (hy : IsByte y) :
    (x ||| B y * c).toNat = x.toNat + y.toNat * 2 ^ (8 * j) ∧ (x ||| B y * c).toNat < 2 ^ (8 * (j + 1)) := by
  have e : (B y * c).toNat = y.toNat * 2 ^ (8 * j) := by
    rw [BitVec.toNat_mul, B_byte hy, hc]
    apply Nat.mod_eq_of_lt
    have h1 : y.toNat * 2 ^ (8 * j) ≤ 255 * 2 ^ (8 * j) := Nat.mul_le_mul_right _ (by unfold IsByte at hy; omega)
    have h2 : 2 ^ (8 * j) ≤ 2 ^ 56 := Nat.pow_le_pow_right (by omega) (by omega)
    omega
  have e2 : (x ||| B y * c).toNat = x.toNat + y.toNat * 2 ^ (8 * j) := by
    rw [BitVec.toNat_or, e, Nat.or_comm, nat_join (8 * j) _ _ (Nat.mul_mod_left _ _) hx, Nat.add_comm]
  refine ⟨e2, ?_⟩
  rw [e2, show 8 * (j + 1) = 8 * j + 8 by omega, Nat.pow_add]
  have h1 : y.toNat * 2 ^ (8 * j) ≤ 255 * 2 ^ (8 * j) := Nat.mul_le_mul_right _ (by unfold IsByte at hy; omega)
  omega
def Bytes (l : List Int) : Prop := ∀ y ∈ l, IsByte y
theorem Bytes.at {l : List Int} (h : Bytes l) (i : Nat) : IsByte (l.getD i 0) := by
  by_cases hi : i < l.length
  · have e : l.getD i 0 = l[i] := by simp [List.getD, hi]
    rw [e]; exact h _ (List.getElem_mem hi)
  · have e : l.getD i 0 = 0 := by simp [List.getD, hi]
    rw [e]; unfold IsByte; omega
theorem word8_toNat (l : List Int) (h : Bytes l) : (word8 l).toNat = (l.getD 0 0).toNat + (l.getD 1 0).toNat * 256 + (l.getD 2 0).toNat * 65536 + (l.getD 3 0).toNat * 16777216 + (l.getD 4 0).toNat * 4294967296 +
    (l.getD 5 0).toNat * 1099511627776 + (l.getD 6 0).toNat * 281474976710656 + (l.getD 7 0).toNat * 72057594037927936 := by
  unfold word8
  have s0 : (0#64 ||| B (l.getD 0 0)).toNat = (l.getD 0 0).toNat ∧ (0#64 ||| B (l.getD 0 0)).toNat < 2 ^ (8 * 1) := by
    rw [BitVec.zero_or, B_byte (h.at 0)]
    have := h.at 0; unfold IsByte at this; omega
  have s1 := or_step _ (l.getD 1 0) 256#64 1 rfl (by omega) s0.2 (h.at 1)
  have s2 := or_step _ (l.getD 2 0) 65536#64 2 rfl (by omega) s1.2 (h.at 2)
  have s3 := or_step _ (l.getD 3 0) 16777216#64 3 rfl (by omega) s2.2 (h.at 3)
  have s4 := or_step _ (l.getD 4 0) 4294967296#64 4 rfl (by omega) s3.2 (h.at 4)
  have s5 := or_step _ (l.getD 5 0) 1099511627776#64 5 rfl (by omega) s4.2 (h.at 5)
  have s6 := or_step _ (l.getD 6 0) 281474976710656#64 6 rfl (by omega) s5.2 (h.at 6)
  have s7 := or_step _ (l.getD 7 0) 72057594037927936#64 7 rfl (by omega) s6.2 (h.at 7)
  rw [s7.1, s6.1, s5.1, s4.1, s3.1, s2.1, s1.1, s0.1]
theorem getD_set (l : List Int) (k : Nat) (v : Int) (hk : k < l.length) (i : Nat) : (l.set k v).getD i 0 = if k = i then v else l.getD i 0 := by
  simp only [List.getD, List.getElem?_set]
  by_cases e : k = i
  · subst e; simp [hk]
  · simp [e]
theorem Bytes.set {l : List Int} (h : Bytes l) (k : Nat) {v : Int} (hv : IsByte v) : Bytes (l.set k v) := by
  intro y hy
  rcases List.mem_or_eq_of_mem_set hy with h1 | rfl
  · exact h _ h1
  · exact hv
theorem word8_set (l : List Int) (k : Nat) (v : Int) (hk : k < l.length) (h8 : k < 8) (h : Bytes l) (hv : IsByte v) (e : word8 l = word8 (l.set k v)) : l.getD k 0 = v := by
  have e1 := congrArg BitVec.toNat e
  rw [word8_toNat l h, word8_toNat _ (h.set k hv)] at e1
  simp only [getD_set l k v hk] at e1
  have hb := h.at k
  unfold IsByte at hb hv
  have hkk : k = 0 ∨ k = 1 ∨ k = 2 ∨ k = 3 ∨ k = 4 ∨ k = 5 ∨ k = 6 ∨ k = 7 := by omega
  rcases hkk with rfl | rfl | rfl | rfl | rfl | rfl | rfl | rfl <;> simp [-List.getD_eq_getElem?_getD] at e1 <;> omega
theorem word8_far (l : List Int) (k : Nat) (v : Int) (hk : k < l.length) (h8 : 8 ≤ k) : word8 (l.set k v) = word8 l := by
  unfold word8
  simp only [getD_set l k v hk]
  rw [if_neg (by omega), if_neg (by omega), if_neg (by omega), if_neg (by omega), if_neg (by omega), if_neg (by omega), if_neg (by omega), if_neg (by omega)]
theorem bytesGo_inj : ∀ (f : Nat) (l : List Int) (h h' : BitVec 64), bytesGo h f l = bytesGo h' f l → h = h' := by
  intro f
  induction f with
  | zero => intro l h h' e; exact e
  | succ f ih =>
    intro l h h' e
    by_cases hn : l = []
    · simpa [bytesGo, hn] using e
    · simp only [bytesGo, hn, if_false] at e
      exact step_inj' (ih _ _ _ e)
theorem bytesGo_set : ∀ (f : Nat) (l : List Int) (h : BitVec 64) (k : Nat) (v : Int), l.length ≤ f → k < l.length → Bytes l → IsByte v → bytesGo h f l = bytesGo h f (l.set k v) → l.getD k 0 = v := by
  intro f
  induction f with
  | zero => intro l h k v hf hk; omega
  | succ f ih =>
    intro l h k v hf hk hb hv e
    have hn : l ≠ [] := by rintro rfl; simp at hk
    have hn' : l.set k v ≠ [] := by
      intro h0
      have := congrArg List.length h0
      rw [List.length_set] at this
      simp at this; exact hn this
    simp only [bytesGo, hn, hn', if_false] at e
    by_cases h8 : k < 8
    · rw [List.drop_set_of_lt h8] at e
      exact word8_set l k v hk h8 hb hv (step_inj (bytesGo_inj _ _ _ _ e))
    · rw [word8_far l k v hk (by omega), List.drop_set, if_neg h8] at e
      have := ih (l.drop 8) _ (k - 8) v (by rw [List.length_drop]; omega) (by rw [List.length_drop]; omega) (fun y hy => hb y (List.mem_of_mem_drop hy)) hv e
      rw [← this]
      simp only [List.getD, List.getElem?_drop]
      rw [show 8 + (k - 8) = k by omega]
theorem bytes_set (l : List Int) (k : Nat) (v : Int) (hk : k < l.length) (hb : Bytes l) (hv : IsByte v) : bytes l = bytes (l.set k v) ↔ v = l.getD k 0 := by
  unfold bytes
  rw [List.length_set]
  constructor
  · intro e
    exact (bytesGo_set _ l _ k v (Nat.le_refl _) hk hb hv e).symm
  · intro e
    have : l.set k v = l := by
      rw [e]
      apply List.ext_getElem?
      intro i
      rw [List.getElem?_set]
      by_cases hik : k = i
      · subst hik; simp [List.getD, hk]
      · simp [hik]
    rw [this]
theorem bytes_short (l : List Int) (h0 : 0 < l.length) (h8 : l.length < 8) : bytes l ≠ bytes (l ++ [0]) := by
  unfold bytes
  rw [bytesGo_cons _ l h0, bytesGo_cons _ (l ++ [0]) (by simp), List.drop_eq_nil_of_le (by omega), List.drop_eq_nil_of_le (by simp; omega)]
  have hw : word8 (l ++ [0]) = word8 l := by
    have e : ∀ i, (l ++ [0]).getD i 0 = l.getD i 0 := by
      intro i
      simp only [List.getD]
      by_cases hi : i < l.length
      · rw [List.getElem?_append_left hi]
      · rw [List.getElem?_append_right (by omega)]
        by_cases e : i - l.length = 0
        · simp [e, hi]
        · have : ([0] : List Int)[i - l.length]? = none := by rw [List.getElem?_eq_none_iff]; simp; omega
          rw [this]; simp [hi]
    unfold word8
    simp only [e]
  rw [hw]
  intro e
  have e1 : step 1376283091369227076#64 (B l.length) = step 1376283091369227076#64 (B (l ++ [0]).length) := step_inj' e
  have e2 := step_inj e1
  have e3 := B_inj64 (by omega) (by omega) (by omega) (by simp; omega) e2
  simp at e3
  omega

end Go.Proofs.Ytifpkhgcoopjnaa.Dg
