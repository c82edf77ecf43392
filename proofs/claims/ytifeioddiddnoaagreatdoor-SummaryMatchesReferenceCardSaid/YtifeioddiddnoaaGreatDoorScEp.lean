/- Summaries in normal form, and the laws of their order. No program. -/
import Derived.Test.YtifeioddiddnoaaGreatDoorScC
import Derived.Test.YtifeioddiddnoaaGreatDoorScD
set_option linter.unusedVariables false
set_option linter.unusedSimpArgs false
namespace Go.Proofs.YtifeioddiddnoaaGreatDoor
open Go.Abs Go Go.RowKit
structure Nm where
  t : Tr
  T : Nat
  L : Nat
  O : Nat
  k : Nat
  c : Nat
structure Nm.ok (m : Nm) : Prop where
  t : m.t.bd
  m8 : m.t.mask < 256
  T : m.T &&& 4294967294 = m.T
  L : m.L &&& 7 = m.L
  O : m.O &&& 7 = m.O
  k : m.k < 64
  c : m.c ≤ 1099511627776
def Nm.sy (m : Nm) : Sy := ⟨11, nf m.t, m.T, m.L, m.O, prOf m.k, m.c⟩
def Nm.join (m n : Nm) : Nm := ⟨m.t.join n.t, m.T ||| n.T, m.L ||| n.L, m.O &&& n.O, m.k ||| n.k, max m.c n.c⟩
def Nm.top : Nm := ⟨trAll 255, 4294967294, 7, 0, 63, 1099511627776⟩
def subN (a b : Nat) : Bool := decide (a &&& b = a)
def Nm.leq (m n : Nm) : Bool := (((((subN m.k n.k && leqB m.t n.t) && subN m.T n.T) && subN m.L n.L) && subN n.O m.O) && decide (m.c ≤ n.c))
theorem and_lt {a b c : Nat} (h : a &&& c = a) (hc : c < b) : a < b := by
  have h1 : a &&& c ≤ c := Nat.and_le_right
  omega
theorem or_and {a b m : Nat} (ha : a &&& m = a) (hb : b &&& m = b) : (a ||| b) &&& m = a ||| b := by rw [Nat.and_or_distrib_right, ha, hb]
theorem and_and {a b m : Nat} (hb : b &&& m = b) : (a &&& b) &&& m = a &&& b := by rw [Nat.and_assoc, hb]
theorem Nm.join_ok {m n : Nm} (hm : m.ok) (hn : n.ok) : (m.join n).ok where
  t := bd_join hm.t hn.t
  m8 := by
    show ((m.t.mask.toNat ||| n.t.mask.toNat : Nat) : Int) < 256
    have h1 := hm.m8; have h2 := hn.m8; have h3 := hm.t.m0; have h4 := hn.t.m0
    have : m.t.mask.toNat ||| n.t.mask.toNat < 2 ^ 8 := Nat.or_lt_two_pow (by omega) (by omega)
    omega
  T := or_and hm.T hn.T
  L := or_and hm.L hn.L
  O := and_and hn.O
  k := Nat.or_lt_two_pow (n := 6) hm.k hn.k
  c := by show max m.c n.c ≤ _; have := hm.c; have := hn.c; omega
theorem Nm.top_ok : Nm.top.ok where
  t := trAll_bd 255 (by decide)
  m8 := by decide
  T := by decide
  L := by decide
  O := by decide
  k := by decide
  c := by decide
/-! ### subN -/
theorem subN_self (a : Nat) : subN a a = true := by unfold subN; rw [Nat.and_self]; simp
theorem subN_iff {a b : Nat} : subN a b = true ↔ a &&& b = a := by unfold subN; simp
theorem subN_or (a b : Nat) : subN a (a ||| b) = true := by
  rw [subN_iff]
  apply Nat.eq_of_testBit_eq; intro i
  rw [Nat.testBit_and, Nat.testBit_or]
  cases a.testBit i <;> simp
theorem subN_and (a b : Nat) : subN (a &&& b) a = true := by
  rw [subN_iff, Nat.and_comm a b, Nat.and_assoc, Nat.and_self]
theorem subN_bit {a b : Nat} (h : subN a b = true) (i : Nat) (hi : a.testBit i = true) : b.testBit i = true := by
  rw [subN_iff] at h
  rw [← h, Nat.testBit_and, Bool.and_eq_true] at hi
  exact hi.2
theorem subN_antisymm {a b : Nat} (h : subN a b = true) (k : subN b a = true) : a = b := by
  rw [subN_iff] at h k
  rw [← h, Nat.and_comm, k]
/-! ### leqB -/
theorem leqB_iff {s t : Tr} : leqB s t = true ↔ nf (s.join t) = nf t := by unfold leqB; simp
theorem leqB_self {s : Tr} (h : s.bd) : leqB s s = true := by rw [leqB_iff, join_self h.toOk.g h.m0]
theorem leqB_join {s t : Tr} (h : s.bd) : leqB s (s.join t) = true := by
  rw [leqB_iff, ← join_assoc, join_self h.toOk.g h.m0]
theorem leqB_all {s : Tr} (h : s.bd) (hm : s.mask < 256) : leqB s (trAll 255) = true := by
  rw [leqB_iff]
  have h1 := h.lo31; have h2 := h.hi31; have h3 := h.toOk.le; have h4 := h.m0
  congr 1
  refine tr_ext ?_ ?_ ?_ ?_
  · show min s.lo (-2147483648) = -2147483648; omega
  · show max s.hi 2147483647 = 2147483647; omega
  · refine eq_of_dvd (igcd_nonneg _ _) (by show (0 : Int) ≤ 1; decide) fun k => ?_
    rw [join_dvd]
    exact ⟨fun ⟨_, b, _⟩ => b, fun b => by
      have b : k ∣ 1 := b
      have e := fun x : Int => Int.dvd_trans b (Int.one_dvd x)
      exact ⟨e _, b, e _⟩⟩
  · show ((s.mask.toNat ||| 255 : Nat) : Int) = 255
    have e : s.mask.toNat ||| 255 = 255 := by
      have : s.mask.toNat < 256 := by omega
      generalize s.mask.toNat = x at this
      apply Nat.eq_of_testBit_eq; intro i
      rw [Nat.testBit_or]
      by_cases hi : i < 8
      · have : (255 : Nat).testBit i = true := by
          have : ∀ i, i < 8 → (255 : Nat).testBit i = true := by decide
          exact this i hi
        rw [this, Bool.or_true]
      · rw [Nat.testBit_lt_two_pow (x := x) (Nat.lt_of_lt_of_le this (Nat.pow_le_pow_right (n := 2) (by decide) (show 8 ≤ i by omega)))]; simp
    rw [e]; rfl
structure LeqT (s t : Tr) : Prop where
  lo : t.lo ≤ s.lo
  hi : s.hi ≤ t.hi
  g : t.g ∣ s.g
  d : t.g ∣ s.lo - t.lo
  m : ior s.mask t.mask = t.mask
theorem leqB_out {s t : Tr} (hs : s.bd) (ht : t.bd) (h : leqB s t = true) : LeqT s t := by
  rw [leqB_iff] at h
  have a1 := congrArg Ab.lo h
  have a2 := congrArg Ab.hi h
  have a3 := congrArg Ab.mask h
  have a4 := congrArg Ab.step h
  rw [nf_lo, nf_lo] at a1
  rw [nf_hi, nf_hi] at a2
  rw [nf_mask, nf_mask] at a3
  rw [nf_step (Tr.bd.toOk (bd_join hs ht)), nf_step ht.toOk] at a4
  have a1 : min s.lo t.lo = t.lo := a1
  have a2 : max s.hi t.hi = t.hi := a2
  obtain ⟨b1, b2, b3⟩ := join_dvd.1 (show t.g ∣ (s.join t).g by rw [a4]; exact Int.dvd_refl _)
  exact ⟨by omega, by omega, b1, b3, a3⟩
/-! ### the order -/
theorem Nm.leq_iff {m n : Nm} : m.leq n = true ↔ subN m.k n.k = true ∧ leqB m.t n.t = true ∧ subN m.T n.T = true ∧ subN m.L n.L = true ∧ subN n.O m.O = true ∧ m.c ≤ n.c := by
  unfold Nm.leq
  simp only [Bool.and_eq_true, decide_eq_true_eq, and_assoc]
theorem Nm.leq_self {m : Nm} (h : m.ok) : m.leq m = true := Nm.leq_iff.2 ⟨subN_self _, leqB_self h.t, subN_self _, subN_self _, subN_self _, Nat.le_refl _⟩
theorem Nm.leq_join {m : Nm} (h : m.ok) (n : Nm) : m.leq (m.join n) = true := Nm.leq_iff.2 ⟨subN_or _ _, leqB_join h.t, subN_or _ _, subN_or _ _, subN_and _ _, Nat.le_max_left _ _⟩
theorem Nm.leq_top {m : Nm} (h : m.ok) : m.leq Nm.top = true := Nm.leq_iff.2 ⟨by
    rw [subN_iff]; show m.k &&& (2 ^ 6 - 1) = m.k
    rw [Nat.and_two_pow_sub_one_eq_mod, Nat.mod_eq_of_lt h.k], leqB_all h.t h.m8, subN_iff.2 h.T, subN_iff.2 h.L, subN_iff.2 (Nat.zero_and _), h.c⟩
theorem Nm.join_comm (m n : Nm) : m.join n = n.join m := by
  unfold Nm.join
  rw [Go.Proofs.YtifeioddiddnoaaGreatDoor.join_comm, Nat.or_comm m.T, Nat.or_comm m.L, Nat.and_comm m.O, Nat.or_comm m.k, Nat.max_comm]
theorem Nm.join_assoc (m n q : Nm) : (m.join n).join q = m.join (n.join q) := by
  unfold Nm.join
  simp only [Go.Proofs.YtifeioddiddnoaaGreatDoor.join_assoc, Nat.or_assoc, Nat.and_assoc, Nat.max_assoc]
theorem Nm.join_self {m : Nm} (h : m.ok) : m.join m = m := by
  unfold Nm.join
  rw [Go.Proofs.YtifeioddiddnoaaGreatDoor.join_self h.t.toOk.g h.t.m0, Nat.or_self, Nat.or_self, Nat.and_self, Nat.or_self, Nat.max_self]
theorem Nm.leq_top_not {m : Nm} (h : m.c ≤ 65535) : Nm.top.leq m = false := by
  have : ¬ Nm.top.leq m = true := fun hh => by
    have := (Nm.leq_iff.1 hh).2.2.2.2.2
    have : (1099511627776 : Nat) ≤ m.c := this
    omega
  simpa using this
end Go.Proofs.YtifeioddiddnoaaGreatDoor
