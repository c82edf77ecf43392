/- What summaries in normal form allow. No program. -/
import Derived.Test.YtifeioddiddnoaaGreatDoorScJ
set_option linter.unusedVariables false
set_option linter.unusedSimpArgs false
namespace Go.Proofs.YtifeioddiddnoaaGreatDoor
open Go.Abs Go Go.RowKit
theorem within_iff {t : Tr} (h : t.bd) {v : Int} : withinB (nf t) v = true ↔ t.lo ≤ v ∧ v ≤ t.hi ∧ t.g ∣ v - t.lo := by
  unfold withinB
  rw [nf_lo, nf_hi]
  simp only [Bool.and_eq_true, decide_eq_true_eq, and_assoc]
  constructor
  · rintro ⟨h1, h2, h3⟩
    refine ⟨h1, h2, ?_⟩
    unfold nf at h3
    split at h3
    · rename_i e
      have : v = t.lo := by omega
      subst this
      rw [Int.sub_self]; exact Int.dvd_zero _
    · exact Int.dvd_of_tmod_eq_zero h3
  · rintro ⟨h1, h2, h3⟩
    refine ⟨h1, h2, ?_⟩
    unfold nf
    split
    · show Int.tmod _ 1 = 0
      exact Int.tmod_one _
    · exact Int.tmod_eq_zero_of_dvd h3
theorem ofInt_nat {n : Nat} : BitVec.ofInt 64 (n : Int) = BitVec.ofNat 64 n := by
  apply BitVec.eq_of_toNat_eq
  rw [BitVec.toNat_ofInt, BitVec.toNat_ofNat]
  omega
theorem inM_mono {k : Int} {s t : Nat} (h : s ||| t = t) (hk : inM k (s : Int) = true) : inM k (t : Int) = true := by
  rw [inM_iff, ofInt_nat] at hk ⊢
  apply BitVec.eq_of_getLsbD_eq
  intro i hi
  have h1 := congrArg (fun v : BitVec 64 => v.getLsbD i) hk
  have h2 := congrArg (fun v : Nat => v.testBit i) h
  simp only [Nat.testBit_or] at h2
  simp only [BitVec.getLsbD_and, BitVec.getLsbD_not, BitVec.getLsbD_ofNat, hi, decide_true, Bool.true_and, BitVec.getLsbD_zero] at h1 ⊢
  cases h3 : s.testBit i <;> cases h4 : t.testBit i <;> simp_all
theorem has_mono {s t : Tr} (hs : s.bd) (ht : t.bd) (h : LeqT s t) {v k : Int} (hh : hasB (nf s) v k = true) : hasB (nf t) v k = true := by
  unfold hasB at hh ⊢
  rw [Bool.and_eq_true] at hh ⊢
  rw [within_iff hs, nf_mask] at hh
  rw [within_iff ht, nf_mask]
  obtain ⟨⟨h1, h2, h3⟩, h4⟩ := hh
  have a1 := h.lo
  have a2 := h.hi
  refine ⟨⟨by omega, by omega, ?_⟩, ?_⟩
  · exact sub_dvd (Int.dvd_trans h.g h3) h.d
  · have b1 := hs.m0; have b2 := ht.m0
    obtain ⟨x, hx⟩ : ∃ x : Nat, s.mask = x := ⟨s.mask.toNat, by omega⟩
    obtain ⟨y, hy⟩ : ∃ x : Nat, t.mask = x := ⟨t.mask.toNat, by omega⟩
    have hm := h.m
    rw [hx] at h4 hm
    rw [hy] at hm ⊢
    rw [ior_nat] at hm
    exact inM_mono (by omega) h4
theorem fdiv_pow (T n : Nat) : Int.fdiv (T : Int) (2 ^ n) = ((T / 2 ^ n : Nat) : Int) := by
  have : ((2 : Int) ^ n) = ((2 ^ n : Nat) : Int) := by simp
  rw [this, Int.fdiv_eq_ediv_of_nonneg _ (Int.natCast_nonneg _)]
  rfl
theorem thr_nat {T : Nat} {n : Int} : thrB (T : Int) n = ((decide (1 ≤ n) && decide (n ≤ 31)) && T.testBit n.toNat) := by
  unfold thrB
  congr 1
  rw [fdiv_pow, ofInt_nat]
  have e1 : BitVec.ofInt 64 1 = BitVec.ofNat 64 1 := rfl
  rw [e1, ← BitVec.ofNat_and]
  have hlt : (T / 2 ^ n.toNat) &&& 1 = (T / 2 ^ n.toNat) % 2 := Nat.and_one_is_mod _
  rw [hlt, BitVec.toNat_ofNat]
  have h2 : (T / 2 ^ n.toNat) % 2 < 2 := Nat.mod_lt _ (by decide)
  rw [Nat.mod_eq_of_lt (by omega : T / 2 ^ n.toNat % 2 < 2 ^ 64), wrap_i64 ⟨by omega, by omega⟩, Nat.testBit_eq_decide_div_mod_eq]
  by_cases h : T / 2 ^ n.toNat % 2 = 1
  · rw [decide_eq_true h, decide_eq_true (by omega)]
  · rw [decide_eq_false h, decide_eq_false (by omega)]
theorem allows_mono {m n : Nm} (hm : m.ok) (hn : n.ok) (h : m.leq n = true) {v k t : Int} (ha : allowsB m.sy v k t = true) : allowsB n.sy v k t = true := by
  obtain ⟨h1, h2, h3, h4, h5, h6⟩ := Nm.leq_iff.1 h
  unfold allowsB at ha ⊢
  split at ha
  · rename_i e
    rw [if_pos e]
    exact has_mono hm.t hn.t (leqB_out hm.t hn.t h2) ha
  · rename_i e
    rw [if_neg e]
    have ha : thrB (m.T : Int) t = true := ha
    show thrB (n.T : Int) t = true
    rw [thr_nat, Bool.and_eq_true] at ha ⊢
    exact ⟨ha.1, subN_bit h3 _ ha.2⟩
theorem allows_join {m n : Nm} (hm : m.ok) (hn : n.ok) {v k t : Int} (ha : allowsB m.sy v k t = true ∨ allowsB n.sy v k t = true) : allowsB (m.join n).sy v k t = true := by
  have o := Nm.join_ok hm hn
  rcases ha with ha | ha
  · exact allows_mono hm o (Nm.leq_join hm n) ha
  · refine allows_mono hn o ?_ ha
    rw [Nm.join_comm]; exact Nm.leq_join hn m
theorem inM_255 {k : Int} (hk : -9223372036854775808 ≤ k ∧ k ≤ 9223372036854775807) : inM k 255 = (decide (k ≥ 0) && decide (k ≤ 255)) := by
  have key : BitVec.ofInt 64 k &&& ~~~BitVec.ofInt 64 255 = 0#64 ↔ 0 ≤ k ∧ k ≤ 255 := by
    have e2 : BitVec.ofInt 64 255 = BitVec.ofNat 64 255 := rfl
    rw [e2]
    have hx : ∀ x : BitVec 64, x &&& ~~~BitVec.ofNat 64 255 = 0#64 ↔ x.toNat < 256 := by
      intro x
      constructor
      · intro h
        have : x = x &&& BitVec.ofNat 64 255 := by
          apply BitVec.eq_of_getLsbD_eq
          intro i hi
          have h1 := congrArg (fun v : BitVec 64 => v.getLsbD i) h
          simp only [BitVec.getLsbD_and, BitVec.getLsbD_not, hi, decide_true, Bool.true_and, BitVec.getLsbD_zero] at h1 ⊢
          cases h3 : x.getLsbD i <;> cases h4 : (BitVec.ofNat 64 255).getLsbD i <;> simp_all
        rw [this, BitVec.toNat_and]
        have : (BitVec.ofNat 64 255).toNat = 255 := rfl
        have := Nat.and_le_right (n := x.toNat) (m := (BitVec.ofNat 64 255).toNat)
        omega
      · intro h
        have h8 : x.toNat &&& 255 = x.toNat := by
          show x.toNat &&& (2 ^ 8 - 1) = x.toNat
          rw [Nat.and_two_pow_sub_one_eq_mod, Nat.mod_eq_of_lt h]
        apply BitVec.eq_of_getLsbD_eq
        intro i hi
        have h1 := congrArg (fun v : Nat => v.testBit i) h8
        simp only [Nat.testBit_and] at h1
        simp only [BitVec.getLsbD_and, BitVec.getLsbD_not, BitVec.getLsbD_ofNat, hi, decide_true, Bool.true_and, BitVec.getLsbD_zero]
        have h5 : x.getLsbD i = x.toNat.testBit i := rfl
        rw [h5]
        cases h3 : x.toNat.testBit i <;> cases h4 : (255 : Nat).testBit i <;> simp_all
    rw [hx, BitVec.toNat_ofInt]
    omega
  have h := inM_iff (x := k) (m := 255)
  rw [key] at h
  cases h1 : inM k 255
  · rw [h1] at h
    by_cases h2 : 0 ≤ k
    · have : ¬ k ≤ 255 := fun h3 => by have := h.2 ⟨h2, h3⟩; cases this
      rw [decide_eq_false this, Bool.and_false]
    · rw [decide_eq_false h2, Bool.false_and]
  · have := h.1 h1
    rw [decide_eq_true this.1, decide_eq_true this.2]; rfl
def fitsB (v k : Int) : Bool := ((decide (v ≥ -2147483648) && decide (v ≤ 2147483647)) && decide (k ≥ 0)) && decide (k ≤ 255)
theorem allows_top0 {v k : Int} (hk : -9223372036854775808 ≤ k ∧ k ≤ 9223372036854775807) : allowsB Nm.top.sy v k 0 = fitsB v k := by
  have e : allowsB Nm.top.sy v k 0 = hasB (nf (trAll 255)) v k := by unfold allowsB; rw [if_pos rfl]; rfl
  rw [e]
  unfold hasB fitsB
  rw [nf_mask, show (trAll 255).mask = 255 from rfl, inM_255 hk, Bool.and_assoc]
  congr 1
  have hw := within_iff (v := v) (trAll_bd 255 (by decide))
  have hg : (trAll 255).g ∣ v - (trAll 255).lo := Int.one_dvd _
  cases h1 : withinB (nf (trAll 255)) v
  · rw [h1] at hw
    by_cases h2 : v ≥ -2147483648
    · have : ¬ v ≤ 2147483647 := fun h3 => by have := hw.2 ⟨h2, h3, hg⟩; cases this
      rw [decide_eq_false this, Bool.and_false]
    · rw [decide_eq_false h2, Bool.false_and]
  · obtain ⟨h2, h3, _⟩ := hw.1 h1
    have h2 : v ≥ -2147483648 := h2
    have h3 : v ≤ 2147483647 := h3
    rw [decide_eq_true h2, decide_eq_true h3]; rfl
theorem allows_topT {v k t : Int} (ht : t ≠ 0) : allowsB Nm.top.sy v k t = (decide (t ≥ 1) && decide (t ≤ 31)) := by
  have e : allowsB Nm.top.sy v k t = thrB ((4294967294 : Nat) : Int) t := by unfold allowsB; rw [if_neg ht]; rfl
  rw [e, thr_nat]
  by_cases h1 : 1 ≤ t
  · by_cases h2 : t ≤ 31
    · have : ∀ n, n < 32 → 1 ≤ n → Nat.testBit 4294967294 n = true := by decide
      rw [this t.toNat (by omega) (by omega), Bool.and_true]
    · rw [decide_eq_false h2]; simp
  · rw [decide_eq_false h1]; simp
end Go.Proofs.YtifeioddiddnoaaGreatDoor
