/- Texts of summaries that numbers say: what is read of them. No conditions. -/
import Derived.Test.YtifeioddiddnoaaGreatDoorScI
import Derived.Test.YtifeioddiddnoaaGreatDoorScJ
set_option linter.unusedVariables false
set_option linter.unusedSimpArgs false
namespace Go.Proofs.YtifeioddiddnoaaGreatDoor
open Go.Abs Go Go.RowKit
theorem prT_len : ∀ l : List Pr, (∀ p, p ∈ l → (-9223372036854775808 ≤ p.a ∧ p.a ≤ 9223372036854775807) ∧ -9223372036854775808 ≤ p.b ∧ p.b ≤ 9223372036854775807) → (prT l).length ≤ 49 * l.length
  | [], _ => Nat.le_refl _
  | p :: l, h => by
    have ih := prT_len l (fun q hq => h q (by simp [hq]))
    have hp := h p (by simp)
    have := putW_len [p.a, p.b] (fun n hn => by
      simp only [List.mem_cons, List.not_mem_nil, or_false] at hn
      rcases hn with rfl | rfl
      · exact hp.1
      · exact hp.2)
    unfold prT at ih ⊢
    rw [List.flatMap_cons, List.length_append, List.length_append]
    simp only [List.length_cons, List.length_nil] at this ⊢
    omega
theorem hdT_len (s : Sy) (h : s.rng) : (hdT s).length ≤ 264 := by
  have hh := hd_rng h
  simp only [hdNs, List.mem_cons, List.not_mem_nil, or_false, forall_eq_or_imp, forall_eq] at hh
  obtain ⟨h1, h2, h3, h4, h5, h6, h7, h8, h9, h10⟩ := hh
  have k1 := itoa_len _ h1
  have k2 := itoa_len _ h2
  have k3 := itoa_len _ h3
  have k4 := itoa_len _ h4
  have k5 := itoa_len _ h5
  have k6 := itoa_len _ h6
  have k7 := itoa_len _ h7
  have k8 := itoa_len _ h8
  have k9 := itoa_len _ h9
  have k10 := itoa_len _ h10
  unfold hdT
  simp only [putW, List.flatMap_cons, List.flatMap_nil, List.append_nil, List.length_append, List.length_cons, List.length_nil]
  omega
theorem textB_len (s : Sy) (h : s.rng) : (textB s).length ≤ 264 + 49 * s.pairs.length := by
  have h1 := hdT_len s h
  have h2 := prT_len s.pairs (fun p hp => pr_rng h hp)
  unfold textB
  rw [List.length_append]
  omega
theorem textB_pos (s : Sy) : 0 < (textB s).length := by
  unfold textB hdT
  simp only [List.length_append, List.length_cons]
  omega
def txB (s : Sy) : BA := ⟨(textB s).toArray⟩
theorem txB_size (s : Sy) : (txB s).size = (textB s).length := by simp [txB, ByteArray.size]
theorem good_self {s : Sy} (h : s.rng) (h0 : ∀ p, p ∈ s.pairs → p.site = 0) (h1 : s.pairs.length ≤ 30) : Good s (txB s) where
  rng := h
  site := h0
  text := by simp [txB]
  size := by rw [txB_size]; have := textB_len s h; omega
def rdPr : List Int → List Pr
  | a :: b :: l => ⟨a, b, 0⟩ :: rdPr l
  | _ => []
theorem rdPr_prW : ∀ (l : List Pr), (∀ p, p ∈ l → p.site = 0) → rdPr (prW l) = l
  | [], _ => rfl
  | ⟨a, b, c⟩ :: l, h => by
    have h0 : c = 0 := h ⟨a, b, c⟩ (by simp)
    subst h0
    show rdPr (a :: b :: prW l) = _
    rw [rdPr, rdPr_prW l (fun p hp => h p (by simp [hp]))]
theorem w_inj {s t : Sy} (hs : ∀ p, p ∈ s.pairs → p.site = 0) (ht : ∀ p, p ∈ t.pairs → p.site = 0) (h : s.w = t.w) : s = t := by
  obtain ⟨x1, ⟨x2, x3, x4, x5, x6⟩, x7, x8, x9, l, x11⟩ := s
  obtain ⟨y1, ⟨y2, y3, y4, y5, y6⟩, y7, y8, y9, m, y11⟩ := t
  simp only [Sy.w, List.cons_append, List.nil_append, List.cons.injEq] at h
  obtain ⟨rfl, rfl, rfl, rfl, rfl, rfl, rfl, rfl, rfl, rfl, h⟩ := h
  have : l = m := by rw [← rdPr_prW l hs, h, rdPr_prW m ht]
  rw [this]
theorem sites_refl : ∀ l : List Pr, sitesB l l = true
  | [] => rfl
  | x :: l => by
    have h : sitesB (x :: l) (x :: l) = (decide (x.site = x.site) && sitesB l l) := rfl
    rw [h, sites_refl l, decide_eq_true rfl]; rfl
theorem same_refl (s : Sy) : sameB s s = true := by
  unfold sameB
  rw [sites_refl, decide_eq_true rfl]; rfl
theorem same_text {s t : Sy} (hs : Good s (txB s)) (ht : Good t (txB t)) : sameB s t = decide (txB t = txB s) := by
  by_cases h : s = t
  · subst h
    rw [same_refl, decide_eq_true rfl]
  · have h1 : ¬ txB t = txB s := fun e => h (hs.inj (e ▸ ht))
    have h2 : ¬ s.w = t.w := fun e => h (w_inj hs.site ht.site e)
    unfold sameB
    rw [decide_eq_false h1, decide_eq_false h2, Bool.and_false]
theorem same_words {s t : Sy} (h : sameB s t = true) : s.w = t.w := by
  unfold sameB at h
  rw [Bool.and_eq_true] at h
  exact of_decide_eq_true h.2
theorem prOf_ab (k : Nat) : ∀ p, p ∈ prOf k → p.site = 0 ∧ (0 ≤ p.a ∧ p.a ≤ 2) ∧ (0 ≤ p.b ∧ p.b ≤ 2) := by
  intro x hx
  unfold prOf at hx
  rw [List.mem_filterMap] at hx
  obtain ⟨i, hi, h⟩ := hx
  have hi : i < 6 := by simpa using hi
  split at h
  · have : ∀ i, i < 6 → ∀ x, prAll[i]? = some x → x.site = 0 ∧ (0 ≤ x.a ∧ x.a ≤ 2) ∧ (0 ≤ x.b ∧ x.b ≤ 2) := by
      intro i hi x hx
      match i, hi with
      | 0, _ => cases hx; decide
      | 1, _ => cases hx; decide
      | 2, _ => cases hx; decide
      | 3, _ => cases hx; decide
      | 4, _ => cases hx; decide
      | 5, _ => cases hx; decide
    exact this i hi x h
  · cases h
theorem nm_rng {m : Nm} (h : m.ok) : m.sy.rng where
  w := by
    have a1 := h.t.lo31; have a2 := h.t.hi31; have a3 := h.t.toOk.le; have a4 := h.t.m0; have a5 := h.m8; have a6 := h.t.toOk.g
    have g1 := h.t.g32
    have t1 := and_lt (b := 4294967296) h.T (by decide)
    have t2 := and_lt (b := 8) h.L (by decide)
    have t3 := and_lt (b := 8) h.O (by decide)
    have t4 := h.c
    have r1 : (nf m.t).lo = m.t.lo := nf_lo _
    have r2 : (nf m.t).hi = m.t.hi := nf_hi
    have r3 : (nf m.t).mask = m.t.mask := nf_mask _
    have r4 : (0 ≤ (nf m.t).m ∧ (nf m.t).m ≤ 4294967296) ∧ 0 ≤ (nf m.t).r ∧ (nf m.t).r ≤ 4294967296 := by
      unfold nf
      by_cases e : m.t.lo = m.t.hi
      · rw [if_pos e]; dsimp only; omega
      · rw [if_neg e]
        dsimp only
        have hg : m.t.g ≠ 0 := fun k => e (h.t.toOk.z.1 k)
        have b1 := Int.emod_nonneg m.t.lo hg
        have b2 := Int.emod_lt_of_pos m.t.lo (show 0 < m.t.g by omega)
        omega
    intro n hn
    unfold Sy.w Nm.sy at hn
    rcases List.mem_append.1 hn with hn | hn
    · dsimp only at hn
      rw [r1, r2, r3] at hn
      obtain ⟨u, hu⟩ : ∃ u, u = (nf m.t).m := ⟨_, rfl⟩
      obtain ⟨v, hv⟩ : ∃ u, u = (nf m.t).r := ⟨_, rfl⟩
      rw [← hu, ← hv] at hn r4
      simp only [List.mem_cons, List.not_mem_nil, or_false] at hn
      rcases hn with rfl | rfl | rfl | rfl | rfl | rfl | rfl | rfl | rfl | rfl <;> omega
    · obtain ⟨p, hp, hn⟩ := List.mem_flatMap.1 hn
      have := prOf_ab m.k p hp
      simp only [List.mem_cons, List.not_mem_nil, or_false] at hn
      rcases hn with rfl | rfl <;> omega
  n := by show (prOf m.k).length ≤ 1000; have := prOf_len m.k; omega
theorem nm_good {m : Nm} (h : m.ok) : Good m.sy (txB m.sy) := good_self (nm_rng h) (fun p hp => (prOf_ab m.k p hp).1) (by show (prOf m.k).length ≤ 30; have := prOf_len m.k; omega)
end Go.Proofs.YtifeioddiddnoaaGreatDoor
