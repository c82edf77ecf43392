/- The maker of programs: there is a thread. No program. -/
import Derived.Test.YtmfccaidgaelcaaEp11
set_option linter.unusedVariables false
set_option linter.unusedSimpArgs false
namespace Go.Proofs.Ytmfccaidgaelcaa
theorem gDef_thr (E : Ev) (id : Nat) (s : Ms) : (gDef E id true s).1.params = [] ∧ (gDef E id true s).1.given = [] := by
  have h1 : (gD5 E id true s).1.params = [] ∧ (gD5 E id true s).1.given = [] := by
    unfold gD5
    dsimp only
    obtain ⟨a, ha⟩ : ∃ a, a = gD1 E (gD0 E id s).1 true (gD0 E id s).2 := ⟨_, rfl⟩
    have h : a.1.params = [] := by rw [ha]; rfl
    rw [← ha]
    obtain ⟨b, hb⟩ : ∃ b, b = gD2 E a.1 true a.2 := ⟨_, rfl⟩
    have h2 : b.1.params = [] ∧ b.1.given = [] := by
      rw [hb]
      refine ⟨h, ?_⟩
      unfold gD2
      dsimp only
      rw [if_neg (fun k => by cases k.2)]
    rw [← hb]
    obtain ⟨c, hc⟩ : ∃ c, c = gD3 E b.1 b.2 := ⟨_, rfl⟩
    have h3 : c.1.params = [] ∧ c.1.given = [] := by rw [hc]; exact h2
    rw [← hc]
    unfold gD4
    rw [if_pos (by rw [h3.1]; rfl)]
    exact h3
  exact h1
theorem gDefs_thr (n : Nat) : ∀ (j : Nat) (E : Ev) (s : Ms), 0 < j → ∃ d l, (gDefs n j E s).1.ds = l ++ [d] ∧ d.params = [] ∧ d.given = []
  | 0, E, s, h => absurd h (Nat.lt_irrefl 0)
  | j + 1, E, s, _ => by
    unfold gDefs
    by_cases hj : j = 0
    · subst hj
      rw [if_pos rfl]
      exact ⟨_, _, rfl, (gDef_thr E _ s).1, (gDef_thr E _ s).2⟩
    · rw [if_neg hj]
      exact gDefs_thr n j _ _ (by omega)
theorem gThr_ge (ds : List Df) : ∀ (i : Nat) (l : List Int), l.length ≤ (gThr ds i l).length
  | 0, l => Nat.le_refl _
  | i + 1, l => by
    unfold gThr
    split
    · split
      · exact Nat.le_trans (by simp) (gThr_ge ds i _)
      · exact gThr_ge ds i l
    · exact Nat.le_refl _
theorem gThr_pos (n : Nat) (E : Ev) (s : Ms) (hn : 0 < n) (hl : (gDefs n n E s).1.ds.length = n) : 1 ≤ (gThr (gDefs n n E s).1.ds n []).length := by
  obtain ⟨d, l, h1, h2, h3⟩ := gDefs_thr n n E s hn
  obtain ⟨m, rfl⟩ : ∃ m, n = m + 1 := ⟨n - 1, by omega⟩
  rw [h1] at hl ⊢
  have hm : l.length = m := by simpa using hl
  have hg : (l ++ [d]).getD m zDf = d := by
    rw [List.getD_eq_getElem?_getD, ← hm, List.getElem?_append_right (Nat.le_refl _)]; simp
  unfold gThr
  rw [if_pos (by simp), hg, h2, h3, if_pos (show ([] : List Rg).length + ([] : List Rg).length = 0 from rfl)]
  exact Nat.le_trans (by simp) (gThr_ge _ m _)
end Go.Proofs.Ytmfccaidgaelcaa
