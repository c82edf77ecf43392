/- No proper beginning of the words of a definition is read, and nothing that goes on behind them. No program. -/
import Derived.Test.YtmfccaidgaelcaaEp1
import Derived.Test.YtmfccaidgaelcaaEp2
set_option linter.unusedVariables false
set_option linter.unusedSimpArgs false
namespace Go.Proofs.Ytmfccaidgaelcaa
def rdAl (ws t : List Int) : Option Df := match rdDf 200000 ws with
  | some (d, []) => if t = [] then some d else none
  | _ => none
theorem bsL_pre (n : Nat) (l : List Int) : bsL (l.take n) = (bsL l).take (8 * (l.take n).length) := by
  conv => rhs; rw [← List.take_append_drop n l, bsL_app]
  rw [List.take_append_drop, List.take_append_of_le_length (by rw [bsL_len]; exact Nat.le_refl _), ← bsL_len, List.take_length]
theorem pre_words {a b : List Int} {x y : List Int} (ha : ∀ w, w ∈ a → I64' w) (hb : ∀ w, w ∈ b → I64' w) (e : bsL a ++ x = bsL b ++ y) (hl : a.length ≤ b.length) : a = b.take a.length := by
  have h1 := congrArg (List.take (8 * a.length)) e
  rw [List.take_append_of_le_length (by rw [bsL_len]; exact Nat.le_refl _), List.take_append_of_le_length (by rw [bsL_len]; omega), ← bsL_len, List.take_length, bsL_len] at h1
  have hm : (b.take a.length).length = a.length := by rw [List.length_take]; omega
  have h2 := bsL_pre a.length b
  rw [hm] at h2
  exact bsL_inj a _ ha (fun w hw => hb w (List.mem_of_mem_take hw)) (h1.trans h2.symm)
theorem rd_more (d : Df) (ok : d.ok) (r : List Int) (h : (d.w ++ r).length < 200000) : rdDf 200000 (d.w ++ r) = some (d, r) := df_inv 200000 d r ok h
theorem rd_long {d : Df} (ok : d.ok) (h64 : ∀ x, x ∈ d.w → I64' x) {ws t m : List Int} (iws : ∀ x, x ∈ ws → I64' x) (hm : m ≠ []) (ht : t.length < 8) (e : bsL d.w ++ m = bsL ws ++ t) (hl : ws.length < 200000) : rdAl ws t = none := by
  have hlen := congrArg List.length e
  rw [List.length_append, List.length_append, bsL_len, bsL_len] at hlen
  have hle : d.w.length ≤ ws.length := by omega
  have h1 := pre_words h64 iws e hle
  have h2 : ws = d.w ++ ws.drop d.w.length := by
    conv => lhs; rw [← List.take_append_drop d.w.length ws, ← h1]
  obtain ⟨r, hr⟩ : ∃ r, r = ws.drop d.w.length := ⟨_, rfl⟩
  rw [← hr] at h2
  have h3 := rd_more d ok r (by rw [← h2]; exact hl)
  unfold rdAl
  rw [h2, h3]
  cases r with
  | cons x r => rfl
  | nil =>
    have : t ≠ [] := by
      rintro rfl
      rw [List.append_nil] at h2
      rw [h2, List.append_nil] at e
      exact hm (by simpa using e)
    simp only [if_neg this]
theorem rdAl_w (d : Df) (ok : d.ok) (h : d.w.length < 200000) : rdAl d.w [] = some d := by
  have := rd_more d ok [] (by rw [List.append_nil]; exact h)
  rw [List.append_nil] at this
  unfold rdAl
  rw [this]; rfl
theorem rdAl_inv {ws t : List Int} {e : Df} (h : rdAl ws t = some e) : t = [] ∧ e.ok ∧ e.w = ws := by
  unfold rdAl at h
  split at h
  · rename_i d hd
    by_cases ht : t = []
    · rw [if_pos ht] at h
      cases h
      have := df_can 200000 _ _ _ hd
      exact ⟨ht, this.2, by have := this.1; simpa using this.symm⟩
    · rw [if_neg ht] at h; cases h
  · cases h
theorem rd_short {d : Df} (ok : d.ok) (h64 : ∀ x, x ∈ d.w → I64' x) {ws t : List Int} (iws : ∀ x, x ∈ ws → I64' x) {k : Nat} (hk : k < 8 * d.w.length) (ht : t.length < 8) (e : (bsL d.w).take k = bsL ws ++ t) (hl : d.w.length < 200000) : rdAl ws t = none := by
  cases h : rdAl ws t with
  | none => rfl
  | some x =>
    obtain ⟨rfl, okx, hx⟩ := rdAl_inv h
    have hlen := congrArg List.length e
    rw [List.append_nil, List.length_take, bsL_len, bsL_len] at hlen
    have e2 : bsL ws ++ (bsL d.w).drop k = bsL d.w ++ [] := by
      rw [List.append_nil] at e ⊢
      rw [← e, List.take_append_drop]
    have h1 := pre_words iws h64 e2 (by omega)
    have h2 : d.w = ws ++ d.w.drop ws.length := by
      conv => lhs; rw [← List.take_append_drop ws.length d.w, ← h1]
    obtain ⟨r, hr⟩ : ∃ r, r = d.w.drop ws.length := ⟨_, rfl⟩
    rw [← hr, ← hx] at h2
    have h3 := rd_more x okx r (by rw [← h2]; exact hl)
    have h4 := rd_more d ok [] (by rw [List.append_nil]; exact hl)
    rw [← h2] at h3
    rw [List.append_nil, h3] at h4
    cases h4
    have := congrArg List.length hx
    omega
end Go.Proofs.Ytmfccaidgaelcaa
