/- What clone and New of package gap compute. Conditions: sizes. -/
import Derived.Test.YtajlmkokfgbjdaaGap1
set_option linter.unusedVariables false
set_option linter.unusedSimpArgs false
namespace Go.Proofs.Ytajlmkokfgbjdaa
open Go.RowKit

/-- Sizes of matrices. -/
def Small (g : List (List Int)) : Prop := 0 < g.length ∧ g.length ≤ 1000 ∧ ∀ i, (g.getD i []).length ≤ 1000
theorem set_self {α : Type} (l : List α) (i : Nat) (d : α) (hi : i < l.length) : l.set i (l.getD i d) = l := by
  apply List.ext_getElem? ; intro j
  rw [List.getElem?_set]
  by_cases h : i = j
  · subst h; simp [hi]
  · simp [h]

/-- The row of a matrix that came in. -/
theorem Mx.row {w : World} {a : Option Addr} {n cap : Nat} {g : List (List Int)} (h : Mx w (.slice a n cap) g) : n = g.length ∧ g.length ≤ cap ∧ (0 < g.length → ∃ b o, a = some ⟨b, o, none⟩ ∧ b < w.heap.size ∧ ∀ i, i < g.length → ∃ r, w.cell? ⟨b, o + i, none⟩ = some r ∧ Sl .i64 w r (g.getD i [])) := by
  obtain ⟨a', cap', he, h1, h2, h3, h4⟩ := h
  simp only [Value.slice.injEq] at he
  obtain ⟨rfl, rfl, rfl⟩ := he
  exact ⟨rfl, h1, h4⟩

set_option maxHeartbeats 1000000 in
theorem clone_any (v : Value) (g : List (List Int)) (w : World) (hg : Small g) (hs : Mx w v g) :
    Calls Try.prog 46 #[v] w fun e w' => ∃ v', e = .returned v' ∧ OwnM w.heap.size w' v' g ∧ Below w.heap.size w w' := by
  obtain ⟨hg0, hg1, hg2⟩ := hg
  have HS := hid hs
  have HG := hid hg2
  obtain ⟨a, cap, rfl, hc, hm, ha, hf⟩ := hs
  obtain ⟨b, o, rfl, hlt, hcell⟩ := hf hg0
  have HC := hid hcell
  obtain ⟨n, hn⟩ : ∃ n, g.length = n := ⟨_, rfl⟩
  have HN := hid hn
  have cO := hid (cloneOuter_any (.slice (some ⟨b, o, none⟩) g.length cap) g w (by omega) hg0 HS.out)
  rw [hn] at cO hc hg0 hg1 ⊢
  clear hf ha hcell hg2 hn hm
  go_enter Try.func46, Try.ntmps46
  go_wp2_with fail
  refine cO.out.mono ?_
  rintro e w1 ⟨v1, rfl, ho, hb⟩
  obtain ⟨gb, cp, rfl, hgb0, hgb1, hcp0, hcp1⟩ := ho.form (by rw [HN.out]; exact hg0)
  rw [HN.out] at ho ⊢
  have HO := hid ho
  clear ho hcp1
  go_wp2_with fail
  go_loopw [9] (fun kv wr => ∃ k : Nat, kv = .int .i64 k ∧ k ≤ n ∧ Hid (OwnS w.heap.size wr (.slice (some ⟨gb, 0, none⟩) n cp) g (fun j => j < k)) ∧ Below w.heap.size w wr ∧ gb < wr.heap.size) (fun kv _ => n - (intOf kv).toNat)
  case atStart => exact ⟨0, rfl, Nat.zero_le _, HO.out.weaken (fun i _ => ⟨fun h => absurd h (Nat.not_lt_zero i), fun h => h.elim⟩), hb, hgb1⟩
  case round =>
    obtain ⟨k, rfl, hk, hown, hbel, hgs⟩ := hrel
    by_cases hlt' : k < n
    · obtain ⟨r, hr1, hr2⟩ := HC.out k (by rw [HN.out]; exact hlt')
      have hlow : w.heap.size ≤ wr.heap.size := hbel.size
      have hcr := (hbel.cell (p := ⟨b, o + k, none⟩) hlt).trans hr1
      have i1 : (0 : Int) ≤ (k : Int) := by omega
      have i2 : (k : Int) < (n : Int) := by omega
      have cR := hid (cloneRow_any r (g.getD k []) wr (by have := HG.out k; omega) (hr2.stays hbel))
      clear hr1 hr2
      go_wp2_with fail
      refine cR.out.mono ?_
      rintro e w2 ⟨r', rfl, ho2, hb2⟩
      obtain ⟨ra, rc, rfl, _⟩ := ho2.sl
      have hk2 := hown.out.kept hb2
      obtain ⟨q, hq1, hq2, _, _⟩ := hk2.row k (by rw [HN.out]; exact hlt')
      have hput := hk2.put k (by rw [HN.out]; exact hlt') (r := .slice ra (g.getD k []).length rc) (xs := g.getD k []) (ho2.mono hlow) (H := wr.heap.size) (fun b hb => ho2.block_ge b hb) (by
        intro j q' hj hcq hjk b' hb'
        obtain ⟨q'', h1, _⟩ := hown.out.row j hj
        have h2 := (hb2.cell (p := ⟨gb, j, none⟩) hgs).trans h1
        rw [hcq] at h2
        obtain rfl := Option.some.inj h2
        exact hown.out.rowBlock j _ hj h1 hjk b' hb')
      rw [set_self _ _ _ (by rw [HN.out]; exact hlt')] at hput
      have HP := hid (hput.weaken (S' := fun j => j < k + 1) (fun i _ => ⟨fun h => (by rcases Nat.lt_or_ge i k with h1 | h1; exact .inl h1; exact .inr (by omega)), fun h => h.elim (fun h => by omega) (fun h => by omega)⟩))
      have hB : Below w.heap.size w (w2.setCell ⟨gb, k, none⟩ (.slice ra (g.getD k []).length rc)) := ((hbel.trans (hb2.mono hlow))).setCell (p := ⟨gb, k, none⟩) hgb0 _
      have hgs2 : gb < (w2.setCell ⟨gb, k, none⟩ (.slice ra (g.getD k []).length rc)).heap.size := by have := hb2.size; simp [World.setCell]; omega
      clear hk2 hput ho2
      go_wp2_with fail
      go_roundw
      case rel => exact ⟨k + 1, by go_num, by omega, HP, hB, hgs2⟩
      case measure => simp [intOf]; omega
    · obtain rfl : k = n := by omega
      have HF := hid (hown.out.all (fun i hi => by rw [HN.out] at hi; exact hi))
      clear hown
      go_wp2_with fail
      go_ret
      exact ⟨_, rfl, HF.out, hbel⟩
end Go.Proofs.Ytajlmkokfgbjdaa
