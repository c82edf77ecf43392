/- A place of a matrix of the call's own. No conditions. -/
import Derived.Test.YtajlmkokfgbjdaaOld8
import Derived.Test.YtajlmkokfgbjdaaGapPure2
set_option linter.unusedVariables false
set_option linter.unusedSimpArgs false
namespace Go.Proofs.Ytajlmkokfgbjdaa
open Go.RowKit

/-- A place of a matrix of the call's own: where it lies, and what a store leaves. -/
theorem OwnM.place {base gb n cap : Nat} {w : World} {g : List (List Int)} (h : OwnM base w (.slice (some ⟨gb, 0, none⟩) n cap) g) (i j : Nat) (hi : i < g.length) (hj : j < (g.getD i []).length) :
    ∃ rb cp, w.cell? ⟨gb, i, none⟩ = some (.slice (some ⟨rb, 0, none⟩) (g.getD i []).length cp) ∧ w.cell? ⟨rb, j, none⟩ = some (.int .i64 (Gp.at_ g i j)) ∧ w.frozen? ⟨rb, j, none⟩ = false ∧ base ≤ rb ∧ (∃ cur, w.heap[rb]? = some (.cells cur 3 (0, 0))) ∧
      ∀ x, OwnM base (w.setCell ⟨rb, j, none⟩ (.int .i64 x)) (.slice (some ⟨gb, 0, none⟩) n cap) (g.set i ((g.getD i []).set j x)) ∧ (w.setCell ⟨rb, j, none⟩ (.int .i64 x)).cell? ⟨gb, i, none⟩ = some (.slice (some ⟨rb, 0, none⟩) (g.getD i []).length cp) ∧ (w.setCell ⟨rb, j, none⟩ (.int .i64 x)).cell? ⟨rb, j, none⟩ = some (.int .i64 x) ∧ (w.setCell ⟨rb, j, none⟩ (.int .i64 x)).frozen? ⟨rb, j, none⟩ = false ∧ ∃ cur, (w.setCell ⟨rb, j, none⟩ (.int .i64 x)).heap[rb]? = some (.cells cur 3 (0, 0)) := by
  obtain ⟨r, h1, h2, h3, h4⟩ := OwnS.row h i hi
  have ho := h4 trivial
  obtain ⟨rb, cp, rfl, hb, hlt, _, _⟩ := ho.form (by omega)
  obtain ⟨c1, c2⟩ := ho.cellAt j hj
  have hcur : ∃ cur, w.heap[rb]? = some (.cells cur 3 (0, 0)) := by
    obtain ⟨_, h6⟩ := ho
    rcases h6 with ⟨h7, _⟩ | ⟨g', cap', cur', hv, h7, hc, _⟩
    · simp at h7
    · simp only [Value.slice.injEq, Option.some.injEq, Addr.mk.injEq] at hv
      obtain ⟨⟨rfl, _⟩, _⟩ := hv
      exact ⟨cur', hc⟩
  refine ⟨rb, cp, h1, c1, c2, hb, hcur, fun x => ?_⟩
  obtain ⟨s1, s2, _⟩ := h.store i j x hi h1 rfl hj
  obtain ⟨cur, hcu⟩ := hcur
  have hh := heap_setCell_same w rb j cur 3 (.int .i64 x) hcu
  exact ⟨s1, s2, World.cell?_setCell_same w (a := ⟨rb, j, none⟩) (v := .int .i64 x) c1, by simp [World.frozen?, hh], _, hh⟩

theorem heap_ne_type {w : World} {a b : Nat} {c1 c2 : Array Value} {t1 t2 : TypeId} {f1 f2 : Nat × Nat} (h1 : w.heap[a]? = some (.cells c1 t1 f1)) (h2 : w.heap[b]? = some (.cells c2 t2 f2)) (hne : t1 ≠ t2) : a ≠ b := by
  rintro rfl
  rw [h1] at h2
  injection h2 with h2
  injection h2 with _ h2
  exact hne h2
end Go.Proofs.Ytajlmkokfgbjdaa
