/- Appending a row to a slice of rows of the call's own. Conditions: sizes. -/
import Derived.Test.YtajlmkokfgbjdaaOld12
set_option linter.unusedVariables false
set_option linter.unusedSimpArgs false
namespace Go.Proofs.Ytajlmkokfgbjdaa
open Go.RowKit

theorem Own.grown {base : Nat} {e : TypeId} {k : IntKind} {w w' : World} {r : Value} {xs : List Int} {row : Option Nat} (h : Own base e k w r xs) (hg : w.grownBy w' row) (hne : ∀ b, r.ownBlock = some b → some b ≠ row) : Own base e k w' r xs := by
  obtain ⟨h1, h2⟩ := h
  refine ⟨h1, ?_⟩
  rcases h2 with h2 | ⟨g, cap, cur, rfl, hbg, hgg, c⟩
  · exact .inl h2
  · refine .inr ⟨g, cap, cur, rfl, hbg, ?_, c⟩
    rw [hg.block g (Array.getElem?_eq_some_iff.1 hgg).1 (hne g rfl)]
    exact hgg

theorem OwnM.append {base : Nat} {w0 w w' : World} {v v' row : Value} {g : List (List Int)} {xs : List Int} {rows : List Value} (h1 : w0.ownsRow base 22 1 v g.length rows)
    (h3 : ∀ i, i < g.length → Own base 3 .i64 w0 (rows.getD i undef) (g.getD i []))
    (h4 : ∀ i j b, i < g.length → j < g.length → i ≠ j → (rows.getD i undef).ownBlock = some b → (rows.getD j undef).ownBlock ≠ some b)
    (hb : Below w0.heap.size w0 w) (hr : Own base 3 .i64 w row xs) (hnew : ∀ b, row.ownBlock = some b → w0.heap.size ≤ b)
    (ho : w'.ownsRow base 22 1 v' (g.length + 1) (rows ++ [row])) (hg : w.grownBy w' v.ownBlock) : OwnM base w' v' (g ++ [xs]) := by
  have hlen : rows.length = g.length := by simpa using h1.1
  have hout : ∀ (r : Value) (ys : List Int) (u : World), Below w0.heap.size w0 u → Own base 3 .i64 u r ys → ∀ b, r.ownBlock = some b → some b ≠ v.ownBlock := by
    intro r ys u hbu hor b hbb e
    obtain ⟨_, h6⟩ := h1
    rcases h6 with ⟨rfl, _⟩ | ⟨gb, cap, cur, rfl, _, hc, _⟩
    · simp [Value.ownBlock] at e
    · have hgb : b = gb := by simpa [Value.ownBlock] using e
      subst hgb
      exact hor.ne_outer ((hbu.block b (Array.getElem?_eq_some_iff.1 hc).1).trans hc) hbb
  have hrow : Own base 3 .i64 w' row xs := hr.grown hg (hout row xs w hb hr)
  have hold : ∀ i, i < g.length → Own base 3 .i64 w' (rows.getD i undef) (g.getD i []) := fun i hi => ((h3 i hi).kept hb).grown hg (hout _ _ w hb ((h3 i hi).kept hb))
  have hblk : ∀ i b, i < g.length → (rows.getD i undef).ownBlock = some b → b < w0.heap.size := by
    intro i b hi hbb
    obtain ⟨_, h6⟩ := h3 i hi
    rcases h6 with ⟨h7, _⟩ | ⟨gb, cap, cur, h7, _, hc, _⟩
    · rw [h7] at hbb; simp [Value.ownBlock] at hbb
    · rw [h7] at hbb
      have : gb = b := by simpa [Value.ownBlock] using hbb
      subst this
      exact (Array.getElem?_eq_some_iff.1 hc).1
  have gl : ∀ i, i < g.length → (rows ++ [row]).getD i undef = rows.getD i undef ∧ (g ++ [xs]).getD i [] = g.getD i [] := fun i hi => by
    constructor
    · rw [List.getD_eq_getElem?_getD, List.getElem?_append_left (by omega), ← List.getD_eq_getElem?_getD]
    · rw [List.getD_eq_getElem?_getD, List.getElem?_append_left hi, ← List.getD_eq_getElem?_getD]
  have gr : (rows ++ [row]).getD g.length undef = row ∧ (g ++ [xs]).getD g.length [] = xs := by
    constructor
    · rw [List.getD_eq_getElem?_getD, List.getElem?_append_right (by omega), hlen, Nat.sub_self]; rfl
    · rw [List.getD_eq_getElem?_getD, List.getElem?_append_right (by omega), Nat.sub_self]; rfl
  refine ⟨rows ++ [row], by rw [List.length_append]; exact ho, fun i _ h => absurd trivial h, fun i hi _ => ?_, fun i j b hi hj hij _ _ e1 e2 => ?_⟩
  · rw [List.length_append, List.length_singleton] at hi
    by_cases h : i < g.length
    · rw [(gl i h).1, (gl i h).2]; exact hold i h
    · obtain rfl : i = g.length := by omega
      rw [gr.1, gr.2]; exact hrow
  · rw [List.length_append, List.length_singleton] at hi hj
    by_cases h : i < g.length
    · rw [(gl i h).1] at e1
      by_cases h' : j < g.length
      · rw [(gl j h').1] at e2
        exact h4 i j b h h' hij e1 e2
      · obtain rfl : j = g.length := by omega
        rw [gr.1] at e2
        have := hblk i b h e1
        have := hnew b e2
        omega
    · obtain rfl : i = g.length := by omega
      rw [gr.1] at e1
      have h' : j < g.length := by omega
      rw [(gl j h').1] at e2
      have := hblk j b h' e2
      have := hnew b e1
      omega

theorem wpList_appendM {w : World} {ops : Array Oper} {rest : List Oper} {o : Oper} {a : Act} {Q : Exit → Act → World → Prop} (hgd : o.guard = none) (s x : Operand)
    (ho : o.op = .call { callee := .builtin .append, args := #[s, x], argTypes := #[34, 34] })
    (base : Nat) (w0 : World) (g : List (List Int)) (xs : List Int) (v row : Value) (q : Nat) (hs : a.eval s = v) (hx : a.eval x = .slice (some ⟨q, 0, none⟩) 1 1) (hown : OwnM base w0 v g) (hb : Below w0.heap.size w0 w)
    (hr : Own base 3 .i64 w row xs) (hnew : ∀ b, row.ownBlock = some b → w0.heap.size ≤ b) (hq : w.cell? ⟨q, 0, none⟩ = some row) (hl : g.length ≤ 1000000) (hbase : base ≤ w0.heap.size)
    (h : ∀ v' w', OwnM base w' v' (g ++ [xs]) → Below base w w' → wpList Try.prog ops Q rest (a.put o.dst v') w') : wpList Try.prog ops Q (o :: rest) a w := by
  obtain ⟨i0, hi, hz0, hz1, hz2⟩ := info_parts infoRow
  obtain ⟨rows, h1, _, h3, h4⟩ := hown
  have h1' := ownsRow_kept h1 hb
  refine wpList_append_own _ hgd s x 34 ho base 22 i0 (.slice none 0 0) 1 24 Try.underlying34 hi hz0 hz1 hz2 rfl (by decide) v g.length rows hs h1' ⟨q, 0, none⟩ 1 1 [row] hx rfl ?_ ?_ (by unfold maxLen; omega) (by omega) (Nat.le_trans hbase hb.size) ?_
  · intro j u hj
    obtain ⟨h5, h6⟩ := List.getElem?_eq_some_iff.1 hj
    obtain rfl : j = 0 := by simpa using h5
    rw [Go.WideShapes.add_plain]
    simp at h6
    rw [← h6]; exact hq
  · intro u hu
    obtain rfl : u = row := by simpa using hu
    obtain ⟨a', c', h7, _⟩ := hr.sl
    rw [h7]; rfl
  · intro v' w' ho' hg' _
    refine h v' w' (OwnM.append h1 (fun i hi => h3 i hi trivial) (fun i j b hi hj hij => h4 i j b hi hj hij trivial trivial) hb hr hnew ho' hg') ?_
    refine (Below.refl base w).grown hg' (Nat.le_trans hbase hb.size) ?_
    intro r hr'
    obtain ⟨_, h2⟩ := h1
    rcases h2 with ⟨rfl, _⟩ | ⟨gg, cap, cur, rfl, hbg, _⟩
    · simp [Value.ownBlock] at hr'
    · simp [Value.ownBlock] at hr'; omega
end Go.Proofs.Ytajlmkokfgbjdaa
