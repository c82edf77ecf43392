/- Matrices of ints: a slice of rows; those that came in, and those of the call's own. No conditions. -/
import Derived.Test.YtajlmkokfgbjdaaOwn
set_option linter.unusedVariables false
set_option linter.unusedSimpArgs false
namespace Go.Proofs.Ytajlmkokfgbjdaa
open Go.RowKit

/-- v is a slice of rows of ints that read as g. -/
def Mx (w : World) (v : Value) (g : List (List Int)) : Prop :=
  ∃ (a : Option Addr) (cap : Nat), v = .slice a g.length cap ∧ g.length ≤ cap ∧ cap ≤ maxLen ∧ (a = none → cap = 0) ∧
    (0 < g.length → ∃ b o, a = some ⟨b, o, none⟩ ∧ b < w.heap.size ∧ ∀ i, i < g.length → ∃ r, w.cell? ⟨b, o + i, none⟩ = some r ∧ Sl .i64 w r (g.getD i []))

theorem Mx.stays {w w' : World} {v : Value} {g : List (List Int)} (h : Mx w v g) (hb : Below w.heap.size w w') : Mx w' v g := by
  obtain ⟨a, cap, rfl, h1, h2, h3, h4⟩ := h
  refine ⟨a, cap, rfl, h1, h2, h3, fun hp => ?_⟩
  obtain ⟨b, o, rfl, hlt, hc⟩ := h4 hp
  refine ⟨b, o, rfl, Nat.lt_of_lt_of_le hlt hb.size, fun i hi => ?_⟩
  obtain ⟨r, h5, h6⟩ := hc i hi
  exact ⟨r, (hb.cell (p := ⟨b, o + i, none⟩) hlt).trans h5, h6.stays hb⟩

/-- A row that was there before block base. -/
def SlLow (base : Nat) (w : World) (r : Value) (xs : List Int) : Prop := Sl .i64 w r xs ∧ (0 < xs.length → ∃ b o cap, r = .slice (some ⟨b, o, none⟩) xs.length cap ∧ b < base)
theorem SlLow.stays {base : Nat} {w w' : World} {r : Value} {xs : List Int} (h : SlLow base w r xs) (hb : Below base w w') : SlLow base w' r xs := by
  obtain ⟨⟨a, cap, rfl, h1, h2, h3, h4⟩, h5⟩ := h
  refine ⟨⟨a, cap, rfl, h1, h2, h3, fun hp => ?_⟩, h5⟩
  obtain ⟨b, o, rfl, hlt, hc⟩ := h4 hp
  obtain ⟨b', o', cap', h6, h7⟩ := h5 hp
  simp only [Value.slice.injEq, Option.some.injEq, Addr.mk.injEq] at h6
  obtain ⟨⟨rfl, _⟩, _⟩ := h6
  exact ⟨b, o, rfl, Nat.lt_of_lt_of_le hlt hb.size, fun i hi => by rw [hb.cell (p := ⟨b, o + i, none⟩) h7]; exact hc i hi⟩
theorem SlLow.of {w : World} {r : Value} {xs : List Int} (h : Sl .i64 w r xs) : SlLow w.heap.size w r xs := by
  refine ⟨h, fun hp => ?_⟩
  obtain ⟨a, cap, rfl, h1, h2, h3, h4⟩ := h
  obtain ⟨b, o, rfl, hlt, hc⟩ := h4 hp
  exact ⟨b, o, cap, rfl, hlt⟩

/-- A slice of rows of the call's own; the rows that S names are the call's own, too, each in a block of its own. -/
def OwnS (base : Nat) (w : World) (v : Value) (g : List (List Int)) (S : Nat → Prop) : Prop :=
  ∃ rows : List Value, w.ownsRow base 22 1 v g.length rows ∧
    (∀ i, i < g.length → ¬ S i → SlLow base w (rows.getD i undef) (g.getD i [])) ∧
    (∀ i, i < g.length → S i → Own base 3 .i64 w (rows.getD i undef) (g.getD i [])) ∧
    (∀ i j b, i < g.length → j < g.length → i ≠ j → S i → S j → (rows.getD i undef).ownBlock = some b → (rows.getD j undef).ownBlock ≠ some b)
def OwnM (base : Nat) (w : World) (v : Value) (g : List (List Int)) : Prop := OwnS base w v g (fun _ => True)

theorem ownsRow_kept {base : Nat} {e : TypeId} {s n : Nat} {w w' : World} {v : Value} {xs : List Value} (h : w.ownsRow base e s v n xs) (hb : Below w.heap.size w w') : w'.ownsRow base e s v n xs := by
  obtain ⟨h1, h2⟩ := h
  refine ⟨h1, ?_⟩
  rcases h2 with h2 | ⟨g, cap, cur, rfl, hbg, hg, hn, hm, hc, ht⟩
  · exact .inl h2
  · exact .inr ⟨g, cap, cur, rfl, hbg, by rw [hb.block g (Array.getElem?_eq_some_iff.1 hg).1]; exact hg, hn, hm, hc, ht⟩
theorem ownsRow_mono {base base' : Nat} {e : TypeId} {s n : Nat} {w : World} {v : Value} {xs : List Value} (h : w.ownsRow base e s v n xs) (hb : base' ≤ base) : w.ownsRow base' e s v n xs := by
  obtain ⟨h1, h2⟩ := h
  refine ⟨h1, ?_⟩
  rcases h2 with h2 | ⟨g, cap, cur, a, b, c⟩
  · exact .inl h2
  · exact .inr ⟨g, cap, cur, a, by omega, c⟩
theorem OwnS.kept {base : Nat} {w w' : World} {v : Value} {g : List (List Int)} {S : Nat → Prop} (h : OwnS base w v g S) (hb : Below w.heap.size w w') : OwnS base w' v g S := by
  obtain ⟨rows, h1, h2, h3, h4⟩ := h
  exact ⟨rows, ownsRow_kept h1 hb, fun i hi hs => ⟨(h2 i hi hs).1.stays hb, (h2 i hi hs).2⟩, fun i hi hs => (h3 i hi hs).kept hb, h4⟩
theorem OwnS.weaken {base : Nat} {w : World} {v : Value} {g : List (List Int)} {S S' : Nat → Prop} (h : OwnS base w v g S) (hs : ∀ i, i < g.length → (S' i ↔ S i)) : OwnS base w v g S' := by
  obtain ⟨rows, h1, h2, h3, h4⟩ := h
  exact ⟨rows, h1, fun i hi hn => h2 i hi (fun h => hn ((hs i hi).2 h)), fun i hi h => h3 i hi ((hs i hi).1 h), fun i j b hi hj hne a c => h4 i j b hi hj hne ((hs i hi).1 a) ((hs j hj).1 c)⟩
theorem OwnM.mono {base base' : Nat} {w : World} {v : Value} {g : List (List Int)} (h : OwnM base w v g) (hb : base' ≤ base) : OwnM base' w v g := by
  obtain ⟨rows, h1, h2, h3, h4⟩ := h
  exact ⟨rows, ownsRow_mono h1 hb, fun i hi hs => absurd trivial hs, fun i hi hs => (h3 i hi hs).mono hb, h4⟩
theorem OwnS.all {base : Nat} {w : World} {v : Value} {g : List (List Int)} {S : Nat → Prop} (h : OwnS base w v g S) (hs : ∀ i, i < g.length → S i) : OwnM base w v g := by
  obtain ⟨rows, h1, h2, h3, h4⟩ := h
  exact ⟨rows, h1, fun i hi hn => absurd trivial hn, fun i hi _ => h3 i hi (hs i hi), fun i j b hi hj hne _ _ => h4 i j b hi hj hne (hs i hi) (hs j hj)⟩

theorem ownsRow_at {base : Nat} {e : TypeId} {n : Nat} {w : World} {v : Value} {rows : List Value} (h : w.ownsRow base e 1 v n rows) (hp : 0 < n) :
    ∃ gb cap cur, v = .slice (some ⟨gb, 0, none⟩) n cap ∧ base ≤ gb ∧ w.heap[gb]? = some (.cells cur e (0, 0)) ∧ n ≤ cap ∧ cap ≤ maxLen ∧ rows.length = n ∧ ∀ i, i < n → w.cell? ⟨gb, i, none⟩ = some (rows.getD i undef) ∧ w.frozen? ⟨gb, i, none⟩ = false := by
  obtain ⟨h1, h2⟩ := h
  rcases h2 with ⟨rfl, h0⟩ | ⟨g, cap, cur, rfl, hb, hg, hn, hm, hc, ht⟩
  · omega
  · refine ⟨g, cap, cur, rfl, hb, hg, hn, hm, by simpa using h1, fun i hi => ⟨?_, by simp [World.frozen?, hg]⟩⟩
    rw [show w.cell? ⟨g, i, none⟩ = cur[i]? by simp [World.cell?, hg]]
    have h3 : rows[i]? = cur[i]? := by
      rw [← ht, List.getElem?_take_of_lt (by omega)]; simp
    have h4 : rows.length = n := by simpa using h1
    rw [← h3, List.getD_eq_getElem?_getD, List.getElem?_eq_getElem (by omega)]
    rfl

theorem OwnS.sl {base : Nat} {w : World} {g : List (List Int)} {S : Nat → Prop} {rows : List Value} (h2 : ∀ i, i < g.length → ¬ S i → SlLow base w (rows.getD i undef) (g.getD i [])) (h3 : ∀ i, i < g.length → S i → Own base 3 .i64 w (rows.getD i undef) (g.getD i [])) (i : Nat) (hi : i < g.length) : Sl .i64 w (rows.getD i undef) (g.getD i []) := by
  by_cases hs : S i
  · exact (h3 i hi hs).sl
  · exact (h2 i hi hs).1

/-- What a slice of rows of the call's own looks like. -/
theorem OwnS.form {base : Nat} {w : World} {v : Value} {g : List (List Int)} {S : Nat → Prop} (h : OwnS base w v g S) (hp : 0 < g.length) :
    ∃ gb cap, v = .slice (some ⟨gb, 0, none⟩) g.length cap ∧ base ≤ gb ∧ gb < w.heap.size ∧ g.length ≤ cap ∧ cap ≤ maxLen := by
  obtain ⟨rows, h1, _⟩ := h
  obtain ⟨gb, cap, cur, a, b, c, d, e, _⟩ := ownsRow_at h1 hp
  exact ⟨gb, cap, a, b, (Array.getElem?_eq_some_iff.1 c).1, d, e⟩
theorem OwnS.row {base gb n cap : Nat} {w : World} {g : List (List Int)} {S : Nat → Prop} (h : OwnS base w (.slice (some ⟨gb, 0, none⟩) n cap) g S) (i : Nat) (hi : i < g.length) :
    ∃ r, w.cell? ⟨gb, i, none⟩ = some r ∧ w.frozen? ⟨gb, i, none⟩ = false ∧ Sl .i64 w r (g.getD i []) ∧ (S i → Own base 3 .i64 w r (g.getD i [])) := by
  obtain ⟨rows, h1, h2, h3, _⟩ := h
  obtain ⟨gb', cap', cur, a, b, c, d, e, f, k⟩ := ownsRow_at h1 (by omega)
  simp only [Value.slice.injEq, Option.some.injEq, Addr.mk.injEq] at a
  obtain ⟨⟨rfl, _⟩, rfl, rfl⟩ := a
  exact ⟨_, (k i hi).1, (k i hi).2, OwnS.sl h2 h3 i hi, h3 i hi⟩
theorem OwnS.mx {base : Nat} {w : World} {v : Value} {g : List (List Int)} {S : Nat → Prop} (h : OwnS base w v g S) : Mx w v g := by
  obtain ⟨rows, h1, h2, h3, h4⟩ := h
  rcases Nat.eq_zero_or_pos g.length with h0 | hp
  · obtain ⟨h5, h6⟩ := h1
    rcases h6 with ⟨rfl, _⟩ | ⟨gb, cap, cur, rfl, hb, hg, hn, hm, hc, ht⟩
    · exact ⟨none, 0, by rw [h0], by omega, Nat.zero_le _, fun _ => rfl, fun h => by omega⟩
    · exact ⟨_, cap, rfl, hn, hm, by simp, fun h => by omega⟩
  · obtain ⟨gb, cap, cur, rfl, b, c, d, e, f, k⟩ := ownsRow_at h1 hp
    exact ⟨_, cap, rfl, d, e, by simp, fun _ => ⟨gb, 0, rfl, (Array.getElem?_eq_some_iff.1 c).1, fun i hi => ⟨_, by rw [Nat.zero_add]; exact (k i hi).1, OwnS.sl h2 h3 i hi⟩⟩⟩

/-- A block of ints is no block of rows. -/
theorem Own.ne_outer {base gb : Nat} {w : World} {r : Value} {xs : List Int} {cur : Array Value} (h : Own base 3 .i64 w r xs) (hg : w.heap[gb]? = some (.cells cur 22 (0, 0))) : r.ownBlock ≠ some gb := by
  obtain ⟨_, h2⟩ := h
  rcases h2 with ⟨rfl, _⟩ | ⟨g, cap, cur', rfl, _, hc, _⟩
  · simp [Value.ownBlock]
  · intro e
    have : g = gb := by simpa [Value.ownBlock] using e
    subst this
    rw [hg] at hc
    injection hc with hc
    injection hc with _ hc
    exact absurd hc (by decide)
/-- A row stays where another block is written. -/
theorem Own.setFar {base b j : Nat} {e : TypeId} {w : World} {r x : Value} {xs : List Int} (h : Own base e .i64 w r xs) (hb : r.ownBlock ≠ some b) : Own base e .i64 (w.setCell ⟨b, j, none⟩ x) r xs := by
  obtain ⟨h1, h2⟩ := h
  refine ⟨h1, ?_⟩
  rcases h2 with h2 | ⟨g, cap, cur, rfl, hbg, hg, c⟩
  · exact .inl h2
  · refine .inr ⟨g, cap, cur, rfl, hbg, ?_, c⟩
    rw [Below.heap_setCell w ⟨b, j, none⟩ x g (by intro e; exact hb (by simp [Value.ownBlock, e]))]
    exact hg
theorem getD_set {α : Type} (l : List α) (i j : Nat) (x d : α) (hi : i < l.length) : (l.set i x).getD j d = if j = i then x else l.getD j d := by
  rw [List.getD_eq_getElem?_getD, List.getD_eq_getElem?_getD, List.getElem?_set]
  by_cases h : i = j
  · subst h; simp [hi]
  · rw [if_neg h, if_neg (Ne.symm h)]

/-- A new row of the call's own is put into a slice of rows. -/
theorem OwnS.put {base gb n cap H : Nat} {w : World} {g : List (List Int)} {S : Nat → Prop} (h : OwnS base w (.slice (some ⟨gb, 0, none⟩) n cap) g S) (i : Nat) (hi : i < g.length) {r : Value} {xs : List Int}
    (hr : Own base 3 .i64 w r xs) (hnew : ∀ b, r.ownBlock = some b → H ≤ b) (hold : ∀ j r', j < g.length → w.cell? ⟨gb, j, none⟩ = some r' → S j → ∀ b, r'.ownBlock = some b → b < H) :
    OwnS base (w.setCell ⟨gb, i, none⟩ r) (.slice (some ⟨gb, 0, none⟩) n cap) (g.set i xs) (fun j => S j ∨ j = i) := by
  obtain ⟨rows, h1, h2, h3, h4⟩ := h
  obtain ⟨gb', cap', cur, a, b, c, d, e, f, k⟩ := ownsRow_at h1 (by omega)
  simp only [Value.slice.injEq, Option.some.injEq, Addr.mk.injEq] at a
  obtain ⟨⟨rfl, _⟩, rfl, rfl⟩ := a
  have h1' := (World.ownsRow.stored (w := w) h1 i r).1
  have hbel : Below base w (w.setCell ⟨gb, i, none⟩ r) := (Below.refl base w).setCell (p := ⟨gb, i, none⟩) b r
  have new : Own base 3 .i64 (w.setCell ⟨gb, i, none⟩ r) r xs := hr.setFar (hr.ne_outer c)
  refine ⟨rows.set i r, by rw [List.length_set]; exact h1', fun j hj hs => ?_, fun j hj hs => ?_, fun p q bb hp hq hpq sp sq => ?_⟩
  · rw [List.length_set] at hj
    have hji : j ≠ i := fun h => hs (.inr h)
    rw [getD_set _ _ _ _ _ (by omega), getD_set _ _ _ _ _ hi, if_neg hji, if_neg hji]
    exact (h2 j hj (fun h => hs (.inl h))).stays hbel
  · rw [List.length_set] at hj
    rw [getD_set _ _ _ _ _ (by omega), getD_set _ _ _ _ _ hi]
    by_cases hji : j = i
    · rw [if_pos hji, if_pos hji]; exact new
    · rw [if_neg hji, if_neg hji]
      have h5 := h3 j hj (hs.resolve_right hji)
      exact h5.setFar (h5.ne_outer c)
  · rw [List.length_set] at hp hq
    rw [getD_set _ _ _ _ _ (by omega), getD_set _ _ _ _ _ (by omega)]
    by_cases hpi : p = i
    · rw [if_pos hpi, if_neg (fun h => hpq (hpi.trans h.symm))]
      intro e1 e2
      have h5 := hnew bb e1
      have h6 := hold q _ hq (k q hq).1 (sq.resolve_right (fun h => hpq (hpi.trans h.symm))) bb e2
      omega
    · rw [if_neg hpi]
      by_cases hqi : q = i
      · rw [if_pos hqi]
        intro e1 e2
        have h5 := hnew bb e2
        have h6 := hold p _ hp (k p hp).1 (sp.resolve_right hpi) bb e1
        omega
      · rw [if_neg hqi]
        exact h4 p q bb hp hq hpq (sp.resolve_right hpi) (sq.resolve_right hqi)

/-- The blocks of the rows are there. -/
theorem OwnS.rowBlock {base gb n cap : Nat} {w : World} {g : List (List Int)} {S : Nat → Prop} (h : OwnS base w (.slice (some ⟨gb, 0, none⟩) n cap) g S) (j : Nat) (r : Value) (hj : j < g.length) (hc : w.cell? ⟨gb, j, none⟩ = some r) (hs : S j) (b : Nat) (hb : r.ownBlock = some b) : b < w.heap.size := by
  obtain ⟨r', h1, _, _, h4⟩ := h.row j hj
  rw [hc] at h1
  obtain rfl := Option.some.inj h1
  obtain ⟨_, h6⟩ := h4 hs
  rcases h6 with ⟨rfl, _⟩ | ⟨g, cap, cur', rfl, _, hc, _⟩
  · simp [Value.ownBlock] at hb
  · have : g = b := by simpa [Value.ownBlock] using hb
    subst this
    exact (Array.getElem?_eq_some_iff.1 hc).1
theorem Own.block_ge {base : Nat} {e : TypeId} {k : IntKind} {w : World} {r : Value} {xs : List Int} (h : Own base e k w r xs) (b : Nat) (hb : r.ownBlock = some b) : base ≤ b := by
  obtain ⟨_, h6⟩ := h
  rcases h6 with ⟨rfl, _⟩ | ⟨g, cap, cur', rfl, h7, hc, _⟩
  · simp [Value.ownBlock] at hb
  · have : g = b := by simpa [Value.ownBlock] using hb
    omega

/-- A store into a row. -/
theorem OwnM.store {base gb n cap rb m cp : Nat} {w : World} {g : List (List Int)} (h : OwnM base w (.slice (some ⟨gb, 0, none⟩) n cap) g) (i j : Nat) (x : Int) (hi : i < g.length) (hr : w.cell? ⟨gb, i, none⟩ = some (.slice (some ⟨rb, 0, none⟩) m cp)) (hm : m = (g.getD i []).length) (hj : j < m) :
    OwnM base (w.setCell ⟨rb, j, none⟩ (.int .i64 x)) (.slice (some ⟨gb, 0, none⟩) n cap) (g.set i ((g.getD i []).set j x)) ∧ (w.setCell ⟨rb, j, none⟩ (.int .i64 x)).cell? ⟨gb, i, none⟩ = some (.slice (some ⟨rb, 0, none⟩) m cp) ∧ base ≤ rb := by
  obtain ⟨rows, h1, h2, h3, h4⟩ := h
  obtain ⟨gb', cap', cur, a, b, c, d, e, f, k⟩ := ownsRow_at h1 (by omega)
  simp only [Value.slice.injEq, Option.some.injEq, Addr.mk.injEq] at a
  obtain ⟨⟨rfl, _⟩, rfl, rfl⟩ := a
  have hri : rows.getD i undef = .slice (some ⟨rb, 0, none⟩) m cp := by have := (k i hi).1; rw [hr] at this; exact (Option.some.inj this).symm
  have ho := h3 i hi trivial
  rw [hri, hm] at ho
  have hne : gb ≠ rb := fun e => ho.ne_outer c (by simp [Value.ownBlock, e])
  have hst := ho.stored j x
  have hbr : base ≤ rb := by
    obtain ⟨g', cap', hv, hb, _⟩ := ho.form (by omega)
    simp only [Value.slice.injEq, Option.some.injEq, Addr.mk.injEq] at hv
    obtain ⟨⟨rfl, _⟩, _⟩ := hv
    exact hb
  have all : ∀ q, q < g.length → Own base 3 .i64 (w.setCell ⟨rb, j, none⟩ (.int .i64 x)) (rows.getD q undef) ((g.set i ((g.getD i []).set j x)).getD q []) := by
    intro q hq
    rw [getD_set _ _ _ _ _ hi]
    by_cases hqi : q = i
    · rw [if_pos hqi, hqi, hri, hm]
      rw [List.length_set] at hst
      exact hst
    · rw [if_neg hqi]
      refine (h3 q hq trivial).setFar fun e => h4 i q rb hi hq (Ne.symm hqi) trivial trivial (by rw [hri]; rfl) e
  have hheap : (w.setCell ⟨rb, j, none⟩ (.int .i64 x)).heap[gb]? = w.heap[gb]? := Below.heap_setCell w ⟨rb, j, none⟩ _ gb hne
  refine ⟨⟨rows, ?_, fun q hq hn => absurd trivial hn, fun q hq _ => ?_, fun p q b hp hq hpq _ _ => ?_⟩, ?_, hbr⟩
  · obtain ⟨h5, h6⟩ := h1
    refine ⟨by rw [List.length_set]; exact h5, ?_⟩
    rw [List.length_set]
    rcases h6 with ⟨h6, _⟩ | ⟨g', cap', cur', hv, hb', hg', c'⟩
    · simp at h6
    · refine .inr ⟨g', cap', cur', hv, hb', ?_, c'⟩
      simp only [Value.slice.injEq, Option.some.injEq, Addr.mk.injEq] at hv
      obtain ⟨⟨rfl, _⟩, _⟩ := hv
      rw [hheap]; exact hg'
  · rw [List.length_set] at hq; exact all q hq
  · rw [List.length_set] at hp hq; exact h4 p q b hp hq hpq trivial trivial
  · rw [World.cell?_of_block (w := w) (a := ⟨gb, i, none⟩) hheap]; exact hr
end Go.Proofs.Ytajlmkokfgbjdaa
