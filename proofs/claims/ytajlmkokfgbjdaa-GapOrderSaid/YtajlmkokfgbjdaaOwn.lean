/- A slice of integers that the call itself made: append, and what it reads as. No conditions but sizes. -/
import Derived.Test.YtajlmkokfgbjdaaSl
import Derived.Laws.AppendOwnNone
import Derived.OwnWalk
set_option linter.unusedVariables false
set_option linter.unusedSimpArgs false
namespace Go.Proofs.Ytajlmkokfgbjdaa
open Go.RowKit

/-- v is a row of the call's own (from block base on) whose elements are the numbers xs. -/
def Own (base : Nat) (e : TypeId) (k : IntKind) (w : World) (v : Value) (xs : List Int) : Prop := w.ownsRow base e 1 v xs.length (xs.map (Value.int k))

theorem Own.nil (base : Nat) (e : TypeId) (k : IntKind) (w : World) : Own base e k w (.slice none 0 0) [] := World.ownsRow_nil w base e 1
theorem Own.empty (base : Nat) (e : TypeId) (k : IntKind) (w : World) (hb : base ≤ w.heap.size) : Own base e k (w.alloc (.cells #[] e)) (.slice (some ⟨w.heap.size, 0, none⟩) 0 0) [] :=
  World.ownsRow_lit w #[] 0 hb (Nat.zero_le _) rfl
theorem Own.mono {base base' : Nat} {e : TypeId} {k : IntKind} {w : World} {v : Value} {xs : List Int} (h : Own base e k w v xs) (hb : base' ≤ base) : Own base' e k w v xs := by
  obtain ⟨h1, h2⟩ := h
  refine ⟨h1, ?_⟩
  rcases h2 with h2 | ⟨g, cap, cur, a, b, c⟩
  · exact .inl h2
  · exact .inr ⟨g, cap, cur, a, by omega, c⟩

theorem getD_of_map {k : IntKind} {xs : List Int} {i : Nat} (hi : i < xs.length) : (xs.map (Value.int k))[i]? = some (.int k (xs.getD i 0)) := by
  simp [List.getD, hi]

theorem Own.sl {base : Nat} {e : TypeId} {k : IntKind} {w : World} {v : Value} {xs : List Int} (h : Own base e k w v xs) : Sl k w v xs := by
  obtain ⟨h1, h2⟩ := h
  rcases h2 with ⟨rfl, h0⟩ | ⟨g, cap, cur, rfl, hb, hg, hn, hm, hc, ht⟩
  · obtain rfl : xs = [] := List.eq_nil_of_length_eq_zero (by omega)
    exact Sl.nil k w
  · refine ⟨some ⟨g, 0, none⟩, cap, rfl, hn, hm, by simp, fun hp => ⟨g, 0, rfl, ?_, fun i hi => ?_⟩⟩
    · exact (Array.getElem?_eq_some_iff.1 hg).1
    · rw [Nat.zero_add, show w.cell? ⟨g, i, none⟩ = cur[i]? by simp [World.cell?, hg]]
      have : (xs.map (Value.int k))[i]? = cur[i]? := by
        rw [← ht, List.getElem?_take_of_lt (by omega)]; simp
      rw [← this]; exact getD_of_map hi

/-- A slice value of the call's own that is not empty. -/
theorem Own.form {base : Nat} {e : TypeId} {k : IntKind} {w : World} {v : Value} {xs : List Int} (h : Own base e k w v xs) (hp : 0 < xs.length) : ∃ g cap, v = .slice (some ⟨g, 0, none⟩) xs.length cap ∧ base ≤ g ∧ g < w.heap.size ∧ xs.length ≤ cap ∧ cap ≤ maxLen := by
  obtain ⟨h1, h2⟩ := h
  rcases h2 with ⟨rfl, h0⟩ | ⟨g, cap, cur, rfl, hb, hg, hn, hm, hc, ht⟩
  · omega
  · exact ⟨g, cap, rfl, hb, (Array.getElem?_eq_some_iff.1 hg).1, hn, hm⟩

/-- What stays while nothing from base on is turned but behind the row's block. -/
theorem Own.kept {base : Nat} {e : TypeId} {k : IntKind} {w w' : World} {v : Value} {xs : List Int} (h : Own base e k w v xs) (hb : Below w.heap.size w w') : Own base e k w' v xs := by
  obtain ⟨h1, h2⟩ := h
  refine ⟨h1, ?_⟩
  rcases h2 with h2 | ⟨g, cap, cur, rfl, hbg, hg, hn, hm, hc, ht⟩
  · exact .inl h2
  · exact .inr ⟨g, cap, cur, rfl, hbg, by rw [hb.block g (Array.getElem?_eq_some_iff.1 hg).1]; exact hg, hn, hm, hc, ht⟩

/-- A store into the row. -/
theorem Own.stored {base g cap : Nat} {e : TypeId} {k : IntKind} {w : World} {xs : List Int} (h : Own base e k w (.slice (some ⟨g, 0, none⟩) xs.length cap) xs) (j : Nat) (n : Int) :
    Own base e k (w.setCell ⟨g, j, none⟩ (.int k n)) (.slice (some ⟨g, 0, none⟩) (xs.set j n).length cap) (xs.set j n) := by
  have h' := World.ownsRow.stored (w := w) h j (.int k n)
  unfold Own
  rw [List.length_set, List.map_set]
  exact h'.1

/-- A cell of the row, and that it may be written. -/
theorem Own.cellAt {base g cap n : Nat} {e : TypeId} {k : IntKind} {w : World} {xs : List Int} (h : Own base e k w (.slice (some ⟨g, 0, none⟩) n cap) xs) (j : Nat) (hj : j < xs.length) :
    w.cell? ⟨g, j, none⟩ = some (.int k (xs.getD j 0)) ∧ w.frozen? ⟨g, j, none⟩ = false := by
  obtain ⟨h1, h2⟩ := h
  rcases h2 with ⟨hv, h0⟩ | ⟨g', cap', cur, hv, hb, hg, hn, hm, hc, ht⟩
  · omega
  · simp only [Value.slice.injEq, Option.some.injEq, Addr.mk.injEq] at hv
    obtain ⟨⟨rfl, _⟩, rfl, rfl⟩ := hv
    refine ⟨?_, by simp [World.frozen?, hg]⟩
    rw [show w.cell? ⟨g, j, none⟩ = cur[j]? by simp [World.cell?, hg]]
    have : (xs.map (Value.int k))[j]? = cur[j]? := by
      rw [← ht, List.getElem?_take_of_lt (by omega)]; simp
    rw [← this]; exact getD_of_map hj

/-- The numbers of an element type: one cell, at most 8 bytes. -/
structure IntEl (P : Program) (t e : TypeId) (k : IntKind) : Prop where
  ht : P.underlying t = some (.slice e)
  he : ∃ (i : TypeInfo) (z : Value), P.info? e = some i ∧ i.zero = some z ∧ i.size = 1 ∧ i.bytes ≤ 8 ∧ z.cells.size = 1

theorem IntEl.of {P : Program} {t e : TypeId} {k : IntKind} {b : Nat} (ht : P.underlying t = some (.slice e)) (h : (P.info? e).map (fun i => (i.zero, i.size, i.bytes)) = some (some (.int k 0), 1, b)) (hb : b ≤ 8) : IntEl P t e k := by
  obtain ⟨i, hi, hz, h1, h2⟩ := info_parts h
  exact ⟨ht, i, _, hi, hz, h1, by omega, rfl⟩

/-- append(s, x...): s a row of the call's own, x any slice of the same kind. -/
theorem wp_appendI {P : Program} {w : World} {t e : TypeId} {k : IntKind} (E : IntEl P t e k) {o : Oper} {a : Act} {K : Act → World → Prop} {Q : Exit → Act → World → Prop} (s x : Operand)
    (ho : o.op = .call { callee := .builtin .append, args := #[s, x], argTypes := #[t, t] })
    (base : Nat) (xs ys : List Int) (v u : Value) (hs : a.eval s = v) (hx : a.eval x = u) (hown : Own base e k w v xs) (hsl : Sl k w u ys)
    (hbytes : xs.length + ys.length ≤ 17592186044416) (hbase : base ≤ w.heap.size)
    (h : ∀ v' w', Own base e k w' v' (xs ++ ys) → w.grownBy w' v.ownBlock → K (a.put o.dst v') w') : o.wp P a w K Q := by
  obtain ⟨i, z, hi, hz, hsz, hby, hzs⟩ := E.he
  obtain ⟨ad, cap, rfl, hl, hm, hn, hc⟩ := hsl
  cases ad with
  | none =>
    have h0 := hn rfl
    obtain rfl : ys = [] := List.eq_nil_of_length_eq_zero (by omega)
    subst h0
    have hrun := run_append_owned_none (P := P) (w := w) base t o.type e i 1 E.ht hi v xs.length _ hown
    have h' := h v w (by simpa using hown) ⟨rfl, rfl, rfl, Nat.le_refl _, fun _ _ _ => rfl⟩
    unfold Oper.wp
    simp [execOp, ho, resolve, invoke, builtin, hs, hx, hrun, Result.andThen]
    exact h'
  | some ad =>
    have hb : (xs.length + ys.length) * i.bytes ≤ 140737488355328 := by
      have := Nat.mul_le_mul hbytes hby
      omega
    refine wp_append_own w s x t ho base e i z 1 i.bytes E.ht hi hz hsz rfl hzs (by omega) v xs.length _ hs hown ad ys.length cap (ys.map (Value.int k)) hx (by simp) ?_ ?_ (by unfold maxLen; omega) hb hbase ?_
    · intro j u hj
      obtain ⟨h1, h2⟩ := List.getElem?_eq_some_iff.1 hj
      have hj' : j < ys.length := by simpa using h1
      obtain ⟨b, o, ha, hlt, hcell⟩ := hc (by omega)
      obtain rfl : ad = ⟨b, o, none⟩ := by simpa using ha
      rw [Go.WideShapes.add_plain, hcell j hj', ← h2]
      simp [List.getD, hj']
    · intro u hu
      obtain ⟨n, _, rfl⟩ := List.mem_map.1 hu
      rfl
    · intro v' w' hown' hgr _
      refine h v' w' ?_ hgr
      unfold Own
      rw [List.length_append, List.map_append]
      exact hown'

theorem wpList_appendI {P : Program} {w : World} {t e : TypeId} {k : IntKind} (E : IntEl P t e k) {ops : Array Oper} {rest : List Oper} {o : Oper} {a : Act} {Q : Exit → Act → World → Prop} (hw : Region.wanted o (yielded ops a.tmps) = true) (s x : Operand)
    (ho : o.op = .call { callee := .builtin .append, args := #[s, x], argTypes := #[t, t] })
    (base : Nat) (xs ys : List Int) (v u : Value) (hs : a.eval s = v) (hx : a.eval x = u) (hown : Own base e k w v xs) (hsl : Sl k w u ys)
    (hbytes : xs.length + ys.length ≤ 17592186044416) (hbase : base ≤ w.heap.size)
    (h : ∀ v' w', Own base e k w' v' (xs ++ ys) → w.grownBy w' v.ownBlock → wpList P ops Q rest (a.put o.dst v') w') : wpList P ops Q (o :: rest) a w :=
  wpList_step fun K hK => by
    rw [if_pos hw]
    exact wp_appendI E s x ho base xs ys v u hs hx hown hsl hbytes hbase fun v' w' h1 h2 => hK _ _ (h v' w' h1 h2)

/-- A new block of one number. -/
theorem Sl.one (k : IntKind) (w : World) (e : TypeId) (n : Int) : Sl k (w.alloc (.cells #[.int k n] e)) (.slice (some ⟨w.heap.size, 0, none⟩) 1 1) [n] := by
  refine ⟨some ⟨w.heap.size, 0, none⟩, 1, rfl, Nat.le_refl _, by unfold maxLen; omega, by simp, fun _ => ⟨w.heap.size, 0, rfl, by simp, fun i hi => ?_⟩⟩
  obtain rfl : i = 0 := by simpa using hi
  simp

/-- Behind an append to a row from base on, nothing below base is turned. -/
theorem Own.below {base : Nat} {e : TypeId} {k : IntKind} {w w' : World} {v : Value} {xs : List Int} (h : Own base e k w v xs) (hg : w.grownBy w' v.ownBlock) (hb : base ≤ w.heap.size) : Below base w w' := by
  refine (Below.refl base w).grown hg hb ?_
  intro r hr
  obtain ⟨_, h2⟩ := h
  rcases h2 with ⟨rfl, _⟩ | ⟨g, cap, cur, rfl, hbg, _⟩
  · simp [Value.ownBlock] at hr
  · simp [Value.ownBlock] at hr; omega

/-- The same as one step of a region that draws its order. -/
theorem step_appendI {P : Program} {w : World} {t e : TypeId} {k : IntKind} (E : IntEl P t e k) {ops : Array Oper} {o : Oper} {a : Act} {K : Act → World → Prop} {Q : Exit → Act → World → Prop} {F : Prop} (hw : Region.wanted o (yielded ops a.tmps) = true) (s x : Operand)
    (ho : o.op = .call { callee := .builtin .append, args := #[s, x], argTypes := #[t, t] })
    (base : Nat) (xs ys : List Int) (v u : Value) (hs : a.eval s = v) (hx : a.eval x = u) (hown : Own base e k w v xs) (hsl : Sl k w u ys)
    (hbytes : xs.length + ys.length ≤ 17592186044416) (hbase : base ≤ w.heap.size)
    (h : ∀ v' w', Own base e k w' v' (xs ++ ys) → Below base w w' → K (a.put o.dst v') w') : if Region.wanted o (yielded ops a.tmps) = true then Oper.wp P o a w K Q else F := by
  rw [if_pos hw]
  exact wp_appendI E s x ho base xs ys v u hs hx hown hsl hbytes hbase fun v' w' h1 h2 => h v' w' h1 (hown.below h2 hbase)

end Go.Proofs.Ytajlmkokfgbjdaa
