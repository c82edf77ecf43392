/- A slice of pairs that the call itself made: append, cells. No conditions but sizes. -/
import Derived.Test.YtifpkhgcoopjnaaPairsPure
import Derived.Test.YtifpkhgcoopjnaaOwn
import Derived.OwnWalkIn
namespace Go.Proofs.Ytifpkhgcoopjnaa
open Go.RowKit

def prCells (p : Int × Int) : List Value := [.int .u64 p.1, .int .u64 p.2]
def prRow (l : List (Int × Int)) : List Value := l.flatMap prCells
theorem prRow_length (l : List (Int × Int)) : (prRow l).length = l.length * 2 := by
  induction l with
  | nil => rfl
  | cons p l ih => simp only [prRow, List.flatMap_cons, List.length_append, List.length_cons] at ih ⊢; rw [ih]; simp [prCells]; omega
theorem prRow_append (l r : List (Int × Int)) : prRow (l ++ r) = prRow l ++ prRow r := by simp [prRow]
theorem prRow_get : ∀ (l : List (Int × Int)) (i : Nat), i < l.length → (prRow l)[2 * i]? = some (.int .u64 (l.getD i (0, 0)).1) ∧ (prRow l)[2 * i + 1]? = some (.int .u64 (l.getD i (0, 0)).2)
  | [], i, h => by simp at h
  | p :: l, 0, _ => by simp [prRow, prCells]
  | p :: l, i + 1, h => by
    have := prRow_get l i (by simpa using h)
    have e : prRow (p :: l) = .int .u64 p.1 :: .int .u64 p.2 :: prRow l := by simp [prRow, prCells]
    rw [e, show 2 * (i + 1) = (2 * i + 1) + 1 by omega, List.getElem?_cons_succ, List.getElem?_cons_succ]
    rw [show 2 * i + 1 + 1 + 1 = (2 * i + 1) + 1 + 1 by omega, List.getElem?_cons_succ, List.getElem?_cons_succ]
    simpa using this

theorem infoPr : (Try.prog.info? 59).map (fun i => (i.zero, i.size, i.bytes)) = some (some (.agg #[.int .u64 0, .int .u64 0]), 2, 16) := by kernel_rfl

/-- v is a row of the call's own (from block base on) of the pairs l. -/
def OwnP (base : Nat) (w : World) (v : Value) (l : List (Int × Int)) : Prop := w.ownsRow base 59 2 v l.length (prRow l)

theorem OwnP.kept {base : Nat} {w w' : World} {v : Value} {l : List (Int × Int)} (h : OwnP base w v l) (hb : Below w.heap.size w w') : OwnP base w' v l := by
  obtain ⟨h1, h2⟩ := h
  refine ⟨h1, ?_⟩
  rcases h2 with h2 | ⟨g, cap, cur, rfl, hbg, hg, hn, hm, hc, ht⟩
  · exact .inl h2
  · exact .inr ⟨g, cap, cur, rfl, hbg, by rw [hb.block g (Array.getElem?_eq_some_iff.1 hg).1]; exact hg, hn, hm, hc, ht⟩
theorem OwnP.grown {base : Nat} {w w' : World} {v : Value} {l : List (Int × Int)} {row : Option Nat} (h : OwnP base w v l) (hg : w.grownBy w' row) (hr : row ≠ v.ownBlock ∨ row = none) : OwnP base w' v l := by
  obtain ⟨h1, h2⟩ := h
  refine ⟨h1, ?_⟩
  rcases h2 with h2 | ⟨g, cap, cur, rfl, hbg, hgg, rest⟩
  · exact .inl h2
  · exact .inr ⟨g, cap, cur, rfl, hbg, (hg.block g (Array.getElem?_eq_some_iff.1 hgg).1 (fun e => by
      subst e
      rcases hr with hr | hr
      · exact hr rfl
      · cases hr)).trans hgg, rest⟩
theorem OwnP.form {base : Nat} {w : World} {v : Value} {l : List (Int × Int)} (h : OwnP base w v l) (hp : 0 < l.length) : ∃ g cap, v = .slice (some ⟨g, 0, none⟩) l.length cap ∧ base ≤ g ∧ g < w.heap.size ∧ l.length ≤ cap ∧ cap ≤ maxLen := by
  obtain ⟨h1, h2⟩ := h
  rcases h2 with ⟨rfl, h0⟩ | ⟨g, cap, cur, rfl, hb, hg, hn, hm, hc, ht⟩
  · omega
  · exact ⟨g, cap, rfl, hb, (Array.getElem?_eq_some_iff.1 hg).1, hn, hm⟩
theorem OwnP.cells {base : Nat} {w : World} {g n cap : Nat} {l : List (Int × Int)} (h : OwnP base w (.slice (some ⟨g, 0, none⟩) n cap) l) (i : Nat) (hi : i < l.length) :
    w.cell? ⟨g, 2 * i, none⟩ = some (.int .u64 (l.getD i (0, 0)).1) ∧ w.cell? ⟨g, 2 * i + 1, none⟩ = some (.int .u64 (l.getD i (0, 0)).2) := by
  obtain ⟨h1, h2⟩ := h
  rcases h2 with ⟨hv, h0⟩ | ⟨g', cap', cur, hv, hb, hg, hn, hm, hc, ht⟩
  · omega
  · simp only [Value.slice.injEq, Option.some.injEq, Addr.mk.injEq] at hv
    obtain ⟨⟨rfl, _⟩, rfl, rfl⟩ := hv
    have key : ∀ j, j < l.length * 2 → w.cell? ⟨g, j, none⟩ = (prRow l)[j]? := fun j hj => by
      rw [show w.cell? ⟨g, j, none⟩ = cur[j]? by simp [World.cell?, hg], ← ht, List.getElem?_take_of_lt (by omega)]; simp
    have := prRow_get l i hi
    rw [key _ (by omega), key _ (by omega)]
    exact this

/-- A new block of one pair, as a row. -/
theorem OwnP.one {base : Nat} (w : World) (hb : base ≤ w.heap.size) (a b : Int) : OwnP base (w.alloc (.cells #[.int .u64 a, .int .u64 b] 59)) (.slice (some ⟨w.heap.size, 0, none⟩) 1 1) [(a, b)] :=
  ⟨rfl, .inr ⟨w.heap.size, 1, #[.int .u64 a, .int .u64 b], rfl, hb, heap_alloc_new w _, Nat.le_refl _, by unfold maxLen; omega, rfl, rfl⟩⟩

/-- append(s, p): s a row of pairs of the call's own, p one pair in a new block. -/
theorem wp_appendP {w : World} {o : Oper} {a : Act} {K : Act → World → Prop} {Q : Exit → Act → World → Prop} (s x : Operand)
    (ho : o.op = .call { callee := .builtin .append, args := #[s, x], argTypes := #[81, 81] })
    (base : Nat) (l : List (Int × Int)) (p q : Int) (v : Value) (g c : Nat) (hs : a.eval s = v) (hx : a.eval x = .slice (some ⟨g, 0, none⟩) 1 c) (hown : OwnP base w v l)
    (hg : w.cell? ⟨g, 0, none⟩ = some (.int .u64 p) ∧ w.cell? ⟨g, 1, none⟩ = some (.int .u64 q)) (hl : l.length ≤ 1000000) (hbase : base ≤ w.heap.size)
    (h : ∀ v' w', OwnP base w' v' (l ++ [(p, q)]) → w.grownBy w' v.ownBlock → K (a.put o.dst v') w') : o.wp Try.prog a w K Q := by
  obtain ⟨i, hi, hz, h1, h2⟩ := info_parts infoPr
  refine wp_append_own w s x _ ho base 59 i _ 2 16 Try.underlying81 hi hz h1 h2 rfl (by omega) v l.length _ hs hown ⟨g, 0, none⟩ 1 c [.int .u64 p, .int .u64 q] hx rfl ?_ ?_ (by unfold maxLen; omega) (by omega) hbase ?_
  · intro j u hj
    match j, hj with
    | 0, hj => simp at hj; subst hj; exact hg.1
    | 1, hj => simp at hj; subst hj; exact hg.2
  · intro u hu
    simp at hu
    rcases hu with rfl | rfl <;> rfl
  · intro v' w' h3 h4 _
    refine h v' w' ?_ h4
    unfold OwnP
    rw [List.length_append, prRow_append]
    exact h3
/-- The same as one step of a region that draws its order. -/
theorem step_appendP {w : World} {ops : Array Oper} {o : Oper} {a : Act} {K : Act → World → Prop} {Q : Exit → Act → World → Prop} {F : Prop} (hw : Region.wanted o (yielded ops a.tmps) = true) (s x : Operand)
    (ho : o.op = .call { callee := .builtin .append, args := #[s, x], argTypes := #[81, 81] })
    (base : Nat) (l : List (Int × Int)) (p q : Int) (v : Value) (g c : Nat) (hs : a.eval s = v) (hx : a.eval x = .slice (some ⟨g, 0, none⟩) 1 c) (hown : OwnP base w v l)
    (hg : w.cell? ⟨g, 0, none⟩ = some (.int .u64 p) ∧ w.cell? ⟨g, 1, none⟩ = some (.int .u64 q)) (hl : l.length ≤ 1000000) (hbase : base ≤ w.heap.size)
    (h : ∀ v' w', OwnP base w' v' (l ++ [(p, q)]) → w.grownBy w' v.ownBlock → K (a.put o.dst v') w') : if Region.wanted o (yielded ops a.tmps) = true then Oper.wp Try.prog o a w K Q else F := by
  rw [if_pos hw]
  exact wp_appendP s x ho base l p q v g c hs hx hown hg hl hbase h
end Go.Proofs.Ytifpkhgcoopjnaa
