/- A slice of integers that reads as a list: what it is, how it stays, how it comes in. No conditions. -/
import Derived.Test.YtajlmkokfgbjdaaU64
import Derived.Test.YtajlmkokfgbjdaaOpen
set_option linter.unusedVariables false
set_option linter.unusedSimpArgs false
namespace Go.Proofs.Ytajlmkokfgbjdaa
open Go.RowKit

/-- v is a slice whose elements are the numbers xs, of kind k, in the world w. -/
def Sl (k : IntKind) (w : World) (v : Value) (xs : List Int) : Prop :=
  ∃ (a : Option Addr) (cap : Nat), v = .slice a xs.length cap ∧ xs.length ≤ cap ∧ cap ≤ maxLen ∧ (a = none → cap = 0) ∧
    (0 < xs.length → ∃ b o, a = some ⟨b, o, none⟩ ∧ b < w.heap.size ∧ ∀ i, i < xs.length → w.cell? ⟨b, o + i, none⟩ = some (.int k (xs.getD i 0)))

theorem Sl.stays {k : IntKind} {w w' : World} {v : Value} {xs : List Int} (h : Sl k w v xs) (hb : Below w.heap.size w w') : Sl k w' v xs := by
  obtain ⟨a, cap, rfl, h1, h2, h3, h4⟩ := h
  refine ⟨a, cap, rfl, h1, h2, h3, fun hp => ?_⟩
  obtain ⟨b, o, rfl, hlt, hc⟩ := h4 hp
  exact ⟨b, o, rfl, Nat.lt_of_lt_of_le hlt hb.size, fun i hi => by rw [hb.cell (p := ⟨b, o + i, none⟩) hlt]; exact hc i hi⟩

/-- The first m elements of a slice. -/
theorem Sl.take {k : IntKind} {w : World} {a : Option Addr} {n cap : Nat} {xs : List Int} (h : Sl k w (.slice a n cap) xs) (m : Nat) (hm : m ≤ n) : Sl k w (.slice a m cap) (xs.take m) := by
  obtain ⟨a', cap', he, h1, h2, h3, h4⟩ := h
  simp only [Value.slice.injEq] at he
  obtain ⟨rfl, rfl, rfl⟩ := he
  have hl : (xs.take m).length = m := by rw [List.length_take]; omega
  refine ⟨a, cap, by rw [hl], by omega, h2, h3, fun hp => ?_⟩
  rw [hl] at hp
  obtain ⟨b, o, rfl, hlt, hc⟩ := h4 (by omega)
  refine ⟨b, o, rfl, hlt, fun i hi => ?_⟩
  rw [hl] at hi
  rw [hc i (by omega)]
  simp [List.getD, hi]

theorem Sl.nil (k : IntKind) (w : World) : Sl k w (.slice none 0 0) [] := ⟨none, 0, rfl, Nat.le_refl _, Nat.zero_le _, fun _ => rfl, fun h => absurd h (by simp)⟩

theorem World.lt_of_cell {w : World} {b o : Nat} {v : Value} (h : w.cell? ⟨b, o, none⟩ = some v) : b < w.heap.size := World.block_lt_of_cell? w _ h

/-- A slice of integers that came in reads as a list of numbers of its kind. -/
theorem Sl.of_row {k : IntKind} {w : World} {a : Option Addr} {len cap : Nat} {zs : List Int} (h : IsRow k w a len cap zs) :
    ∃ xs, xs.length = len ∧ Sl k w (.slice a len cap) xs ∧ ∀ x ∈ xs, (Lit.int k x).wf = true := by
  rcases h with ⟨rfl, rfl, rfl, rfl⟩ | ⟨x, rfl, hl, hm, hz, hc, hw⟩
  · exact ⟨[], rfl, Sl.nil k w, by simp⟩
  · have hlen : (zs.take len).length = len := by rw [List.length_take]; omega
    refine ⟨zs.take len, hlen, ⟨some x, cap, by rw [hlen], by omega, hm, by simp, fun hp => ?_⟩, fun y hy => hw y (List.mem_of_mem_take hy)⟩
    rw [hlen] at hp
    obtain ⟨b, o, rfl, hcell⟩ := ints_at hc (by omega)
    have hcell' : ∀ i, i < zs.length → w.cell? ⟨b, o + i, none⟩ = some (.int k (zs.getD i 0)) := hcell
    refine ⟨b, o, rfl, World.lt_of_cell (hcell' 0 (by omega)), fun i hi => ?_⟩
    rw [hlen] at hi
    rw [hcell' i (by omega)]
    simp [List.getD, hi]

end Go.Proofs.Ytajlmkokfgbjdaa
