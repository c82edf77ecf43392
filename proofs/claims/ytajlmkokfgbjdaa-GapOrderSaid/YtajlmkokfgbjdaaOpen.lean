/- How arguments are opened: slices and arrays of integers. No conditions. -/
import Derived.WalkKit
import Derived.ProofKit
import Derived.OpenShut
import Derived.Lib.SmallJoins
import Derived.Below
set_option linter.unusedVariables false
set_option linter.unusedSimpArgs false
namespace Go.Proofs.Ytajlmkokfgbjdaa
open Go.ChangeShapes Go.WideShapes Go.ChangeAt Go.RowKit

/-- A slice of integers that came in: it is nil; or it leads to a row of cells, the numbers zs (the first len are its elements). -/
def IsRow (k : IntKind) (w : World) (a : Option Addr) (len cap : Nat) (zs : List Int) : Prop :=
  (a = none ∧ len = 0 ∧ cap = 0 ∧ zs = []) ∨
  ∃ x, a = some x ∧ len ≤ cap ∧ cap ≤ maxLen ∧ zs.length = cap ∧ (∀ i, i < zs.length → w.cell? (x.add i) = some (.int k (zs.getD i 0))) ∧ ∀ n ∈ zs, (Lit.int k n).wf = true

variable {H : Type} {enc : TypeId × Value → H} {P : Program}

theorem is_row {t e : TypeId} {ek : IntKind} {W : World} {a : Option Addr} {len cap : Nat} {d : DataW H} {ps : List MemPlace}
    (ht : P.underlying t = some (.slice e)) (he : P.underlying e = some (.int ek)) (hc : P.cellsOf e = 1)
    (h : DataW.Trod enc P W 0 (fun _ => true) true t (.slice a len cap) d ps) : ∃ zs, IsRow ek W a len cap zs := by
  obtain ⟨fuel, hf⟩ := h
  rcases open_ints ht he hc hf with ⟨hcs, _⟩ | ⟨x, l, c, zs, hcs, _, hl, hm, hz, _, hcell, hwz⟩
  · simp [Value.cells] at hcs
    obtain ⟨rfl, rfl, rfl⟩ := hcs
    exact ⟨[], .inl ⟨rfl, rfl, rfl, rfl⟩⟩
  · simp [Value.cells] at hcs
    obtain ⟨rfl, rfl, rfl⟩ := hcs
    exact ⟨zs, .inr ⟨_, rfl, hl, hm, by simpa using hz, hcell, hwz⟩⟩

theorem is_arr {n t e : Nat} {ek : IntKind} {W : World} {r : Reach} {b0 : Nat} {v : Value} {d : DataW H} {ps : List MemPlace}
    (ht : P.underlying t = some (.array n e)) (he : P.underlying e = some (.int ek)) (hc : P.cellsOf e = 1) (hC : P.cellsOf t = n)
    (hv : Value.okWide P W r b0 t v) (h : DataW.Trod enc P W 0 (fun _ => true) true t v d ps) :
    ∃ zs : List Int, v = .agg (zs.map (Value.int ek)).toArray ∧ zs.length = n ∧ ∀ z ∈ zs, (Lit.int ek z).wf = true := by
  obtain ⟨cs, rfl, hsz⟩ : ∃ cs, v = .agg cs ∧ cs.size = P.cellsOf t := by
    simp only [Value.okWide, ht] at hv
    obtain ⟨cs, h1, h2, _⟩ := hv
    exact ⟨cs, h1, h2⟩
  obtain ⟨fuel, hf⟩ := h
  obtain ⟨xs, m, _, _, hl, hn, hi⟩ := DataW.trod_array ht hf
  have key : ∀ i (h : i < cs.toList.length), ∃ z, cs.toList[i] = .int ek z ∧ (Lit.int ek z).wf = true := by
    intro i hlt
    have hlt' : i < n := by simpa [hsz, hC] using hlt
    have h1 := hi i hlt'
    rw [List.getElem?_eq_getElem (by omega), hc, Nat.mul_one] at h1
    obtain ⟨z, e1, _, e3⟩ := DataW.trod_int he h1
    have e2 : (Value.agg cs).cells.toList = cs.toList := rfl
    rw [e2, List.drop_eq_getElem_cons hlt] at e1
    exact ⟨z, by simpa using e1, e3⟩
  refine ⟨cs.toList.map intOf, ?_, by simp [hsz, hC], ?_⟩
  · have : (cs.toList.map intOf).map (Value.int ek) = cs.toList := by
      apply List.ext_getElem (by simp)
      intro i h1 h2
      obtain ⟨z, e1, _⟩ := key i h2
      simp only [List.getElem_map, e1, intOf]
    rw [this]
  · intro z hz
    obtain ⟨v, hv1, rfl⟩ := List.mem_map.1 hz
    obtain ⟨i, hi1, rfl⟩ := List.mem_iff_getElem.1 hv1
    obtain ⟨z, e1, e2⟩ := key i hi1
    rw [e1]; exact e2
end Go.Proofs.Ytajlmkokfgbjdaa
