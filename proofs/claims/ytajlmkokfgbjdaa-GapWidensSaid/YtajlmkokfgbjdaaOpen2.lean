/- How openings (a word and a slice of words) are opened that came in. No conditions. -/
import Derived.Test.YtajlmkokfgbjdaaOpen
namespace Go.Proofs.Ytajlmkokfgbjdaa
open Go.ChangeShapes Go.WideShapes Go.ChangeAt Go.RowKit Go.Joins Go.Deep
variable {H : Type} {enc : TypeId × Value → H} {P : Program}

theorem row_cell {t e : TypeId} {ek : IntKind} {W : World} {v : Value} {fuel : Nat} {x : DataW H × List MemPlace} (ht : P.underlying t = some (.slice e)) (he : P.underlying e = some (.int ek)) (hc : P.cellsOf e = 1)
    (h : DataW.trod enc P W 0 (fun _ => true) true fuel t [v] = some x) : ∃ a len cap zs, v = .slice a len cap ∧ IsRow ek W a len cap zs := by
  rcases open_ints ht he hc h with ⟨hcs, _⟩ | ⟨y, l, c, zs, hcs, _, hl, hm, hz, _, hcell, hwz⟩
  · simp at hcs
    exact ⟨none, 0, 0, [], hcs, .inl ⟨rfl, rfl, rfl, rfl⟩⟩
  · simp at hcs
    exact ⟨some y, l, c, zs, hcs, .inr ⟨_, rfl, hl, hm, by simpa using hz, hcell, hwz⟩⟩
theorem int_cell {t : TypeId} {ek : IntKind} {W : World} {v : Value} {fuel : Nat} {x : DataW H × List MemPlace} (he : P.underlying t = some (.int ek)) (h : DataW.trod enc P W 0 (fun _ => true) true fuel t [v] = some x) :
    ∃ z, v = .int ek z ∧ (Lit.int ek z).wf = true := by
  obtain ⟨z, e1, _, e3⟩ := DataW.trod_int he h
  simp at e1
  exact ⟨z, e1, e3⟩
theorem is_opening {t e : TypeId} {f0 f1 : Field} {k0 k1 : IntKind} {W : World} {r : Reach} {b0 : Nat} {v : Value} {d : DataW H} {ps : List MemPlace} (hs : P.underlying t = some (.struct #[f0, f1])) (hone : oneCellFields P #[f0, f1] = true) (hC : P.cellsOf t = 2)
    (h0 : P.underlying f0.type = some (.int k0)) (h1 : P.underlying f1.type = some (.slice e)) (he : P.underlying e = some (.int k1)) (hc : P.cellsOf e = 1)
    (hv : Value.okWide P W r b0 t v) (h : DataW.Trod enc P W 0 (fun _ => true) true t v d ps) :
    ∃ (x : Int) (a : Option Addr) (len cap : Nat) (zs : List Int), v = .agg #[.int k0 x, .slice a len cap] ∧ (Lit.int k0 x).wf = true ∧ IsRow k1 W a len cap zs := by
  obtain ⟨v0, v1, y0, y1, n, rfl, _, _, t0, t1⟩ := open_agg2 hs hone hC hv h
  obtain ⟨x, rfl, hx⟩ := int_cell h0 t0
  obtain ⟨a, len, cap, zs, rfl, hr⟩ := row_cell h1 he hc t1
  exact ⟨x, a, len, cap, zs, rfl, hx, hr⟩
theorem is_openings {t t1 e : TypeId} {f0 f1 : Field} {k0 k1 : IntKind} {W : World} {r : Reach} {b0 : Nat} {v : Value} {d : DataW H} {ps : List MemPlace} (ha : P.underlying t = some (.array 2 t1)) (hA : P.cellsOf t = 4) (hs : P.underlying t1 = some (.struct #[f0, f1])) (hone : oneCellFields P #[f0, f1] = true) (hC : P.cellsOf t1 = 2)
    (h0 : P.underlying f0.type = some (.int k0)) (h1 : P.underlying f1.type = some (.slice e)) (he : P.underlying e = some (.int k1)) (hc : P.cellsOf e = 1)
    (hv : Value.okWide P W r b0 t v) (h : DataW.Trod enc P W 0 (fun _ => true) true t v d ps) :
    ∃ (x : Int) (a : Option Addr) (len cap : Nat) (zs : List Int) (x' : Int) (a' : Option Addr) (len' cap' : Nat) (zs' : List Int), v = .agg #[.int k0 x, .slice a len cap, .int k0 x', .slice a' len' cap'] ∧ (Lit.int k0 x).wf = true ∧ IsRow k1 W a len cap zs ∧ (Lit.int k0 x').wf = true ∧ IsRow k1 W a' len' cap' zs' := by
  obtain ⟨cs, rfl, hsz⟩ : ∃ cs, v = .agg cs ∧ cs.size = P.cellsOf t := by
    simp only [Value.okWide, ha] at hv
    obtain ⟨cs, h1, h2, _⟩ := hv
    exact ⟨cs, h1, h2⟩
  obtain ⟨c0, c1, c2, c3, rfl⟩ : ∃ c0 c1 c2 c3, cs = #[c0, c1, c2, c3] := by
    have h4 : cs.toList.length = 4 := by simpa [hA] using hsz
    match hcs : cs.toList, h4 with
    | [c0, c1, c2, c3], _ => exact ⟨c0, c1, c2, c3, by rw [← hcs]⟩
  obtain ⟨fuel, hf⟩ := h
  obtain ⟨xs, m, _, _, hl, hn, hi⟩ := DataW.trod_array ha hf
  obtain ⟨o0, k0'⟩ := hone_of hone 0 f0 rfl
  obtain ⟨o1, k1'⟩ := hone_of hone 1 f1 rfl
  have key : ∀ (u0 u1 : Value) (q : DataW H × List MemPlace), DataW.trod enc P W 0 (fun _ => true) true m t1 [u0, u1] = some q → ∃ (x : Int) (a : Option Addr) (len cap : Nat) (zs : List Int), u0 = .int k0 x ∧ u1 = .slice a len cap ∧ (Lit.int k0 x).wf = true ∧ IsRow k1 W a len cap zs := by
    intro u0 u1 q hq
    obtain ⟨y0, y1, n, _, _, g0, g1⟩ := trod_struct2 hs hq
    obtain ⟨x, hx, hxw⟩ := int_cell (v := u0) h0 (by simpa [o0, k0'] using g0)
    obtain ⟨a, len, cap, zs, hr, hrw⟩ := row_cell (v := u1) h1 he hc (by simpa [o1, k1'] using g1)
    exact ⟨x, a, len, cap, zs, hx, hr, hxw, hrw⟩
  have e0 := hi 0 (by omega)
  have e1 := hi 1 (by omega)
  rw [List.getElem?_eq_getElem (by omega), hC] at e0 e1
  obtain ⟨x, a, len, cap, zs, rfl, rfl, p1, p2⟩ := key c0 c1 _ (by simpa [Value.cells] using e0)
  obtain ⟨x', a', len', cap', zs', rfl, rfl, p3, p4⟩ := key c2 c3 _ (by simpa [Value.cells] using e1)
  exact ⟨x, a, len, cap, zs, x', a', len', cap', zs', rfl, p1, p2, p3, p4⟩
end Go.Proofs.Ytajlmkokfgbjdaa
