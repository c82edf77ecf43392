/- How what describes gaps is opened that came in. No conditions. -/
import Derived.Test.YtajlmkokfgbjdaaFb2
import Derived.Test.YtajlmkokfgbjdaaOpen2
import Derived.DataShut
namespace Go.Proofs.Ytajlmkokfgbjdaa
open Go.Abs Go.ChangeShapes Go.WideShapes Go.ChangeAt Go.RowKit Go.Joins Go.Deep
theorem V_of_sl {k : IntKind} {w : World} {v : Value} {xs : List Int} (h : Sl k w v xs) : V noPl (fun _ => False) w (rdI k xs) v := by
  obtain ⟨a, cap, rfl, h1, h2, h3, h4⟩ := h
  simp only [rdI, V]
  refine ⟨a, cap, rfl, h1, h2, fun e => ?_, fun q hq => ?_⟩
  · subst e
    have hc := h3 rfl
    have h0 : xs = [] := List.eq_nil_of_length_eq_zero (by omega)
    subst h0; exact ⟨rfl, hc, rfl⟩
  · subst hq
    cases hx : xs with
    | nil => exact .inl rfl
    | cons y ys =>
      obtain ⟨b, o, hb, hlt, hcell⟩ := h4 (by rw [hx]; simp)
      cases hb
      refine .inr ⟨rfl, fun h => h, hlt, xs.map (Value.int k), by rw [← hx]; exact VL_ints_mk xs, fun j u hj => ?_⟩
      rw [List.getElem?_map] at hj
      obtain ⟨z, hz, rfl⟩ := Option.map_eq_some_iff.1 hj
      have hjl := (List.getElem?_eq_some_iff.1 hz).1
      rw [hcell j hjl]
      simp [List.getD, hz]
variable {H : Type} {enc : TypeId × Value → H} {P : Program}
theorem u8_nat {z : Int} (h : (Lit.int .u8 z).wf = true) : ∃ n : Nat, z = n ∧ n < 256 := by
  have h' := (Lit.wf_int_iff _ _).1 h
  have e0 : IntKind.u8.min = 0 := by decide
  have e1 : IntKind.u8.max = 255 := by decide
  exact ⟨z.toNat, by omega, by omega⟩
theorem is_raw {t e : TypeId} {f0 f1 f2 : Field} {W : World} {r : Reach} {b0 : Nat} {v : Value} {d : DataW H} {ps : List MemPlace} (hs : P.underlying t = some (.struct #[f0, f1, f2])) (hone : oneCellFields P #[f0, f1, f2] = true) (hC : P.cellsOf t = 3)
    (h0 : P.underlying f0.type = some (.int .u8)) (h1 : P.underlying f1.type = some (.int .u8)) (h2 : P.underlying f2.type = some (.slice e)) (he : P.underlying e = some (.int .i64)) (hc : P.cellsOf e = 1)
    (hv : Value.okWide P W r b0 t v) (h : DataW.Trod enc P W 0 (fun _ => true) true t v d ps) :
    ∃ (x y : Nat) (N : List Int), x < 256 ∧ y < 256 ∧ N.length ≤ 9223372036854775807 ∧ V noPl (fun _ => False) W (rawA x y N) v := by
  obtain ⟨v0, v1, v2, y0, y1, y2, n, rfl, _, _, t0, t1, t2⟩ := open_agg3 hs hone hC hv h
  obtain ⟨x, rfl, hx⟩ := int_cell h0 t0
  obtain ⟨y, rfl, hy⟩ := int_cell h1 t1
  obtain ⟨a, len, cap, zs, rfl, hr⟩ := row_cell h2 he hc t2
  obtain ⟨x, rfl, bx⟩ := u8_nat hx
  obtain ⟨y, rfl, bY⟩ := u8_nat hy
  obtain ⟨N, _, hsl, _⟩ := Sl.of_row hr
  have hV := V_of_sl hsl
  refine ⟨x, y, N, bx, bY, ?_, ?_⟩
  rotate_left 1
  · simp only [rawA]
    unfold V
    exact ⟨_, rfl, .cons (by simp only [V]) (.cons (by simp only [V]) (.cons hV .nil))⟩
  · obtain ⟨a', cap', _, k1, k2, _⟩ := hsl
    have : maxLen = 9223372036854775807 := rfl
    omega
end Go.Proofs.Ytajlmkokfgbjdaa
