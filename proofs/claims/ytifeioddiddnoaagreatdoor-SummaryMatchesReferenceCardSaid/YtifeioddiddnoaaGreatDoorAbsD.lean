/- How data that came in is opened, whatever its type: numbers, truths, texts, slices, arrays and structs of such. No conditions. -/
import Derived.Test.YtifeioddiddnoaaGreatDoorAbsC
import Derived.WalkKit
import Derived.OpenShut
import Derived.ChangeArms
import Derived.DataReads
import Derived.WideShapes
import Derived.DataElems
import Derived.Laws.StructEq
import Derived.Laws.Bits64
import Derived.Laws.BytesString
import Derived.Lib.ConvBytes
import Derived.Lib.AtoiErrMem
set_option linter.unusedVariables false
set_option linter.unusedSimpArgs false
namespace Go.Abs
open Go.RowKit

/-- Data: what a value of such a type tells. -/
inductive Dd where
  | int (k : IntKind) (n : Int)
  | bool (b : Bool)
  | str (s : ByteArray)
  | sl (l : List Dd)
  | agg (l : List Dd)
mutual
def Dd.cells : Dd → List A
  | .int k n => [.val (.int k n)]
  | .bool b => [.val (.bool b)]
  | .str s => [.val (.string s)]
  | .sl l => [.ro l.length (Dd.cellsL l)]
  | .agg l => Dd.cellsL l
def Dd.cellsL : List Dd → List A
  | [] => []
  | d :: l => d.cells ++ Dd.cellsL l
end
/-- The types that data have. -/
inductive Dd.Ty (P : Program) : TypeId → Dd → Prop
  | int {t : TypeId} {k : IntKind} {n : Int} : P.underlying t = some (.int k) → (Lit.int k n).wf = true → Dd.Ty P t (.int k n)
  | bool {t : TypeId} {b : Bool} : P.underlying t = some .bool → Dd.Ty P t (.bool b)
  | str {t : TypeId} {s : ByteArray} : P.underlying t = some .string → s.size ≤ maxLen → Dd.Ty P t (.str s)
  | sl {t e : TypeId} {l : List Dd} : P.underlying t = some (.slice e) → l.length ≤ maxLen → (∀ d, d ∈ l → Dd.Ty P e d) → Dd.Ty P t (.sl l)
  | arr {t e : TypeId} {n : Nat} {l : List Dd} : P.underlying t = some (.array n e) → l.length = n → (∀ d, d ∈ l → Dd.Ty P e d) → Dd.Ty P t (.agg l)
  | st {t : TypeId} {fs : Array Field} {l : List Dd} : P.underlying t = some (.struct fs) → l.length = fs.size → (∀ (i : Nat) (f : Field) (d : Dd), fs[i]? = some f → l[i]? = some d → Dd.Ty P f.type d) → Dd.Ty P t (.agg l)
def contig (P : Program) : List Field → Nat → Nat → Bool
  | [], o, n => o == n
  | f :: fs, o, n => f.offset == o && contig P fs (o + P.cellsOf f.type) n
/-- A closed set of types of data. -/
def dataTypes (P : Program) (ts : List TypeId) : Bool := ts.all fun t => match P.underlying t with
  | some (.int _) => true
  | some .bool => true
  | some .string => true
  | some (.slice e) => ts.contains e
  | some (.array n e) => ts.contains e && P.cellsOf t == n * P.cellsOf e
  | some (.struct fs) => fs.toList.all (fun f => ts.contains f.type) && contig P fs.toList 0 (P.cellsOf t)
  | _ => false
section
variable {H : Type} {enc : TypeId × Value → H} {P : Program} {W : World}
abbrev noX : Nat → Prop := fun _ => False
theorem dd_parts {ps : List (List Value)} {ds : List Dd} (hl : ds.length = ps.length) (h : ∀ (i : Nat) (d : Dd) (c : List Value), ds[i]? = some d → ps[i]? = some c → VL noPl noX W d.cells c) : VL noPl noX W (Dd.cellsL ds) ps.flatten := by
  induction ds generalizing ps with
  | nil =>
    have : ps = [] := List.eq_nil_of_length_eq_zero (by simpa using hl.symm)
    subst this
    simp only [Dd.cellsL, List.flatten_nil]
    exact VL.nil
  | cons d ds ih =>
    cases ps with
    | nil => simp at hl
    | cons p ps =>
      simp only [Dd.cellsL, List.flatten_cons]
      refine (h 0 d p rfl rfl).append (ih (by simpa using hl) (fun i d c h1 h2 => h (i + 1) d c (by simpa using h1) (by simpa using h2)))
theorem contig_flat : ∀ {fs : List Field} {o n : Nat} {cs : List Value}, contig P fs o n = true → cs.length = n → (fs.map fun f => (cs.drop f.offset).take (P.cellsOf f.type)).flatten = cs.drop o
  | [], o, n, cs, h, hl => by
    simp only [contig, beq_iff_eq] at h
    rw [List.map_nil, List.flatten_nil, List.drop_eq_nil_of_le (by omega)]
  | f :: fs, o, n, cs, h, hl => by
    simp only [contig, Bool.and_eq_true, beq_iff_eq] at h
    rw [List.map_cons, List.flatten_cons, contig_flat h.2 hl, h.1, ← List.drop_drop, List.take_append_drop]
theorem split_flat {m : Nat} : ∀ {n : Nat} {cs : List Value}, cs.length = n * m → ((List.range n).map fun i => (cs.drop (i * m)).take m).flatten = cs
  | 0, cs, h => by
    have : cs = [] := List.eq_nil_of_length_eq_zero (by simpa using h)
    subst this; rfl
  | n + 1, cs, h => by
    have h' : cs.length = n * m + m := by rw [h, Nat.succ_mul]
    have e := split_flat (n := n) (m := m) (cs := cs.drop m) (by rw [List.length_drop]; omega)
    have hr : ∀ i, ((cs.drop m).drop (i * m)).take m = (cs.drop ((i + 1) * m)).take m := fun i => by rw [List.drop_drop, Nat.succ_mul, Nat.add_comm m]
    rw [List.range_succ_eq_map, List.map_cons, List.flatten_cons, List.map_map]
    simp only [Nat.zero_mul, List.drop_zero]
    rw [show ((fun i => (cs.drop (i * m)).take m) ∘ Nat.succ) = (fun i => ((cs.drop m).drop (i * m)).take m) from funext fun i => (hr i).symm, e, List.take_append_drop]
/-- Choice over a list. -/
theorem list_choice {α β : Type} {p : Nat → α → β → Prop} : ∀ (l : List α), (∀ i a, l[i]? = some a → ∃ b, p i a b) → ∃ r : List β, r.length = l.length ∧ ∀ i a b, l[i]? = some a → r[i]? = some b → p i a b
  | [], _ => ⟨[], rfl, fun i a b h => by simp at h⟩
  | a :: l, h => by
    obtain ⟨b, hb⟩ := h 0 a rfl
    obtain ⟨r, h1, h2⟩ := list_choice (p := fun i => p (i + 1)) l (fun i a hi => h (i + 1) a (by simpa using hi))
    refine ⟨b :: r, by simp [h1], fun i x y hx hy => ?_⟩
    cases i with
    | zero => simp at hx hy; subst hx hy; exact hb
    | succ i => exact h2 i x y (by simpa using hx) (by simpa using hy)
theorem trod_dd {ts : List TypeId} (hD : dataTypes P ts = true) : ∀ (fuel : Nat) (t : TypeId) (cs : List Value) (x : DataW H × List MemPlace), t ∈ ts → DataW.trod enc P W 0 (fun _ => true) true fuel t cs = some x → ∃ d, Dd.Ty P t d ∧ VL noPl noX W d.cells cs := by
  intro fuel
  induction fuel with
  | zero => intro t cs x _ h; simp [DataW.trod] at h
  | succ fuel ih =>
    intro t cs x ht h
    have hd := List.all_eq_true.1 hD t ht
    cases hu : P.underlying t with
    | none => rw [hu] at hd; cases hd
    | some u =>
      rw [hu] at hd
      cases u with
      | int k =>
        obtain ⟨n, rfl, _, h1⟩ := DataW.trod_int hu h
        exact ⟨.int k n, .int hu h1, .cons (by simp only [V]) .nil⟩
      | bool =>
        obtain ⟨b, rfl, _⟩ := DataW.trod_bool hu h
        exact ⟨.bool b, .bool hu, .cons (by simp only [V]) .nil⟩
      | string =>
        obtain ⟨s, rfl, _, h1⟩ := DataW.trod_string hu h
        exact ⟨.str s, .str hu h1, .cons (by simp only [V]) .nil⟩
      | slice e =>
        have he : e ∈ ts := by simpa using hd
        rcases DataW.trod_slice hu h with ⟨rfl, _⟩ | ⟨a, len, cap, elems, rest, n, hn, rfl, _, hb, hl, hc, hel, hi, _⟩
        · exact ⟨.sl [], .sl hu (Nat.zero_le _) (fun _ h => by cases h), .cons (Wk.nil _ _ _ _ (by simp only [V])) .nil⟩
        · obtain rfl : fuel = n := by omega
          have key : ∀ (i : Nat) (y : DataW H × List MemPlace), elems[i]? = some y → ∃ dc : Dd × List Value, Dd.Ty P e dc.1 ∧ VL noPl noX W dc.1.cells dc.2 ∧ W.cells? 0 (a.add (i * P.cellsOf e)) (P.cellsOf e) = some dc.2 := by
            intro i y hy
            have hil := (List.getElem?_eq_some_iff.1 hy).1
            have h1 := hi i (by omega)
            rw [hy] at h1
            obtain ⟨cs', h2, h3⟩ := Option.bind_eq_some_iff.1 h1
            obtain ⟨d, h4, h5⟩ := ih e cs' y he h3
            exact ⟨(d, cs'), h4, h5, h2⟩
          obtain ⟨r, hr1, hr2⟩ := list_choice elems key
          have hrl : r.length = len := by omega
          have get : ∀ i, i < len → ∃ dc, r[i]? = some dc ∧ Dd.Ty P e dc.1 ∧ VL noPl noX W dc.1.cells dc.2 ∧ W.cells? 0 (a.add (i * P.cellsOf e)) (P.cellsOf e) = some dc.2 := by
            intro i hi'
            have h1 : r[i]? = some (r[i]'(by omega)) := List.getElem?_eq_getElem (by omega)
            exact ⟨_, h1, hr2 i _ _ (List.getElem?_eq_getElem (by omega)) h1⟩
          refine ⟨.sl (r.map (·.1)), .sl hu (by rw [List.length_map]; omega) (fun d hd' => ?_), ?_⟩
          · obtain ⟨dc, h1, rfl⟩ := List.mem_map.1 hd'
            obtain ⟨i, hi1, rfl⟩ := List.mem_iff_getElem.1 h1
            obtain ⟨dc, h2, h3, _⟩ := get i (by omega)
            rw [List.getElem?_eq_getElem hi1] at h2
            cases h2; exact h3
          · have hall : VL noPl noX W (Dd.cellsL (r.map (·.1))) (r.map (·.2)).flatten := by
              refine dd_parts (by simp) (fun i d c h1 h2 => ?_)
              rw [List.getElem?_map] at h1 h2
              cases hri : r[i]? with
              | none => rw [hri] at h1; cases h1
              | some dc =>
                rw [hri] at h1 h2
                cases h1; cases h2
                have hil := (List.getElem?_eq_some_iff.1 hri).1
                obtain ⟨dc', h3, _, h4, _⟩ := get i (by omega)
                rw [hri] at h3; cases h3; exact h4
            have hcell : ∀ (j : Nat) (u : Value), (r.map (·.2)).flatten[j]? = some u → W.cell? (a.add j) = some u := by
              have : ∀ (l : List (Dd × List Value)) (o : Nat), (∀ i dc, l[i]? = some dc → W.cells? 0 (a.add (o + i * P.cellsOf e)) (P.cellsOf e) = some dc.2) → ∀ (j : Nat) (u : Value), (l.map (·.2)).flatten[j]? = some u → W.cell? (a.add (o + j)) = some u := by
                intro l
                induction l with
                | nil => intro o _ j u hj; simp at hj
                | cons dc l ih2 =>
                  intro o h1 j u hj
                  have h0 := h1 0 dc rfl
                  rw [Nat.zero_mul, Nat.add_zero] at h0
                  obtain ⟨_, hlen, hget⟩ := World.cells?_some h0
                  rw [List.map_cons, List.flatten_cons] at hj
                  by_cases hjl : j < dc.2.length
                  · rw [List.getElem?_append_left hjl] at hj
                    have := hget j (by omega)
                    rw [hj] at this
                    rw [show a.add (o + j) = (a.add o).add j from (Addr.add_add a o j).symm]; exact this
                  · rw [List.getElem?_append_right (by omega)] at hj
                    have := ih2 (o + P.cellsOf e) (fun i dc' hi' => by
                      have := h1 (i + 1) dc' (by simpa using hi')
                      rw [Nat.succ_mul, ← Nat.add_assoc, Nat.add_right_comm] at this
                      rw [Nat.add_right_comm]; rw [Nat.add_right_comm] at this; exact this) (j - dc.2.length) u hj
                    rw [show o + j = o + P.cellsOf e + (j - dc.2.length) by omega]; exact this
              intro j u hj
              have := this r 0 (fun i dc hi' => by
                have hil := (List.getElem?_eq_some_iff.1 hi').1
                obtain ⟨dc', h3, _, _, h4⟩ := get i (by omega)
                rw [hi'] at h3; cases h3
                rw [Nat.zero_add]; exact h4) j u hj
              rw [Nat.zero_add] at this; exact this
            refine .cons ?_ .nil
            unfold V
            refine ⟨some a, cap, by rw [List.length_map, hrl], by rw [List.length_map]; omega, hc, (fun h => by cases h), fun q hq => ?_⟩
            cases hq
            cases hvs : (r.map (·.2)).flatten with
            | nil =>
              left
              have := hall.length
              rw [hvs] at this
              exact List.eq_nil_of_length_eq_zero this.symm
            | cons u us =>
              right
              have h0 := hcell 0 u (by rw [hvs]; rfl)
              have hspot : a.spot = none ∧ a.block < W.heap.size := by
                unfold World.cell? at h0
                cases hb' : W.heap[(a.add 0).block]? with
                | none => rw [hb'] at h0; cases h0
                | some o =>
                  have hsz := (Array.getElem?_eq_some_iff.1 hb').1
                  rw [hb'] at h0
                  cases o with
                  | cells c e' z =>
                    simp only at h0
                    split at h0
                    · cases h0
                    · rename_i hs; exact ⟨by simpa [Addr.add] using hs, hsz⟩
                  | _ => cases h0
              refine ⟨hspot.1, id, hspot.2, (r.map (·.2)).flatten, hall, fun j u' hj => ?_⟩
              have := hcell j u' hj
              obtain ⟨b, o, sp⟩ := a
              obtain rfl : sp = none := hspot.1
              rw [← Go.WideShapes.add_plain]; exact this
      | array n e =>
        simp only [Bool.and_eq_true, beq_iff_eq] at hd
        have he : e ∈ ts := by simpa using hd.1
        obtain ⟨xs, m, hm, _, hl, hx, hi⟩ := DataW.trod_array hu h
        obtain rfl : fuel = m := by omega
        have key : ∀ (i : Nat) (k : Nat), (List.range n)[i]? = some k → ∃ d : Dd, Dd.Ty P e d ∧ VL noPl noX W d.cells ((cs.drop (k * P.cellsOf e)).take (P.cellsOf e)) := by
          intro i k hk
          have hkn : k < n := List.mem_range.1 (List.mem_of_getElem? hk)
          have h1 := hi k hkn
          rw [List.getElem?_eq_getElem (by omega)] at h1
          exact ih e _ _ he h1
        obtain ⟨r, hr1, hr2⟩ := list_choice (List.range n) key
        rw [List.length_range] at hr1
        refine ⟨.agg r, .arr hu hr1 (fun d hd' => ?_), ?_⟩
        · obtain ⟨i, hi1, rfl⟩ := List.mem_iff_getElem.1 hd'
          exact (hr2 i i _ (List.getElem?_range (by omega)) (List.getElem?_eq_getElem hi1)).1
        · have := dd_parts (W := W) (ds := r) (ps := (List.range n).map fun i => (cs.drop (i * P.cellsOf e)).take (P.cellsOf e)) (by simp [hr1]) (fun i d c h1 h2 => by
            rw [List.getElem?_map] at h2
            cases hri : (List.range n)[i]? with
            | none => rw [hri] at h2; cases h2
            | some k => rw [hri] at h2; cases h2; exact (hr2 i k d hri h1).2)
          rw [split_flat (by rw [hl, hd.2])] at this
          exact this
      | struct fs =>
        simp only [Bool.and_eq_true] at hd
        obtain ⟨xs, m, hm, _, hl, hx, hi⟩ := DataW.trod_struct hu h
        obtain rfl : fuel = m := by omega
        have key : ∀ (i : Nat) (f : Field), fs.toList[i]? = some f → ∃ d : Dd, Dd.Ty P f.type d ∧ VL noPl noX W d.cells ((cs.drop f.offset).take (P.cellsOf f.type)) := by
          intro i f hf
          have hf' : fs[i]? = some f := by simpa using hf
          have h1 := hi i f hf'
          have hlt := (Array.getElem?_eq_some_iff.1 hf').1
          rw [List.getElem?_eq_getElem (by omega)] at h1
          have hmem : f.type ∈ ts := by simpa using List.all_eq_true.1 hd.1 f (List.mem_of_getElem? hf)
          exact ih f.type _ _ hmem h1
        obtain ⟨r, hr1, hr2⟩ := list_choice fs.toList key
        refine ⟨.agg r, .st hu (by simpa using hr1) (fun i f d hf hd' => (hr2 i f d (by simpa using hf) hd').1), ?_⟩
        have := dd_parts (W := W) (ds := r) (ps := fs.toList.map fun f => (cs.drop f.offset).take (P.cellsOf f.type)) (by simp [hr1]) (fun i d c h1 h2 => by
          rw [List.getElem?_map] at h2
          cases hri : fs.toList[i]? with
          | none => rw [hri] at h2; cases h2
          | some f => rw [hri] at h2; cases h2; exact (hr2 i f d hri h1).2)
        rw [contig_flat hd.2 hl, List.drop_zero] at this
        exact this
      | _ => cases hd
end
end Go.Abs
namespace Go.Abs
open Go.RowKit
section
variable {H : Type} {enc : TypeId × Value → H} {P : Program} {W : World}
theorem open_dd {ts : List TypeId} {t : TypeId} {v : Value} {d : DataW H} {ps : List MemPlace} (hD : dataTypes P ts = true) (ht : t ∈ ts) (h : DataW.Trod enc P W 0 (fun _ => true) true t v d ps) : ∃ dd, Dd.Ty P t dd ∧ VL noPl noX W dd.cells v.cells.toList := by
  obtain ⟨fuel, hf⟩ := h
  exact trod_dd hD fuel t _ _ ht hf
theorem Dd.Ty.int_inv {t : TypeId} {k : IntKind} {d : Dd} (hu : P.underlying t = some (.int k)) (h : Dd.Ty P t d) : ∃ n, d = .int k n ∧ (Lit.int k n).wf = true := by
  cases h with
  | int h1 h2 => rw [hu] at h1; cases h1; exact ⟨_, rfl, h2⟩
  | bool h1 => rw [hu] at h1; cases h1
  | str h1 _ => rw [hu] at h1; cases h1
  | sl h1 _ _ => rw [hu] at h1; cases h1
  | arr h1 _ _ => rw [hu] at h1; cases h1
  | st h1 _ _ => rw [hu] at h1; cases h1
theorem Dd.Ty.str_inv {t : TypeId} {d : Dd} (hu : P.underlying t = some .string) (h : Dd.Ty P t d) : ∃ s, d = .str s ∧ s.size ≤ maxLen := by
  cases h with
  | int h1 _ => rw [hu] at h1; cases h1
  | bool h1 => rw [hu] at h1; cases h1
  | str h1 h2 => exact ⟨_, rfl, h2⟩
  | sl h1 _ _ => rw [hu] at h1; cases h1
  | arr h1 _ _ => rw [hu] at h1; cases h1
  | st h1 _ _ => rw [hu] at h1; cases h1
theorem Dd.Ty.sl_inv {t e : TypeId} {d : Dd} (hu : P.underlying t = some (.slice e)) (h : Dd.Ty P t d) : ∃ l, d = .sl l ∧ l.length ≤ maxLen ∧ ∀ x, x ∈ l → Dd.Ty P e x := by
  cases h with
  | int h1 _ => rw [hu] at h1; cases h1
  | bool h1 => rw [hu] at h1; cases h1
  | str h1 _ => rw [hu] at h1; cases h1
  | sl h1 h2 h3 => rw [hu] at h1; cases h1; exact ⟨_, rfl, h2, h3⟩
  | arr h1 _ _ => rw [hu] at h1; cases h1
  | st h1 _ _ => rw [hu] at h1; cases h1
theorem Dd.Ty.arr_inv {t e : TypeId} {n : Nat} {d : Dd} (hu : P.underlying t = some (.array n e)) (h : Dd.Ty P t d) : ∃ l, d = .agg l ∧ l.length = n ∧ ∀ x, x ∈ l → Dd.Ty P e x := by
  cases h with
  | int h1 _ => rw [hu] at h1; cases h1
  | bool h1 => rw [hu] at h1; cases h1
  | str h1 _ => rw [hu] at h1; cases h1
  | sl h1 _ _ => rw [hu] at h1; cases h1
  | arr h1 h2 h3 => rw [hu] at h1; cases h1; exact ⟨_, rfl, h2, h3⟩
  | st h1 _ _ => rw [hu] at h1; cases h1
theorem Dd.Ty.st_inv {t : TypeId} {fs : Array Field} {d : Dd} (hu : P.underlying t = some (.struct fs)) (h : Dd.Ty P t d) : ∃ l, d = .agg l ∧ l.length = fs.size ∧ ∀ (i : Nat) (f : Field) (x : Dd), fs[i]? = some f → l[i]? = some x → Dd.Ty P f.type x := by
  cases h with
  | int h1 _ => rw [hu] at h1; cases h1
  | bool h1 => rw [hu] at h1; cases h1
  | str h1 _ => rw [hu] at h1; cases h1
  | sl h1 _ _ => rw [hu] at h1; cases h1
  | arr h1 _ _ => rw [hu] at h1; cases h1
  | st h1 h2 h3 => rw [hu] at h1; cases h1; exact ⟨_, rfl, h2, h3⟩
theorem cellsL_ints (k : IntKind) (xs : List Int) : Dd.cellsL (xs.map (Dd.int k)) = ints k xs := by
  induction xs with
  | nil => rfl
  | cons x xs ih => simp only [List.map_cons, Dd.cellsL, Dd.cells, ih, ints, List.cons_append, List.nil_append]
/-- A slice of numbers. -/
theorem Dd.Ty.ints_inv {t e : TypeId} {k : IntKind} {d : Dd} (hu : P.underlying t = some (.slice e)) (he : P.underlying e = some (.int k)) (h : Dd.Ty P t d) :
    ∃ xs : List Int, d.cells = [rdI k xs] ∧ xs.length ≤ maxLen ∧ ∀ x, x ∈ xs → (Lit.int k x).wf = true := by
  obtain ⟨l, rfl, h1, h2⟩ := h.sl_inv hu
  obtain ⟨xs, h3, h4⟩ := list_choice (p := fun _ (d : Dd) (n : Int) => d = .int k n ∧ (Lit.int k n).wf = true) l (fun i d hi => (h2 d (List.mem_of_getElem? hi)).int_inv he)
  have e1 : l = xs.map (Dd.int k) := by
    apply List.ext_getElem (by simp [h3])
    intro i hi1 hi2
    have := h4 i _ _ (List.getElem?_eq_getElem hi1) (List.getElem?_eq_getElem (by omega))
    simp [this.1]
  refine ⟨xs, ?_, by omega, fun x hx => ?_⟩
  · rw [e1]; simp only [Dd.cells, cellsL_ints, List.length_map, rdI]
  · obtain ⟨i, hi, rfl⟩ := List.mem_iff_getElem.1 hx
    exact (h4 i _ _ (List.getElem?_eq_getElem (by omega)) (List.getElem?_eq_getElem hi)).2
end
end Go.Abs
namespace Go.Abs
open Go.RowKit
/-- What data are told as. -/
def Dd.aw : Dd → A
  | .int k n => .val (.int k n)
  | .bool b => .val (.bool b)
  | .str s => .val (.string s)
  | .sl l => .ro l.length (Dd.cellsL l)
  | .agg l => .agg (Dd.cellsL l)
section
variable {H : Type} {enc : TypeId × Value → H} {P : Program} {W : World}
theorem open_any {ts : List TypeId} {t : TypeId} {r : Reach} {b0 : Nat} {v : Value} {d : DataW H} {ps : List MemPlace} (hD : dataTypes P ts = true) (ht : t ∈ ts) (hv : Value.okWide P W r b0 t v) (h : DataW.Trod enc P W 0 (fun _ => true) true t v d ps) :
    ∃ dd, Dd.Ty P t dd ∧ V noPl noX W dd.aw v := by
  obtain ⟨dd, h1, h2⟩ := open_dd hD ht h
  refine ⟨dd, h1, ?_⟩
  have one : ∀ {a : A} {v : Value}, v.cells.toList = [v] → VL noPl noX W [a] v.cells.toList → V noPl noX W a v := by
    intro a v e hv
    rw [e] at hv
    obtain ⟨u, t, h3, h4, _⟩ := hv.uncons
    simp only [List.cons.injEq] at h3
    rw [h3.1]; exact h4
  cases h1 with
  | int hu _ => obtain ⟨n, rfl⟩ := Go.WideShapes.okWide_int hu hv; exact one rfl h2
  | bool hu => obtain ⟨b, rfl⟩ := Go.WideShapes.okWide_bool hu hv; exact one rfl h2
  | str hu _ => obtain ⟨s, rfl⟩ := Go.WideShapes.okWide_string hu hv; exact one rfl h2
  | sl hu _ _ => obtain ⟨a, n, c, rfl⟩ := Go.WideShapes.okWide_slice hu hv; exact one rfl h2
  | arr hu _ _ => obtain ⟨cs, rfl, _⟩ : ∃ cs, v = .agg cs ∧ True := by { simp only [Value.okWide, hu] at hv; obtain ⟨cs, h3, _⟩ := hv; exact ⟨cs, h3, trivial⟩ }; show V noPl noX W (.agg _) _; unfold V; exact ⟨cs.toList, rfl, h2⟩
  | st hu _ _ => obtain ⟨cs, rfl, _⟩ := Go.WideShapes.okWide_struct hu hv; show V noPl noX W (.agg _) _; unfold V; exact ⟨cs.toList, rfl, h2⟩
end
end Go.Abs
namespace Go.Abs
open Go.RowKit
def valO : A → Option Value
  | .val v => some v
  | _ => none
def valsO : List A → Option (List Value)
  | [] => some []
  | a :: l => match valO a, valsO l with
    | some v, some vs => some (v :: vs)
    | _, _ => none
theorem valsO_spec {f : Pl} {X : Nat → Prop} {w : World} : ∀ {l : List A} {us vs : List Value}, valsO l = some us → VL f X w l vs → vs = us
  | [], us, vs, h, hv => by simp only [valsO, Option.some.injEq] at h; subst h; exact hv.unnil
  | a :: l, us, vs, h, hv => by
    obtain ⟨v, t, rfl, h2, h3⟩ := hv.uncons
    simp only [valsO] at h
    split at h
    · rename_i u us' hu hus
      simp only [Option.some.injEq] at h; subst h
      rw [valsO_spec hus h3]
      cases a <;> simp only [valO, Option.some.injEq, reduceCtorEq] at hu
      subst hu
      rw [h2.val]
    · cases h
def veq : Value → Value → Bool
  | .int _ a, .int _ b => decide (a = b)
  | .bool a, .bool b => a == b
  | .string a, .string b => a == b
  | _, _ => false
def veqL : List Value → List Value → Bool
  | [], [] => true
  | [a], [b] => veq a b
  | a :: l, b :: m => veq a b && veqL l m
  | _, _ => false
def fitV : TK → Value → Bool
  | .int k, .int k' _ => decide (k = k')
  | .bool, .bool _ => true
  | .string, .string _ => true
  | _, _ => false
def fitL : List TK → List Value → Bool
  | [], [] => true
  | k :: ks, v :: vs => fitV k v && fitL ks vs
  | _, _ => false
/-- How values of a type are compared, cell by cell. -/
def EqOk (P : Program) (t : TypeId) (ks : List TK) : Prop := P.eqGuardType P.depth t = false ∧
  ∀ (xs ys : List Value) (w : World), fitL ks xs = true → fitL ks ys = true → (Op.equalIn 10000 t (.agg xs.toArray) (.agg ys.toArray)).run P w = .ok (veqL xs ys) w
def lookE : List (Nat × List TK) → Nat → Option (List TK)
  | [], _ => none
  | (u, x) :: l, t => bif Nat.beq t u then some x else lookE l t
def EOk (P : Program) (E : List (Nat × List TK)) : Prop := ∀ t ks, lookE E t = some ks → EqOk P t ks
theorem EOk.nil (P : Program) : EOk P [] := fun t ks h => by cases h
theorem EOk.cons {P : Program} {E : List (Nat × List TK)} {t : TypeId} {ks : List TK} (h : EqOk P t ks) (hE : EOk P E) : EOk P ((t, ks) :: E) := fun u x hu => by
  simp only [lookE] at hu
  cases hb : Nat.beq u t with
  | true => rw [hb] at hu; obtain rfl := Nat.eq_of_beq_eq_true hb; simp only [cond_true, Option.some.injEq] at hu; subst hu; exact h
  | false => rw [hb] at hu; exact hE u x hu
theorem fit_int {k : IntKind} {v : Value} (h : fitV (.int k) v = true) : ∃ n, v = .int k n := by
  cases v <;> simp only [fitV, reduceCtorEq, decide_eq_true_eq, Bool.false_eq_true] at h
  subst h; exact ⟨_, rfl⟩
theorem fit_cons {k : TK} {ks : List TK} {vs : List Value} (h : fitL (k :: ks) vs = true) : ∃ v us, vs = v :: us ∧ fitV k v = true ∧ fitL ks us = true := by
  cases vs with
  | nil => simp [fitL] at h
  | cons v us => simp only [fitL, Bool.and_eq_true] at h; exact ⟨v, us, rfl, h.1, h.2⟩
theorem fit_nil {vs : List Value} (h : fitL [] vs = true) : vs = [] := by cases vs <;> simp_all [fitL]
section
variable {P : Program} {L : List (Nat × TI)} {C : Ctx} {ops : Array Oper} {draw : Bool} {Q : AQ} {s0 : St} {tr : List TE} {e : Nat → Option A} {h : Nat → Reg} {n : Nat}
/-- An operation that computes, in whatever way. -/
theorem RG.yld {d : Option Tmp} {op : Op} {ty : TypeId} {pos : String} {af : Array Edge} {g : Option (Nat × Bool)} {r r' : Option A} (ho : ops[tr.length]? = some ⟨d, op, ty, pos, af, g⟩) (hg : wantA ops g e = some true)
    (hv : ∀ (ev : Operand → Option A), (∀ x ∈ op.operands, ev x = evE e x) → ∀ (f : Pl) (X : Nat → Prop) (w : World) (ρ : Operand → Value), (∀ x v, ev x = some v → V f X w v (ρ x)) → Yld P f X w ρ ⟨d, op, ty, pos, af, g⟩ r) (hd : dOk C d = true) (hr' : r = r')
    (hr : RG P C ops draw Q s0 (⟨fpOf ops ⟨d, op, ty, pos, af, g⟩ [], d, ⟨r', [], 0⟩, n⟩ :: tr) ⟨putd d r' e, h, n⟩) : RG P C ops draw Q s0 tr ⟨e, h, n⟩ := by
  subst hr'
  refine RG.step (s := ⟨e, h, n⟩) ⟨fpOf ops ⟨d, op, ty, pos, af, g⟩ [], d, ⟨r, [], 0⟩, n⟩ rfl (wstep_of ho rfl hg ?_) hr
  intro s fr f a w ha hfr hrel next Q' hQ' hnext
  obtain ⟨_, h1, _⟩ := ha.parts
  obtain ⟨v, h2, h3⟩ := hv (evE s.e) h1 f (C.X s.h f) w a.eval (fun x v hx => hrel.ev hx)
  unfold Oper.wp
  rw [h2]
  refine hnext _ _ f ?_
  exact { hrel.put hd h3 with fr := fun k hk => hrel.fr k hk.1 }
theorem RG.eqA {E : List (Nat × List TK)} (hE : EOk P E) {d : Option Tmp} {op : BinOp} {t t2 : TypeId} {x y : Operand} {ty : TypeId} {pos : String} {af : Array Edge} {g : Option (Nat × Bool)} {l1 l2 : List A} {xs ys : List Value} {ks : List TK} {r r' : A}
    (ho : ops[tr.length]? = some ⟨d, .binOp op t x y t2, ty, pos, af, g⟩) (hg : wantA ops g e = some true)
    (hx : evE e x = some (.agg l1)) (hy : evE e y = some (.agg l2)) (h1 : valsO l1 = some xs) (h2 : valsO l2 = some ys) (hk : lookE E t = some ks) (hf1 : fitL ks xs = true) (hf2 : fitL ks ys = true)
    (hb : eqR op (veqL xs ys) = some (r, True)) (hd : dOk C d = true) (hr' : r = r')
    (hr : RG P C ops draw Q s0 (⟨fpOf ops ⟨d, .binOp op t x y t2, ty, pos, af, g⟩ [], d, ⟨some r', [], 0⟩, n⟩ :: tr) ⟨putd d (some r') e, h, n⟩) : RG P C ops draw Q s0 tr ⟨e, h, n⟩ := by
  subst hr'
  refine RG.yld ho hg (fun ev hev f X w ρ hρ => ?_) hd rfl hr
  have e1 := hρ x _ ((hev x (by simp [Op.operands])).trans hx)
  have e2 := hρ y _ ((hev y (by simp [Op.operands])).trans hy)
  simp only [V] at e1 e2
  obtain ⟨vs, e1, e3⟩ := e1
  obtain ⟨us, e2, e4⟩ := e2
  obtain rfl := valsO_spec h1 e3
  obtain rfl := valsO_spec h2 e4
  obtain ⟨hgd, heq⟩ := hE t ks hk
  have he := heq vs us w hf1 hf2
  obtain ⟨v, h5, h6⟩ := eqR_run (P := P) (f := f) (X := X) (w := w) (op := op) (t := t) (x := .agg vs.toArray) (y := .agg us.toArray) (b := veqL vs us) (r := r) (s := True) he (by rfl) (by rfl) hb
  refine Yld.mk ?_ h6
  refine run_v ?_
  rw [e1, e2]
  simp only [Sem.run_bind, run_eqGuard_agg w op t x y vs.toArray us.toArray hgd, Result.andThen, h5]
/-- A call of a function that has no body, and yields a value. -/
theorem RG.ext {d : Option Tmp} {gid : FuncId} {xs : Array Operand} {ts : Array TypeId} {ty : TypeId} {pos : String} {af : Array Edge} {g : Option (Nat × Bool)} {as : List A} {us : List Value} {v : Value} {r r' : A}
    (ho : ops[tr.length]? = some ⟨d, .call ⟨.value (.func gid), xs, ts⟩, ty, pos, af, g⟩) (hg : wantA ops g e = some true) (hx : mapEv (evE e) xs.toList = some as) (hu : valsO as = some us)
    (hrun : ∀ w, (callFunc gid us.toArray).run P w = .ok (.value v) w) (hv : ∀ f X w, V f X w r v) (hd : dOk C d = true) (hr' : r = r')
    (hr : RG P C ops draw Q s0 (⟨fpOf ops ⟨d, .call ⟨.value (.func gid), xs, ts⟩, ty, pos, af, g⟩ [], d, ⟨some r', [], 0⟩, n⟩ :: tr) ⟨putd d (some r') e, h, n⟩) : RG P C ops draw Q s0 tr ⟨e, h, n⟩ := by
  subst hr'
  refine RG.yld ho hg (fun ev hev f X w ρ hρ => ?_) hd rfl hr
  have e1 : mapEv ev xs.toList = some as := by
    rw [mapEv_congr (ev := ev) (ev' := evE e) xs.toList (fun x hx => hev x (by simp [Op.operands, Call.operands] at hx ⊢; exact .inr hx))]; exact hx
  have e2 := valsO_spec hu (mapEv_spec (f := f) (X := X) (w := w) (ρ := ρ) hρ e1)
  have e3 := hρ (.func gid) (.fn gid [] []) (by rw [hev (.func gid) (by simp [Op.operands, Call.operands])]; rfl)
  simp only [V] at e3
  obtain ⟨fs, cs, k1, k2, k3⟩ := e3
  have k2' := k2.unnil
  have k3' := k3.unnil
  subst k2' k3'
  have e4 : (([] : List Value).toArray ++ xs.map ρ ++ ([] : List Value).toArray) = us.toArray := by
    rw [← e2]; apply Array.ext'; simp
  refine Yld.mk (v := v) ?_ (hv f X w)
  simp only [execOp, resolve, k1, Deferred.ofValue, Sem.run_bind, Sem.run_pure, Result.andThen, invoke]
  rw [e4]
  exact hrun w
end
end Go.Abs
namespace Go.Abs
open Go.RowKit
mutual
theorem A.renP_lt {τ : RenP} {m : Nat} (hτ : ∀ k p, k < m → τ k p = (k, p)) : ∀ (a : A), a.lt m = true → a.renP τ = a
  | .any, _ => rfl
  | .val _, _ => rfl
  | .ro _ _, _ => rfl
  | .rp _, _ => rfl
  | .sl k p _ _ _, h => by simp only [A.lt] at h; simp only [A.renP, hτ k p (Nat.le_of_ble_eq_true h)]
  | .ptr k p _, h => by simp only [A.lt] at h; simp only [A.renP, hτ k p (Nat.le_of_ble_eq_true h)]
  | .agg l, h => by simp only [A.lt] at h; simp only [A.renP]; rw [renPL_lt hτ l h]
  | .tup l, h => by simp only [A.lt] at h; simp only [A.renP]; rw [renPL_lt hτ l h]
  | .fn g a b, h => by simp only [A.lt, Bool.and_eq_true] at h; simp only [A.renP]; rw [renPL_lt hτ a h.1, renPL_lt hτ b h.2]
  | .ifc t a, h => by simp only [A.lt] at h; simp only [A.renP]; rw [A.renP_lt hτ a h]
theorem renPL_lt {τ : RenP} {m : Nat} (hτ : ∀ k p, k < m → τ k p = (k, p)) : ∀ (l : List A), ltL m l = true → renPL τ l = l
  | [], _ => rfl
  | x :: xs, h => by simp only [ltL, Bool.and_eq_true] at h; simp only [renPL]; rw [A.renP_lt hτ x h.1, renPL_lt hτ xs h.2]
end
/-- What is told names only objects below m. -/
def LtE (m : Nat) (e : Nat → Option A) : Prop := ∀ i v, e i = some v → v.lt m = true
def LtH (m : Nat) (h : Nat → Reg) : Prop := ∀ k p c, (h k).get p = some c → k < m ∧ ltL m c = true
theorem LtE.no (m : Nat) : LtE m noE := fun i v h => by cases h
theorem LtE.put {m d : Nat} {v : A} {e : Nat → Option A} (hv : v.lt m = true) (he : LtE m e) : LtE m (put d (some v) e) := fun i u hu => by
  by_cases hi : i = d
  · subst hi; rw [put_same] at hu; cases hu; exact hv
  · rw [put_ne _ _ hi] at hu; exact he i u hu
theorem LtH.no (m : Nat) : LtH m noH := fun k p c h => by simp [noH, Reg.get] at h
theorem LtH.put {m k : Nat} {c : List A} {h : Nat → Reg} (hk : Nat.blt k m = true) (hc : ltL m c = true) (hh : LtH m h) : LtH m (hput k (.one c) h) := fun j p c' hj => by
  by_cases e : j = k
  · subst e
    rw [hput_same] at hj
    cases p with
    | nil => simp only [Reg.get, Option.some.injEq] at hj; subst hj; exact ⟨Nat.le_of_ble_eq_true hk, hc⟩
    | cons _ _ => simp [Reg.get] at hj
  · rw [hput_ne _ _ e] at hj; exact hh j p c' hj
/-- A state that says less, and has fewer objects. -/
theorem Sub.down {C : Ctx} {s t : St} (he : SubE t.e s.e) (hh : SubH t.h s.h) (hE : LtE t.n t.e) (hH : LtH t.n t.h) (hq : Nat.ble C.q t.n = true) : Sub C s t := by
  have hτ : ∀ (k : Nat) (p : List Nat), k < t.n → (if k < t.n then (k, p) else (k + s.n, p)) = (k, p) := fun k p hk => by rw [if_pos hk]
  refine Sub.ren (fun k p => if k < t.n then (k, p) else (k + s.n, p)) (fun i v hv => ?_) (fun k p c hc => ?_) (fun k p k' p' h1 h2 e => ?_) (fun k p hk => ?_) (fun k p hk => ?_)
  · rw [A.renP_lt hτ v (hE i v hv)]; exact he i v hv
  · obtain ⟨h1, h2⟩ := hH k p c hc
    rw [renPL_lt hτ c h2]
    rw [if_pos h1]; exact hh k p c hc
  · obtain ⟨c, hc⟩ := Option.ne_none_iff_exists'.1 h1
    obtain ⟨c', hc'⟩ := Option.ne_none_iff_exists'.1 h2
    rw [if_pos (hH k p c hc).1, if_pos (hH k' p' c' hc').1] at e
    simpa using e
  · rw [if_neg (by omega)]; exact Nat.le_add_left _ _
  · exact hτ k p (Nat.lt_of_lt_of_le hk (Nat.le_of_ble_eq_true hq))
end Go.Abs
namespace Go.Abs
open Go.RowKit
section
variable {P : Program} {I : GI} {g : FuncId} {args : List A} {r : A}
theorem FC_of_calls (henter : ∀ (aa : Array Value) (w : World), (callFunc g aa).run P w = .ok (.enter g aa) w)
    (h : ∀ (w : World) (vs : List Value), I.p w → VL noPl (fun _ => False) w args vs → Calls P g vs.toArray w fun e w' => ∃ v, e = .returned v ∧ (∀ Y : Nat → Prop, (∀ b, Y b → b < w.heap.size) → V noPl Y w' r v) ∧ Below w.heap.size w w') : FC P I g args [] r [] NoP := by
  refine ⟨henter, Nat.le_refl _, ?_⟩
  intro f0 Y w vs hgi hlow hfr hY hHR hInj hargs
  have h0 : f0 = noPl := by funext k p; exact hfr k (Nat.zero_le _) p
  subst h0
  refine (h w vs hgi (hargs.mono (Ext.refl _) (fun b _ hb => hb.elim) (Kp.refl (fun _ => False) w) (fun _ _ h => h.elim))).mono ?_
  rintro e w' ⟨v, rfl, hv, hb⟩
  exact ⟨noPl, Ext.refl _, fun _ _ _ => rfl, (hv Y (fun b hb => (hY b hb).1)).mono (Ext.refl _) (fun b _ hb => hb.elim (fun hl => absurd hl (live_none b)) id) (Kp.refl (fun _ => False) w') (fun _ _ h => h.elim), fun k p c h => by simp [regs, Reg.get] at h, fun k p k' p' b h => by simp [regs, Reg.get] at h,
    (Kp.of_below hb).mono (fun _ _ h => h.elim), fun b hb => absurd hb (live_none b)⟩
theorem enter_of {fn : Func} (hfn : P.funcs[g]? = some fn) (hname : (fn.name == "runtime.NumGoroutine") = false) (hb : fn.body.isNone = false) (aa : Array Value) (w : World) : (callFunc g aa).run P w = .ok (.enter g aa) w := by
  have hname' : ¬ fn.name = "runtime.NumGoroutine" := by simpa using hname
  have hb' : ¬ fn.body = none := by intro h; rw [h] at hb; cases hb
  simp [callFunc, hfn, hname', hb']
end
theorem VL1 {f : Pl} {X : Nat → Prop} {w : World} {a : A} {vs : List Value} (h : VL f X w [a] vs) : ∃ v, vs = [v] ∧ V f X w a v := by
  obtain ⟨v, t, rfl, h1, h2⟩ := h.uncons
  rw [h2.unnil]; exact ⟨v, rfl, h1⟩
theorem VL2 {f : Pl} {X : Nat → Prop} {w : World} {a b : A} {vs : List Value} (h : VL f X w [a, b] vs) : ∃ v u, vs = [v, u] ∧ V f X w a v ∧ V f X w b u := by
  obtain ⟨v, t, rfl, h1, h2⟩ := h.uncons
  obtain ⟨u, rfl, h3⟩ := VL1 h2
  exact ⟨v, u, rfl, h1, h3⟩
/-- Values out of lists of numbers. -/
theorem FC.wk {P : Program} {I : GI} {g : FuncId} {args args' : List A} {pre post : List Reg} {r : A} {Pp : List PanicEntry → Prop} (hc : FC P I g args pre r post Pp) (h : WkL args' args) : FC P I g args' pre r post Pp :=
  ⟨hc.enter, hc.len, fun f0 Y w vs k1 k2 h1 h2 h3 h4 h5 => hc.call f0 Y w vs k1 k2 h1 h2 h3 h4 (h.VL h5)⟩
theorem FC.wkR {P : Program} {I : GI} {g : FuncId} {args : List A} {pre post : List Reg} {r r' : A} {Pp : List PanicEntry → Prop} (hc : FC P I g args pre r post Pp) (h : Wk r r') : FC P I g args pre r' post Pp :=
  ⟨hc.enter, hc.len, fun f0 Y w vs k1 k2 h1 h2 h3 h4 h5 => (hc.call f0 Y w vs k1 k2 h1 h2 h3 h4 h5).mono (fun e w' he => by
    cases e with
    | outgrown => exact he
    | panicked ch => exact he
    | returned v => obtain ⟨f1, a1, a2, a3, a4⟩ := he; exact ⟨f1, a1, a2, h _ _ _ _ a3, a4⟩)⟩
theorem Wk.agg {l l' : List A} (h : WkL l l') : Wk (.agg l) (.agg l') := fun f X w v hv => by
  simp only [V] at hv ⊢
  obtain ⟨vs, rfl, h1⟩ := hv
  exact ⟨vs, rfl, h.VL h1⟩
theorem AW.seqB {P : Program} {C : Ctx} {Q : AQ} {s : St} {x y : Code} (d : Nat) (G : Bool → Prop) (hx : AW P C x (Q.then (fun t => ∃ b, G b ∧ Sub C t ⟨put d (some (.val (.bool b))) s.e, s.h, s.n⟩)) s)
    (hy : ∀ b, G b → AW P C y Q ⟨put d (some (.val (.bool b))) s.e, s.h, s.n⟩) : AW P C (.seq x y) Q s := AW.seqJ (fun b => ⟨put d (some (.val (.bool b))) s.e, s.h, s.n⟩) G hx hy
theorem SubE.over {d : Nat} {v : Option A} {e e' : Nat → Option A} (h1 : e d = none) (h2 : SubE e e') : SubE e (Go.Abs.put d v e') := by
  intro i u hi
  unfold Go.Abs.put
  cases hb : Nat.beq i d with
  | true => rw [Nat.eq_of_beq_eq_true hb, h1] at hi; cases hi
  | false => exact h2 i u hi
theorem SubH.same {k : Nat} {r : Reg} {h h' : Nat → Reg} (h1 : h k = r) (h2 : SubH h h') : SubH h (hput k r h') := by
  intro i p c hi
  by_cases hk : i = k
  · subst hk; rw [hput_same, ← h1]; exact hi
  · rw [hput_ne _ _ hk]; exact h2 i p c hi
/-- A package variable that holds these cells. -/
def GI.var (P : Program) (name : String) (g : Nat) (hg : P.globalNamed name = some g) (cs : Array Value) : GI where
  G := g + 1
  p := fun w => w.var? P name = some cs
  st := fun w w' h hp => by
    unfold World.var? at hp ⊢
    rw [hg] at hp ⊢
    simp only [Option.bind_some] at hp ⊢
    rw [h g (Nat.lt_succ_self g)]; exact hp
  low := fun w hp => by
    unfold World.var? at hp
    rw [hg] at hp
    simp only [Option.bind_some] at hp
    split at hp
    · rename_i cs' a b hh
      exact (Array.getElem?_eq_some_iff.1 hh).1
    · cases hp
end Go.Abs
namespace Go.Abs
open Go.RowKit
section
variable {C : Ctx} {s : St} {fr : Nat → Prop} {f : Pl} {a : Act} {w : World}
end
/-- The numbers of a text's bytes, and the text of numbers. -/
def byt (s : ByteArray) : List Int := s.data.toList.map fun c => (c.toNat : Int)
def unb (xs : List Int) : ByteArray := ⟨(xs.map fun n => UInt8.ofNat n.toNat).toArray⟩
section
variable {P : Program} {L : List (Nat × TI)} {C : Ctx} {ops : Array Oper} {draw : Bool} {Q : AQ} {s0 : St} {tr : List TE} {e : Nat → Option A} {h : Nat → Reg} {n : Nat}
/-- What nothing is told as. -/
def A.no : A := .ro 9223372036854775808 []
theorem V.no {f : Pl} {X : Nat → Prop} {w : World} {v : Value} (h : V f X w A.no v) : False := by
  simp only [A.no, V] at h
  obtain ⟨_, cap, _, h1, h2, _⟩ := h
  have : maxLen = 9223372036854775807 := by decide
  omega
theorem AW.absurd {c : Code} {s : St} (d : Nat) (hd : s.e d = some A.no) : AW P C c Q s := fun f a w hr => (hr.e d _ hd).no.elim
end
/-- Of two facts on package variables, both. -/
def GI.and (a b : GI) : GI where
  G := max a.G b.G
  p := fun w => a.p w ∧ b.p w
  st := fun w w' h hp => ⟨a.st w w' (fun i hi => h i (by omega)) hp.1, b.st w w' (fun i hi => h i (by omega)) hp.2⟩
  low := fun w hp => by have := a.low w hp.1; have := b.low w hp.2; omega
/-- A package variable that holds a value of an interface. -/
def GI.ifc (P : Program) (name : String) (g : Nat) (hg : P.globalNamed name = some g) : GI where
  G := g + 1
  p := fun w => ∃ tp v, w.var? P name = some #[.iface tp v]
  st := fun w w' h hp => by
    obtain ⟨tp, v, hp⟩ := hp
    refine ⟨tp, v, ?_⟩
    unfold World.var? at hp ⊢
    rw [hg] at hp ⊢
    simp only [Option.bind_some] at hp ⊢
    rw [h g (Nat.lt_succ_self g)]; exact hp
  low := fun w hp => by
    obtain ⟨tp, v, hp⟩ := hp
    unfold World.var? at hp
    rw [hg] at hp
    simp only [Option.bind_some] at hp
    split at hp
    · rename_i cs' a b hh
      exact (Array.getElem?_eq_some_iff.1 hh).1
    · cases hp
/-- A contract where more is known of package variables. -/
theorem FC.gi {P : Program} {I J : GI} {g : FuncId} {args : List A} {pre post : List Reg} {r : A} {Pp : List PanicEntry → Prop} (hp : ∀ w, J.p w → I.p w) (hG : I.G ≤ J.G) (hc : FC P I g args pre r post Pp) : FC P J g args pre r post Pp :=
  ⟨hc.enter, hc.len, fun f0 Y w vs k1 k2 h1 h2 h3 h4 h5 => hc.call f0 Y w vs (hp w k1) (fun b hb => Nat.le_trans hG (k2 b hb)) h1 h2 h3 h4 h5⟩
end Go.Abs
namespace Go.Abs
open Go.RowKit
/-- A nil slice is an own slice of nothing. -/
theorem Sub.nil {C : Ctx} {s : St} (d st : Nat) (hd : s.e d = some (.val (.slice none 0 0))) : Sub C s ⟨put d (some (.sl s.n [] st 0 0)) s.e, hput s.n (.one []) s.h, s.n + 1⟩ := by
  intro f a w hr
  obtain ⟨r1, r2⟩ := hr.newNil (n0 := s.n) (Nat.le_refl _)
  refine ⟨_, { r1 with e := fun i v hv => ?_, fr := fun k hk => r1.fr k ⟨Nat.le_of_succ_le hk, by have : s.n + 1 ≤ k := hk; omega⟩ }⟩
  by_cases hi : i = d
  · subst hi
    dsimp only at hv
    rw [put_same] at hv
    cases hv
    have := (hr.e i _ hd).val
    rw [this]
    simp only [V]
    exact .inl ⟨by simp [newPl], by simp⟩
  · dsimp only at hv
    rw [put_ne _ _ hi] at hv
    exact r1.e i v hv
/-- Own numbers that are only read from now on. -/
theorem frzI {C : Ctx} {s : St} {ks : List Nat} {k n : Nat} {kk : IntKind} {xs : List Int} (hk : s.h k = .one (ints kk xs)) (hks : k ∈ ks) (hn : n = xs.length) : Frz C s ks (.sl k [] 1 0 n) (.ro xs.length (ints kk xs)) := by
  subst hn
  refine Frz.sl (c := ints kk xs) (by rw [hk]; rfl) hks ?_ (ints_free _ _ _)
  rw [List.drop_zero, Nat.mul_one, List.take_of_length_le (by rw [ints_length]; exact Nat.le_refl _)]
/-- Own cells that are only read from now on. -/
theorem frzC {C : Ctx} {s : St} {ks : List Nat} {k n st : Nat} {c : List A} (hk : s.h k = .one c) (hks : k ∈ ks) (hn : c.length = n * st) (hf : ltL 0 c = true) : Frz C s ks (.sl k [] st 0 n) (.ro n c) := by
  refine Frz.sl (c := c) (by rw [hk]; rfl) hks ?_ hf
  rw [List.drop_zero, List.take_of_length_le (by omega)]
/-- Cells of data, one after the other. -/
def flC {α : Type} (cl : α → List A) : List α → List A
  | [] => []
  | x :: l => cl x ++ flC cl l
theorem flC_append {α : Type} (cl : α → List A) : ∀ l m : List α, flC cl (l ++ m) = flC cl l ++ flC cl m
  | [], m => rfl
  | x :: l, m => by rw [List.cons_append, flC, flC, flC_append cl l m, List.append_assoc]
theorem flC_len {α : Type} {cl : α → List A} {st : Nat} (hst : ∀ x, (cl x).length = st) : ∀ l : List α, (flC cl l).length = l.length * st
  | [] => by simp [flC]
  | x :: l => by rw [flC, List.length_append, hst, flC_len hst l, List.length_cons, Nat.succ_mul]; omega
theorem dropO_comp : ∀ (a b : List A) (n m : Nat), a.length = n → dropO (n + m) (a ++ b) = dropO m b
  | [], b, n, m, h => by subst h; simp
  | x :: a, b, n, m, h => by
    subst h
    rw [List.length_cons, Nat.succ_add]
    exact dropO_comp a b a.length m rfl
theorem flC_at {α : Type} {cl : α → List A} {st : Nat} (hst : ∀ x, (cl x).length = st) : ∀ (l : List α) (i : Nat) (x : α), l[i]? = some x → dropO (i * st) (flC cl l) = some (cl x ++ flC cl (l.drop (i + 1)))
  | [], i, x, h => by simp at h
  | y :: l, 0, x, h => by
    simp only [List.getElem?_cons_zero, Option.some.injEq] at h
    subst h
    rw [Nat.zero_mul]; rfl
  | y :: l, i + 1, x, h => by
    rw [Nat.succ_mul, Nat.add_comm, flC, dropO_comp _ _ _ _ (hst y)]
    exact flC_at hst l i x (by simpa using h)
theorem flC_free {α : Type} {cl : α → List A} {m : Nat} (h : ∀ x, ltL m (cl x) = true) : ∀ l : List α, ltL m (flC cl l) = true
  | [] => rfl
  | x :: l => ltL_append (h x) (flC_free h l)
theorem flC_cell {α : Type} {cl : α → List A} (h : ∀ x, (cl x).all A.cell = true) : ∀ l : List α, (flC cl l).all A.cell = true
  | [] => rfl
  | x :: l => by rw [flC, List.all_append, h x, flC_cell h l]; rfl
section
variable {C : Ctx} {s t : St}
def SubEr (σ : Nat → Nat) (e e' : Nat → Option A) : Prop := ∀ i v, e i = some v → e' i = some (v.renP (fun k p => (σ k, p)))
def SubHr (σ : Nat → Nat) (h h' : Nat → Reg) : Prop := ∀ k p c, (h k).get p = some c → (h' (σ k)).get p = some (renPL (fun k p => (σ k, p)) c)
theorem SubEr.no (σ : Nat → Nat) (e' : Nat → Option A) : SubEr σ noE e' := fun i v h => by cases h
theorem SubEr.put {σ : Nat → Nat} {d : Nat} {v : A} {e e' : Nat → Option A} (h1 : e' d = some (v.renP (fun k p => (σ k, p)))) (h2 : SubEr σ e e') : SubEr σ (Go.Abs.put d (some v) e) e' := by
  intro i u hu
  by_cases hi : i = d
  · subst hi; rw [put_same] at hu; cases hu; exact h1
  · rw [put_ne _ _ hi] at hu; exact h2 i u hu
theorem SubHr.no (σ : Nat → Nat) (h' : Nat → Reg) : SubHr σ noH h' := fun k p c h => by simp [noH, Reg.get] at h
theorem SubHr.put {σ : Nat → Nat} {k : Nat} {c : List A} {h h' : Nat → Reg} (h1 : h' (σ k) = .one c) (hc : ltL 0 c = true) (h2 : SubHr σ h h') : SubHr σ (hput k (.one c) h) h' := by
  intro j p c' hj
  by_cases hk : j = k
  · subst hk
    rw [hput_same] at hj
    rw [h1]
    have e : c' = c := by
      cases p with
      | nil => simpa [Reg.get] using hj.symm
      | cons _ _ => simp [Reg.get] at hj
    rw [e] at hj ⊢
    rw [hj, renPL_free _ c hc]
  · rw [hput_ne _ _ hk] at hj; exact h2 j p c' hj
/-- Under other numbers. -/
theorem Sub.renB (σ : Nat → Nat) (he : SubEr σ t.e s.e) (hh : SubHr σ t.h s.h) (hinj : ∀ k k', σ k = σ k' → k = k') (hfr : ∀ k, t.n ≤ k → s.n ≤ σ k) (hq : ∀ k, k < C.q → σ k = k) : Sub C s t :=
  Sub.ren (fun k p => (σ k, p)) he hh (fun k p k' p' _ _ h => ⟨hinj k k' (congrArg Prod.fst h), congrArg Prod.snd h⟩) (fun k _ h => hfr k h) (fun k p h => by rw [hq k h])
end
section
variable {P : Program} {L : List (Nat × TI)} {C : Ctx} {ops : Array Oper} {draw : Bool} {Q : AQ} {s0 : St} {tr : List TE} {e : Nat → Option A} {h : Nat → Reg} {n : Nat}
end
section
/-- The objects of ks are only read from now on. -/
theorem Rel.frz {C : Ctx} {s : St} {fr : Nat → Prop} {f : Pl} {act : Act} {w : World} (hr : Rel C s fr f act w) (ks : List Nat) : Rel C ⟨s.e, dropAll ks s.h, s.n⟩ fr f act w := by
  refine { N := hr.N, defers := hr.defers, e := fun i x hx => ?_, h := fun k p c hc => ?_, inj := ?_, kp := hr.kp, new := fun b hb => ?_, y := hr.y, fr := hr.fr, ext := hr.ext, dom := hr.dom }
  · exact (hr.e i x hx).mono (Ext.refl f) (fun b _ hb => X_drop b hb) (Kp.refl (fun _ => False) w) (fun _ _ h => h.elim)
  · obtain ⟨h1, _⟩ := dropAll_get hc
    rcases hr.h k p c h1 with h2 | ⟨b, arr, el, h2, h3, h4, h5⟩
    · exact .inl h2
    · exact .inr ⟨b, arr, el, h2, h3, h4, h5.mono (Ext.refl f) (fun b _ hb => X_drop b hb) (Kp.refl (fun _ => False) w) (fun _ _ h => h.elim)⟩
  · intro k p k' p' b h1 h2 h3 h4
    obtain ⟨c, hc⟩ := Option.ne_none_iff_exists'.1 h1
    obtain ⟨c', hc'⟩ := Option.ne_none_iff_exists'.1 h2
    exact hr.inj k p k' p' b (by rw [(dropAll_get hc).1]; simp) (by rw [(dropAll_get hc').1]; simp) h3 h4
  · obtain ⟨k, p, _, h1, h2⟩ := dropAll_live hb
    exact hr.new b ⟨k, p, h1, h2⟩
/-- Given away: where the objects of fs are only read from now on, a is told as a'. -/
def FView (h : Nat → Reg) (fs : List Nat) (a a' : A) : Prop :=
  ∀ (C : Ctx) (s : St) (fr : Nat → Prop) (f : Pl) (act : Act) (w : World), (∀ k ∈ fs, s.h k = h k) → Rel C s fr f act w → ∀ v, V f (C.X s.h f) w a v → V f (C.X (dropAll fs s.h) f) w a' v
inductive FViews (h : Nat → Reg) (fs : List Nat) : List A → List A → Prop
  | nil : FViews h fs [] []
  | cons {a a' : A} {l l' : List A} : FView h fs a a' → FViews h fs l l' → FViews h fs (a :: l) (a' :: l')
theorem FView.refl (h : Nat → Reg) (fs : List Nat) (a : A) : FView h fs a a :=
  fun C s fr f act w _ hr v hv => hv.mono (Ext.refl f) (fun b _ hb => X_drop b hb) (Kp.refl (fun _ => False) w) (fun _ _ h => h.elim)
theorem FViews.VL {h : Nat → Reg} {fs : List Nat} {C : Ctx} {s : St} {fr : Nat → Prop} {f : Pl} {act : Act} {w : World} (hh : ∀ k ∈ fs, s.h k = h k) (hr : Rel C s fr f act w) : ∀ {l l' : List A} {vs : List Value}, FViews h fs l l' → VL f (C.X s.h f) w l vs → Go.Abs.VL f (C.X (dropAll fs s.h) f) w l' vs
  | _, _, vs, .nil, hv => by rw [hv.unnil]; exact Go.Abs.VL.nil
  | _, _, vs, .cons h1 h2, hv => by obtain ⟨v, t, rfl, h3, h4⟩ := hv.uncons; exact Go.Abs.VL.cons (h1 C s fr f act w hh hr v h3) (h2.VL hh hr h4)
theorem FViews.reflL (h : Nat → Reg) (fs : List Nat) : ∀ l : List A, FViews h fs l l
  | [] => .nil
  | x :: l => .cons (FView.refl h fs x) (FViews.reflL h fs l)
theorem FView.sl {h : Nat → Reg} {fs : List Nat} {k st off n n' : Nat} {p : List Nat} {c l l' : List A} (hk : (h k).get p = some c) (hks : k ∈ fs) (hl : (c.drop off).take (n * st) = l) (hv : FViews h fs l l') (hfree : ltL 0 l' = true) (hn : n = n') : FView h fs (.sl k p st off n) (.ro n' l') := by
  subst hn
  intro C s fr f act w hh hr v hv'
  subst hl
  have hk' : (s.h k).get p = some c := by rw [hh k hks]; exact hk
  simp only [V] at hv' ⊢
  rcases hv' with ⟨h1, rfl, rfl, rfl⟩ | ⟨b, cap, h1, rfl, h3, h4, arr0, el0, z0, h5, h6⟩
  · refine ⟨none, 0, rfl, Nat.le_refl _, Nat.zero_le _, fun _ => ⟨rfl, rfl, ?_⟩, fun q hq => by cases hq⟩
    simp only [Nat.zero_mul, List.take_zero] at hv
    cases hv; rfl
  · obtain ⟨arr, el, g1, g2, g3⟩ := hr.cells hk' h1
    have hlive : Live s.h f b := ⟨k, p, by rw [hk']; simp, h1⟩
    refine ⟨_, cap, rfl, h3, h4, (fun hq => by cases hq), fun q hq => ?_⟩
    simp only [Option.some.injEq] at hq
    subst hq
    refine .inr ⟨rfl, ?_, (Array.getElem?_eq_some_iff.1 g1).1, ((arr.toList.take c.length).drop off).take (n * st), ?_, ?_⟩
    · rintro (hb | hb)
      · obtain ⟨k', p', e1, e2, e3⟩ := dropAll_live hb
        have := hr.inj k' p' k p b e2 (by rw [hk']; simp) e3 h1
        exact e1 (this.1 ▸ hks)
      · have e1 := hr.y b hb
        rcases hr.new b hlive with h | h
        · omega
        · exact e1.2 h
    · exact VL.toNo _ hfree _ (hv.VL hh hr ((g3.drop off).take (n * st)))
    · intro j u hj
      rw [List.getElem?_take] at hj
      split at hj
      · rw [List.getElem?_drop, List.getElem?_take] at hj
        split at hj
        · simp only [World.cell?, g1]
          simpa using hj
        · cases hj
      · cases hj
theorem dropAll_congr {h h' : Nat → Reg} {k : Nat} (e : h' k = h k) : ∀ fs : List Nat, dropAll fs h' k = dropAll fs h k
  | [] => e
  | j :: fs => by
    simp only [dropAll]
    by_cases hk : k = j
    · subst hk; rw [hput_same, hput_same]
    · rw [hput_ne _ _ hk, hput_ne _ _ hk]; exact dropAll_congr e fs
theorem puts_app (h : Nat → Reg) : ∀ (es : List (Nat × Reg)) (fs : List Nat), puts (es ++ fs.map (fun k => (k, Reg.gone))) h = puts es (dropAll fs h)
  | [], [] => rfl
  | [], k :: fs => by
    have := puts_app h [] fs
    simp only [List.nil_append, puts] at this
    simp only [List.nil_append, List.map_cons, puts, dropAll, this]
  | (k, r) :: es, fs => by simp only [List.cons_append, puts, puts_app h es fs]
variable {P : Program} {L : List (Nat × TI)} {C : Ctx} {ops : Array Oper} {draw : Bool} {Q : AQ} {s0 : St} {tr : List TE} {e : Nat → Option A} {h : Nat → Reg} {n : Nat}
/-- A call by its contract, to which the objects of fs are given away. -/
theorem RG.callG {d : Option Tmp} {fo : Operand} {xs : Array Operand} {ts : Array TypeId} {ty : TypeId} {pos : String} {af : Array Edge} {g : Option (Nat × Bool)} {gid : FuncId} {first as caps args : List A} {pre post : List Reg} {r : A} {r' : A} {Pp : List PanicEntry → Prop}
    (ho : ops[tr.length]? = some ⟨d, .call ⟨.value fo, xs, ts⟩, ty, pos, af, g⟩) (hg : wantA ops g e = some true) (hf : evE e fo = some (.fn gid first caps)) (hx : mapEv (evE e) xs.toList = some as)
    (hc : FC P C.I gid args pre r post Pp) (ks fs : List Nat) (hks : ks.length = pre.length) (hok : ksOk n ks = true) {args' : List A} (hview : FViews h fs (first ++ as ++ caps) args') (hargs : args' = renL (sig ks n) args) (hlt : ltL pre.length args = true)
    {es es' : List (Nat × Reg)} (hpre : PreOk (sig ks n) (dropAll fs h) pre.length 0 pre) (heff : EffOk (sig ks n) 0 post es) (hes : es ++ fs.map (fun k => (k, Reg.gone)) = es') (hp : ∀ ch, Pp ch → Q.p ch) (hd : dOk C d = true) (hr' : r.ren (sig ks n) = r') {m1 : Nat} (hm1 : post.length - pre.length = m1)
    (hr : RG P C ops draw Q s0 (⟨fpOf ops ⟨d, .call ⟨.value fo, xs, ts⟩, ty, pos, af, g⟩ (ks ++ fs), d, ⟨some r', es', m1⟩, n⟩ :: tr) ⟨putd d (some r') e, puts es' h, n + m1⟩) : RG P C ops draw Q s0 tr ⟨e, h, n⟩ := by
  subst hr' hm1 hargs hes
  refine RG.step (s := ⟨e, h, n⟩) ⟨fpOf ops ⟨d, .call ⟨.value fo, xs, ts⟩, ty, pos, af, g⟩ (ks ++ fs), d, ⟨some (r.ren (sig ks n)), es ++ fs.map (fun k => (k, Reg.gone)), post.length - pre.length⟩, n⟩ rfl (wstep_of ho rfl hg ?_) hr
  intro s fr f a w ha hfr hrel next Q' hQ' hnext
  obtain ⟨_, h1, h2⟩ := ha.parts
  have hf' : evE s.e fo = some (.fn gid first caps) := (h1 fo (by simp [Op.operands, Call.operands])).trans hf
  have hx' : mapEv (evE s.e) xs.toList = some as := by
    rw [mapEv_congr (ev := evE s.e) (ev' := evE e) xs.toList (fun x hx => h1 x (by simp [Op.operands, Call.operands] at hx ⊢; exact .inr hx))]; exact hx
  have hpre' : PreOk (sig ks n) (dropAll fs s.h) pre.length 0 pre := hpre.congr (fun j hj => by rw [Nat.zero_add]; exact dropAll_congr (h2 _ (by simp [sig_lt (n := n) (show j < ks.length by omega)])) fs)
  have hvs := mapEv_spec (f := f) (X := C.X s.h f) (w := w) (ρ := a.eval) (fun x v hx => hrel.ev hx) hx'
  have hfv := hrel.ev hf'
  simp only [V] at hfv
  obtain ⟨fs', cs, k1, k2, k3⟩ := hfv
  have hall : VL f (C.X (dropAll fs s.h) f) w (renL (sig ks n) args) (fs' ++ xs.toList.map a.eval ++ cs) := hview.VL (fun k hk => h2 k (by simp [hk])) hrel ((k2.append hvs).append k3)
  have hcall := call_run (hrel.frz fs) hc hks hok (fun k hk1 hk2 => hfr k ⟨hk1, hk2⟩) hpre' heff hlt (Xa := C.X (dropAll fs s.h) f) (fun b hb => by obtain ⟨k, _, p, h1, h2⟩ := hb; exact .inl ⟨k, p, h1, h2⟩) (fun b hb => hb) (.inl (fun b hb => hb)) hall
  unfold Oper.wp
  have hrun : (execOp a.eval ⟨d, .call ⟨.value fo, xs, ts⟩, ty, pos, af, g⟩).run P w = .ok (.enter gid (fs' ++ xs.toList.map a.eval ++ cs).toArray) w := by
    have e1 : (fs'.toArray ++ xs.map a.eval ++ cs.toArray) = (fs' ++ xs.toList.map a.eval ++ cs).toArray := by
      apply Array.ext'; simp
    simp only [execOp, resolve, k1, Deferred.ofValue, Sem.run_bind, Sem.run_pure, Result.andThen, invoke]
    rw [hc.enter, e1]
  rw [hrun, Oper.upon_enter]
  refine hcall.mono ?_
  intro en w' hen
  cases en with
  | outgrown => exact hen.elim
  | panicked ch => exact hQ' ch a w' ⟨hp ch hen.1, hen.2, hrel.defers⟩
  | returned v =>
    obtain ⟨f', g1, g2⟩ := hen
    rw [← puts_app] at g1 g2
    exact hnext _ _ f' { g1.put hd (o := some (r.ren (sig ks n))) (v := v) (fun y hy => by simp only [Option.some.injEq] at hy; subst hy; exact g2) with fr := g1.fr }
end
section
variable {P : Program} {L : List (Nat × TI)} {C : Ctx} {ops : Array Oper} {draw : Bool} {Q : AQ} {s0 : St} {tr : List TE} {e : Nat → Option A} {h : Nat → Reg} {n : Nat}
end
end Go.Abs
