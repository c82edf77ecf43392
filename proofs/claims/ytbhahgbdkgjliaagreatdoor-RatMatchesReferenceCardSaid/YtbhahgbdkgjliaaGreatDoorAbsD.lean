/- How data that came in is opened, whatever its type: numbers, truths, texts, slices, arrays and structs of such. No conditions. -/
import Derived.Test.YtbhahgbdkgjliaaGreatDoorAbsC
import Derived.WalkKit
import Derived.OpenShut
import Derived.ChangeArms
import Derived.DataReads
import Derived.WideShapes
import Derived.DataElems
import Derived.Laws.StructEq
import Derived.Laws.Bits64
import Derived.Laws.BytesString
import Derived.Lib.ConvBytes
import Derived.Lib.AtoiErrMem
import Derived.Defers
set_option linter.unusedVariables false
set_option linter.unusedSimpArgs false
namespace Go.Abs
open Go.RowKit

/-- Data: what a value of such a type tells. -/
inductive Dd where
  | int (k : IntKind) (n : Int)
  | bool (b : Bool)
  | str (s : ByteArray)
  | sl (l : List Dd)
  | agg (l : List Dd)
mutual
def Dd.cells : Dd → List A
  | .int k n => [.val (.int k n)]
  | .bool b => [.val (.bool b)]
  | .str s => [.val (.string s)]
  | .sl l => [.ro l.length (Dd.cellsL l)]
  | .agg l => Dd.cellsL l
def Dd.cellsL : List Dd → List A
  | [] => []
  | d :: l => d.cells ++ Dd.cellsL l
end
/-- The types that data have. -/
inductive Dd.Ty (P : Program) : TypeId → Dd → Prop
  | int {t : TypeId} {k : IntKind} {n : Int} : P.underlying t = some (.int k) → (Lit.int k n).wf = true → Dd.Ty P t (.int k n)
  | bool {t : TypeId} {b : Bool} : P.underlying t = some .bool → Dd.Ty P t (.bool b)
  | str {t : TypeId} {s : ByteArray} : P.underlying t = some .string → s.size ≤ maxLen → Dd.Ty P t (.str s)
  | sl {t e : TypeId} {l : List Dd} : P.underlying t = some (.slice e) → l.length ≤ maxLen → (∀ d, d ∈ l → Dd.Ty P e d) → Dd.Ty P t (.sl l)
  | arr {t e : TypeId} {n : Nat} {l : List Dd} : P.underlying t = some (.array n e) → l.length = n → (∀ d, d ∈ l → Dd.Ty P e d) → Dd.Ty P t (.agg l)
  | st {t : TypeId} {fs : Array Field} {l : List Dd} : P.underlying t = some (.struct fs) → l.length = fs.size → (∀ (i : Nat) (f : Field) (d : Dd), fs[i]? = some f → l[i]? = some d → Dd.Ty P f.type d) → Dd.Ty P t (.agg l)
def contig (P : Program) : List Field → Nat → Nat → Bool
  | [], o, n => o == n
  | f :: fs, o, n => f.offset == o && contig P fs (o + P.cellsOf f.type) n
/-- A closed set of types of data. -/
def dataTypes (P : Program) (ts : List TypeId) : Bool := ts.all fun t => match P.underlying t with
  | some (.int _) => true
  | some .bool => true
  | some .string => true
  | some (.slice e) => ts.contains e
  | some (.array n e) => ts.contains e && P.cellsOf t == n * P.cellsOf e
  | some (.struct fs) => fs.toList.all (fun f => ts.contains f.type) && contig P fs.toList 0 (P.cellsOf t)
  | _ => false
section
variable {H : Type} {enc : TypeId × Value → H} {P : Program} {W : World}
abbrev noX : Nat → Prop := fun _ => False
theorem cellsL_append (a b : List Dd) : Dd.cellsL (a ++ b) = Dd.cellsL a ++ Dd.cellsL b := by
  induction a with
  | nil => simp [Dd.cellsL]
  | cons x xs ih => simp [Dd.cellsL, ih]
theorem dd_parts {ps : List (List Value)} {ds : List Dd} (hl : ds.length = ps.length) (h : ∀ (i : Nat) (d : Dd) (c : List Value), ds[i]? = some d → ps[i]? = some c → VL noPl noX W d.cells c) : VL noPl noX W (Dd.cellsL ds) ps.flatten := by
  induction ds generalizing ps with
  | nil =>
    have : ps = [] := List.eq_nil_of_length_eq_zero (by simpa using hl.symm)
    subst this
    simp only [Dd.cellsL, List.flatten_nil]
    exact VL.nil
  | cons d ds ih =>
    cases ps with
    | nil => simp at hl
    | cons p ps =>
      simp only [Dd.cellsL, List.flatten_cons]
      refine (h 0 d p rfl rfl).append (ih (by simpa using hl) (fun i d c h1 h2 => h (i + 1) d c (by simpa using h1) (by simpa using h2)))
theorem contig_flat : ∀ {fs : List Field} {o n : Nat} {cs : List Value}, contig P fs o n = true → cs.length = n → (fs.map fun f => (cs.drop f.offset).take (P.cellsOf f.type)).flatten = cs.drop o
  | [], o, n, cs, h, hl => by
    simp only [contig, beq_iff_eq] at h
    rw [List.map_nil, List.flatten_nil, List.drop_eq_nil_of_le (by omega)]
  | f :: fs, o, n, cs, h, hl => by
    simp only [contig, Bool.and_eq_true, beq_iff_eq] at h
    rw [List.map_cons, List.flatten_cons, contig_flat h.2 hl, h.1, ← List.drop_drop, List.take_append_drop]
theorem split_flat {m : Nat} : ∀ {n : Nat} {cs : List Value}, cs.length = n * m → ((List.range n).map fun i => (cs.drop (i * m)).take m).flatten = cs
  | 0, cs, h => by
    have : cs = [] := List.eq_nil_of_length_eq_zero (by simpa using h)
    subst this; rfl
  | n + 1, cs, h => by
    have h' : cs.length = n * m + m := by rw [h, Nat.succ_mul]
    have e := split_flat (n := n) (m := m) (cs := cs.drop m) (by rw [List.length_drop]; omega)
    have hr : ∀ i, ((cs.drop m).drop (i * m)).take m = (cs.drop ((i + 1) * m)).take m := fun i => by rw [List.drop_drop, Nat.succ_mul, Nat.add_comm m]
    rw [List.range_succ_eq_map, List.map_cons, List.flatten_cons, List.map_map]
    simp only [Nat.zero_mul, List.drop_zero]
    rw [show ((fun i => (cs.drop (i * m)).take m) ∘ Nat.succ) = (fun i => ((cs.drop m).drop (i * m)).take m) from funext fun i => (hr i).symm, e, List.take_append_drop]
/-- Choice over a list. -/
theorem list_choice {α β : Type} {p : Nat → α → β → Prop} : ∀ (l : List α), (∀ i a, l[i]? = some a → ∃ b, p i a b) → ∃ r : List β, r.length = l.length ∧ ∀ i a b, l[i]? = some a → r[i]? = some b → p i a b
  | [], _ => ⟨[], rfl, fun i a b h => by simp at h⟩
  | a :: l, h => by
    obtain ⟨b, hb⟩ := h 0 a rfl
    obtain ⟨r, h1, h2⟩ := list_choice (p := fun i => p (i + 1)) l (fun i a hi => h (i + 1) a (by simpa using hi))
    refine ⟨b :: r, by simp [h1], fun i x y hx hy => ?_⟩
    cases i with
    | zero => simp at hx hy; subst hx hy; exact hb
    | succ i => exact h2 i x y (by simpa using hx) (by simpa using hy)
theorem trod_dd {ts : List TypeId} (hD : dataTypes P ts = true) : ∀ (fuel : Nat) (t : TypeId) (cs : List Value) (x : DataW H × List MemPlace), t ∈ ts → DataW.trod enc P W 0 (fun _ => true) true fuel t cs = some x → ∃ d, Dd.Ty P t d ∧ VL noPl noX W d.cells cs := by
  intro fuel
  induction fuel with
  | zero => intro t cs x _ h; simp [DataW.trod] at h
  | succ fuel ih =>
    intro t cs x ht h
    have hd := List.all_eq_true.1 hD t ht
    cases hu : P.underlying t with
    | none => rw [hu] at hd; cases hd
    | some u =>
      rw [hu] at hd
      cases u with
      | int k =>
        obtain ⟨n, rfl, _, h1⟩ := DataW.trod_int hu h
        exact ⟨.int k n, .int hu h1, .cons (by simp only [V]) .nil⟩
      | bool =>
        obtain ⟨b, rfl, _⟩ := DataW.trod_bool hu h
        exact ⟨.bool b, .bool hu, .cons (by simp only [V]) .nil⟩
      | string =>
        obtain ⟨s, rfl, _, h1⟩ := DataW.trod_string hu h
        exact ⟨.str s, .str hu h1, .cons (by simp only [V]) .nil⟩
      | slice e =>
        have he : e ∈ ts := by simpa using hd
        rcases DataW.trod_slice hu h with ⟨rfl, _⟩ | ⟨a, len, cap, elems, rest, n, hn, rfl, _, hb, hl, hc, hel, hi, _⟩
        · exact ⟨.sl [], .sl hu (Nat.zero_le _) (fun _ h => by cases h), .cons (Wk.nil _ _ _ _ (by simp only [V])) .nil⟩
        · obtain rfl : fuel = n := by omega
          have key : ∀ (i : Nat) (y : DataW H × List MemPlace), elems[i]? = some y → ∃ dc : Dd × List Value, Dd.Ty P e dc.1 ∧ VL noPl noX W dc.1.cells dc.2 ∧ W.cells? 0 (a.add (i * P.cellsOf e)) (P.cellsOf e) = some dc.2 := by
            intro i y hy
            have hil := (List.getElem?_eq_some_iff.1 hy).1
            have h1 := hi i (by omega)
            rw [hy] at h1
            obtain ⟨cs', h2, h3⟩ := Option.bind_eq_some_iff.1 h1
            obtain ⟨d, h4, h5⟩ := ih e cs' y he h3
            exact ⟨(d, cs'), h4, h5, h2⟩
          obtain ⟨r, hr1, hr2⟩ := list_choice elems key
          have hrl : r.length = len := by omega
          have get : ∀ i, i < len → ∃ dc, r[i]? = some dc ∧ Dd.Ty P e dc.1 ∧ VL noPl noX W dc.1.cells dc.2 ∧ W.cells? 0 (a.add (i * P.cellsOf e)) (P.cellsOf e) = some dc.2 := by
            intro i hi'
            have h1 : r[i]? = some (r[i]'(by omega)) := List.getElem?_eq_getElem (by omega)
            exact ⟨_, h1, hr2 i _ _ (List.getElem?_eq_getElem (by omega)) h1⟩
          refine ⟨.sl (r.map (·.1)), .sl hu (by rw [List.length_map]; omega) (fun d hd' => ?_), ?_⟩
          · obtain ⟨dc, h1, rfl⟩ := List.mem_map.1 hd'
            obtain ⟨i, hi1, rfl⟩ := List.mem_iff_getElem.1 h1
            obtain ⟨dc, h2, h3, _⟩ := get i (by omega)
            rw [List.getElem?_eq_getElem hi1] at h2
            cases h2; exact h3
          · have hall : VL noPl noX W (Dd.cellsL (r.map (·.1))) (r.map (·.2)).flatten := by
              refine dd_parts (by simp) (fun i d c h1 h2 => ?_)
              rw [List.getElem?_map] at h1 h2
              cases hri : r[i]? with
              | none => rw [hri] at h1; cases h1
              | some dc =>
                rw [hri] at h1 h2
                cases h1; cases h2
                have hil := (List.getElem?_eq_some_iff.1 hri).1
                obtain ⟨dc', h3, _, h4, _⟩ := get i (by omega)
                rw [hri] at h3; cases h3; exact h4
            have hcell : ∀ (j : Nat) (u : Value), (r.map (·.2)).flatten[j]? = some u → W.cell? (a.add j) = some u := by
              have : ∀ (l : List (Dd × List Value)) (o : Nat), (∀ i dc, l[i]? = some dc → W.cells? 0 (a.add (o + i * P.cellsOf e)) (P.cellsOf e) = some dc.2) → ∀ (j : Nat) (u : Value), (l.map (·.2)).flatten[j]? = some u → W.cell? (a.add (o + j)) = some u := by
                intro l
                induction l with
                | nil => intro o _ j u hj; simp at hj
                | cons dc l ih2 =>
                  intro o h1 j u hj
                  have h0 := h1 0 dc rfl
                  rw [Nat.zero_mul, Nat.add_zero] at h0
                  obtain ⟨_, hlen, hget⟩ := World.cells?_some h0
                  rw [List.map_cons, List.flatten_cons] at hj
                  by_cases hjl : j < dc.2.length
                  · rw [List.getElem?_append_left hjl] at hj
                    have := hget j (by omega)
                    rw [hj] at this
                    rw [show a.add (o + j) = (a.add o).add j from (Addr.add_add a o j).symm]; exact this
                  · rw [List.getElem?_append_right (by omega)] at hj
                    have := ih2 (o + P.cellsOf e) (fun i dc' hi' => by
                      have := h1 (i + 1) dc' (by simpa using hi')
                      rw [Nat.succ_mul, ← Nat.add_assoc, Nat.add_right_comm] at this
                      rw [Nat.add_right_comm]; rw [Nat.add_right_comm] at this; exact this) (j - dc.2.length) u hj
                    rw [show o + j = o + P.cellsOf e + (j - dc.2.length) by omega]; exact this
              intro j u hj
              have := this r 0 (fun i dc hi' => by
                have hil := (List.getElem?_eq_some_iff.1 hi').1
                obtain ⟨dc', h3, _, _, h4⟩ := get i (by omega)
                rw [hi'] at h3; cases h3
                rw [Nat.zero_add]; exact h4) j u hj
              rw [Nat.zero_add] at this; exact this
            refine .cons ?_ .nil
            unfold V
            refine ⟨some a, cap, by rw [List.length_map, hrl], by rw [List.length_map]; omega, hc, (fun h => by cases h), fun q hq => ?_⟩
            cases hq
            cases hvs : (r.map (·.2)).flatten with
            | nil =>
              left
              have := hall.length
              rw [hvs] at this
              exact List.eq_nil_of_length_eq_zero this.symm
            | cons u us =>
              right
              have h0 := hcell 0 u (by rw [hvs]; rfl)
              have hspot : a.spot = none ∧ a.block < W.heap.size := by
                unfold World.cell? at h0
                cases hb' : W.heap[(a.add 0).block]? with
                | none => rw [hb'] at h0; cases h0
                | some o =>
                  have hsz := (Array.getElem?_eq_some_iff.1 hb').1
                  rw [hb'] at h0
                  cases o with
                  | cells c e' z =>
                    simp only at h0
                    split at h0
                    · cases h0
                    · rename_i hs; exact ⟨by simpa [Addr.add] using hs, hsz⟩
                  | _ => cases h0
              refine ⟨hspot.1, id, hspot.2, (r.map (·.2)).flatten, hall, fun j u' hj => ?_⟩
              have := hcell j u' hj
              obtain ⟨b, o, sp⟩ := a
              obtain rfl : sp = none := hspot.1
              rw [← Go.WideShapes.add_plain]; exact this
      | array n e =>
        simp only [Bool.and_eq_true, beq_iff_eq] at hd
        have he : e ∈ ts := by simpa using hd.1
        obtain ⟨xs, m, hm, _, hl, hx, hi⟩ := DataW.trod_array hu h
        obtain rfl : fuel = m := by omega
        have key : ∀ (i : Nat) (k : Nat), (List.range n)[i]? = some k → ∃ d : Dd, Dd.Ty P e d ∧ VL noPl noX W d.cells ((cs.drop (k * P.cellsOf e)).take (P.cellsOf e)) := by
          intro i k hk
          have hkn : k < n := List.mem_range.1 (List.mem_of_getElem? hk)
          have h1 := hi k hkn
          rw [List.getElem?_eq_getElem (by omega)] at h1
          exact ih e _ _ he h1
        obtain ⟨r, hr1, hr2⟩ := list_choice (List.range n) key
        rw [List.length_range] at hr1
        refine ⟨.agg r, .arr hu hr1 (fun d hd' => ?_), ?_⟩
        · obtain ⟨i, hi1, rfl⟩ := List.mem_iff_getElem.1 hd'
          exact (hr2 i i _ (List.getElem?_range (by omega)) (List.getElem?_eq_getElem hi1)).1
        · have := dd_parts (W := W) (ds := r) (ps := (List.range n).map fun i => (cs.drop (i * P.cellsOf e)).take (P.cellsOf e)) (by simp [hr1]) (fun i d c h1 h2 => by
            rw [List.getElem?_map] at h2
            cases hri : (List.range n)[i]? with
            | none => rw [hri] at h2; cases h2
            | some k => rw [hri] at h2; cases h2; exact (hr2 i k d hri h1).2)
          rw [split_flat (by rw [hl, hd.2])] at this
          exact this
      | struct fs =>
        simp only [Bool.and_eq_true] at hd
        obtain ⟨xs, m, hm, _, hl, hx, hi⟩ := DataW.trod_struct hu h
        obtain rfl : fuel = m := by omega
        have key : ∀ (i : Nat) (f : Field), fs.toList[i]? = some f → ∃ d : Dd, Dd.Ty P f.type d ∧ VL noPl noX W d.cells ((cs.drop f.offset).take (P.cellsOf f.type)) := by
          intro i f hf
          have hf' : fs[i]? = some f := by simpa using hf
          have h1 := hi i f hf'
          have hlt := (Array.getElem?_eq_some_iff.1 hf').1
          rw [List.getElem?_eq_getElem (by omega)] at h1
          have hmem : f.type ∈ ts := by simpa using List.all_eq_true.1 hd.1 f (List.mem_of_getElem? hf)
          exact ih f.type _ _ hmem h1
        obtain ⟨r, hr1, hr2⟩ := list_choice fs.toList key
        refine ⟨.agg r, .st hu (by simpa using hr1) (fun i f d hf hd' => (hr2 i f d (by simpa using hf) hd').1), ?_⟩
        have := dd_parts (W := W) (ds := r) (ps := fs.toList.map fun f => (cs.drop f.offset).take (P.cellsOf f.type)) (by simp [hr1]) (fun i d c h1 h2 => by
          rw [List.getElem?_map] at h2
          cases hri : fs.toList[i]? with
          | none => rw [hri] at h2; cases h2
          | some f => rw [hri] at h2; cases h2; exact (hr2 i f d hri h1).2)
        rw [contig_flat hd.2 hl, List.drop_zero] at this
        exact this
      | _ => cases hd
end
end Go.Abs
namespace Go.Abs
open Go.RowKit
section
variable {H : Type} {enc : TypeId × Value → H} {P : Program} {W : World}
theorem open_dd {ts : List TypeId} {t : TypeId} {v : Value} {d : DataW H} {ps : List MemPlace} (hD : dataTypes P ts = true) (ht : t ∈ ts) (h : DataW.Trod enc P W 0 (fun _ => true) true t v d ps) : ∃ dd, Dd.Ty P t dd ∧ VL noPl noX W dd.cells v.cells.toList := by
  obtain ⟨fuel, hf⟩ := h
  exact trod_dd hD fuel t _ _ ht hf
/-- A struct that came in. -/
theorem open_st {ts : List TypeId} {t : TypeId} {fs : Array Field} {r : Reach} {b0 : Nat} {v : Value} {d : DataW H} {ps : List MemPlace} (hD : dataTypes P ts = true) (ht : t ∈ ts) (hs : P.underlying t = some (.struct fs)) (hv : Value.okWide P W r b0 t v) (h : DataW.Trod enc P W 0 (fun _ => true) true t v d ps) :
    ∃ dd, Dd.Ty P t dd ∧ V noPl noX W (.agg dd.cells) v := by
  obtain ⟨cs, rfl, _⟩ := Go.WideShapes.okWide_struct hs hv
  obtain ⟨dd, h1, h2⟩ := open_dd hD ht h
  exact ⟨dd, h1, by unfold V; exact ⟨cs.toList, rfl, h2⟩⟩
theorem Dd.Ty.int_inv {t : TypeId} {k : IntKind} {d : Dd} (hu : P.underlying t = some (.int k)) (h : Dd.Ty P t d) : ∃ n, d = .int k n ∧ (Lit.int k n).wf = true := by
  cases h with
  | int h1 h2 => rw [hu] at h1; cases h1; exact ⟨_, rfl, h2⟩
  | bool h1 => rw [hu] at h1; cases h1
  | str h1 _ => rw [hu] at h1; cases h1
  | sl h1 _ _ => rw [hu] at h1; cases h1
  | arr h1 _ _ => rw [hu] at h1; cases h1
  | st h1 _ _ => rw [hu] at h1; cases h1
theorem Dd.Ty.bool_inv {t : TypeId} {d : Dd} (hu : P.underlying t = some .bool) (h : Dd.Ty P t d) : ∃ b, d = .bool b := by
  cases h with
  | int h1 _ => rw [hu] at h1; cases h1
  | bool h1 => exact ⟨_, rfl⟩
  | str h1 _ => rw [hu] at h1; cases h1
  | sl h1 _ _ => rw [hu] at h1; cases h1
  | arr h1 _ _ => rw [hu] at h1; cases h1
  | st h1 _ _ => rw [hu] at h1; cases h1
theorem Dd.Ty.str_inv {t : TypeId} {d : Dd} (hu : P.underlying t = some .string) (h : Dd.Ty P t d) : ∃ s, d = .str s ∧ s.size ≤ maxLen := by
  cases h with
  | int h1 _ => rw [hu] at h1; cases h1
  | bool h1 => rw [hu] at h1; cases h1
  | str h1 h2 => exact ⟨_, rfl, h2⟩
  | sl h1 _ _ => rw [hu] at h1; cases h1
  | arr h1 _ _ => rw [hu] at h1; cases h1
  | st h1 _ _ => rw [hu] at h1; cases h1
theorem Dd.Ty.sl_inv {t e : TypeId} {d : Dd} (hu : P.underlying t = some (.slice e)) (h : Dd.Ty P t d) : ∃ l, d = .sl l ∧ l.length ≤ maxLen ∧ ∀ x, x ∈ l → Dd.Ty P e x := by
  cases h with
  | int h1 _ => rw [hu] at h1; cases h1
  | bool h1 => rw [hu] at h1; cases h1
  | str h1 _ => rw [hu] at h1; cases h1
  | sl h1 h2 h3 => rw [hu] at h1; cases h1; exact ⟨_, rfl, h2, h3⟩
  | arr h1 _ _ => rw [hu] at h1; cases h1
  | st h1 _ _ => rw [hu] at h1; cases h1
theorem Dd.Ty.arr_inv {t e : TypeId} {n : Nat} {d : Dd} (hu : P.underlying t = some (.array n e)) (h : Dd.Ty P t d) : ∃ l, d = .agg l ∧ l.length = n ∧ ∀ x, x ∈ l → Dd.Ty P e x := by
  cases h with
  | int h1 _ => rw [hu] at h1; cases h1
  | bool h1 => rw [hu] at h1; cases h1
  | str h1 _ => rw [hu] at h1; cases h1
  | sl h1 _ _ => rw [hu] at h1; cases h1
  | arr h1 h2 h3 => rw [hu] at h1; cases h1; exact ⟨_, rfl, h2, h3⟩
  | st h1 _ _ => rw [hu] at h1; cases h1
theorem Dd.Ty.st_inv {t : TypeId} {fs : Array Field} {d : Dd} (hu : P.underlying t = some (.struct fs)) (h : Dd.Ty P t d) : ∃ l, d = .agg l ∧ l.length = fs.size ∧ ∀ (i : Nat) (f : Field) (x : Dd), fs[i]? = some f → l[i]? = some x → Dd.Ty P f.type x := by
  cases h with
  | int h1 _ => rw [hu] at h1; cases h1
  | bool h1 => rw [hu] at h1; cases h1
  | str h1 _ => rw [hu] at h1; cases h1
  | sl h1 _ _ => rw [hu] at h1; cases h1
  | arr h1 _ _ => rw [hu] at h1; cases h1
  | st h1 h2 h3 => rw [hu] at h1; cases h1; exact ⟨_, rfl, h2, h3⟩
theorem cellsL_ints (k : IntKind) (xs : List Int) : Dd.cellsL (xs.map (Dd.int k)) = ints k xs := by
  induction xs with
  | nil => rfl
  | cons x xs ih => simp only [List.map_cons, Dd.cellsL, Dd.cells, ih, ints, List.cons_append, List.nil_append]
/-- A slice of numbers. -/
theorem Dd.Ty.ints_inv {t e : TypeId} {k : IntKind} {d : Dd} (hu : P.underlying t = some (.slice e)) (he : P.underlying e = some (.int k)) (h : Dd.Ty P t d) :
    ∃ xs : List Int, d.cells = [rdI k xs] ∧ xs.length ≤ maxLen ∧ ∀ x, x ∈ xs → (Lit.int k x).wf = true := by
  obtain ⟨l, rfl, h1, h2⟩ := h.sl_inv hu
  obtain ⟨xs, h3, h4⟩ := list_choice (p := fun _ (d : Dd) (n : Int) => d = .int k n ∧ (Lit.int k n).wf = true) l (fun i d hi => (h2 d (List.mem_of_getElem? hi)).int_inv he)
  have e1 : l = xs.map (Dd.int k) := by
    apply List.ext_getElem (by simp [h3])
    intro i hi1 hi2
    have := h4 i _ _ (List.getElem?_eq_getElem hi1) (List.getElem?_eq_getElem (by omega))
    simp [this.1]
  refine ⟨xs, ?_, by omega, fun x hx => ?_⟩
  · rw [e1]; simp only [Dd.cells, cellsL_ints, List.length_map, rdI]
  · obtain ⟨i, hi, rfl⟩ := List.mem_iff_getElem.1 hx
    exact (h4 i _ _ (List.getElem?_eq_getElem (by omega)) (List.getElem?_eq_getElem hi)).2
/-- The fields of a struct of two, three .. -/
theorem Dd.Ty.st2 {t : TypeId} {f0 f1 : Field} {d : Dd} (hu : P.underlying t = some (.struct #[f0, f1])) (h : Dd.Ty P t d) : ∃ a b, d = .agg [a, b] ∧ Dd.Ty P f0.type a ∧ Dd.Ty P f1.type b := by
  obtain ⟨l, rfl, h1, h2⟩ := h.st_inv hu
  match l, h1 with
  | [a, b], _ => exact ⟨a, b, rfl, h2 0 _ _ rfl rfl, h2 1 _ _ rfl rfl⟩
theorem Dd.Ty.st3 {t : TypeId} {f0 f1 f2 : Field} {d : Dd} (hu : P.underlying t = some (.struct #[f0, f1, f2])) (h : Dd.Ty P t d) : ∃ a b c, d = .agg [a, b, c] ∧ Dd.Ty P f0.type a ∧ Dd.Ty P f1.type b ∧ Dd.Ty P f2.type c := by
  obtain ⟨l, rfl, h1, h2⟩ := h.st_inv hu
  match l, h1 with
  | [a, b, c], _ => exact ⟨a, b, c, rfl, h2 0 _ _ rfl rfl, h2 1 _ _ rfl rfl, h2 2 _ _ rfl rfl⟩
theorem Dd.Ty.st4 {t : TypeId} {f0 f1 f2 f3 : Field} {d : Dd} (hu : P.underlying t = some (.struct #[f0, f1, f2, f3])) (h : Dd.Ty P t d) : ∃ a b c e, d = .agg [a, b, c, e] ∧ Dd.Ty P f0.type a ∧ Dd.Ty P f1.type b ∧ Dd.Ty P f2.type c ∧ Dd.Ty P f3.type e := by
  obtain ⟨l, rfl, h1, h2⟩ := h.st_inv hu
  match l, h1 with
  | [a, b, c, e], _ => exact ⟨a, b, c, e, rfl, h2 0 _ _ rfl rfl, h2 1 _ _ rfl rfl, h2 2 _ _ rfl rfl, h2 3 _ _ rfl rfl⟩
end
end Go.Abs
namespace Go.Abs
open Go.RowKit
/-- What data are told as. -/
def Dd.aw : Dd → A
  | .int k n => .val (.int k n)
  | .bool b => .val (.bool b)
  | .str s => .val (.string s)
  | .sl l => .ro l.length (Dd.cellsL l)
  | .agg l => .agg (Dd.cellsL l)
section
variable {H : Type} {enc : TypeId × Value → H} {P : Program} {W : World}
theorem open_any {ts : List TypeId} {t : TypeId} {r : Reach} {b0 : Nat} {v : Value} {d : DataW H} {ps : List MemPlace} (hD : dataTypes P ts = true) (ht : t ∈ ts) (hv : Value.okWide P W r b0 t v) (h : DataW.Trod enc P W 0 (fun _ => true) true t v d ps) :
    ∃ dd, Dd.Ty P t dd ∧ V noPl noX W dd.aw v := by
  obtain ⟨dd, h1, h2⟩ := open_dd hD ht h
  refine ⟨dd, h1, ?_⟩
  have one : ∀ {a : A} {v : Value}, v.cells.toList = [v] → VL noPl noX W [a] v.cells.toList → V noPl noX W a v := by
    intro a v e hv
    rw [e] at hv
    obtain ⟨u, t, h3, h4, _⟩ := hv.uncons
    simp only [List.cons.injEq] at h3
    rw [h3.1]; exact h4
  cases h1 with
  | int hu _ => obtain ⟨n, rfl⟩ := Go.WideShapes.okWide_int hu hv; exact one rfl h2
  | bool hu => obtain ⟨b, rfl⟩ := Go.WideShapes.okWide_bool hu hv; exact one rfl h2
  | str hu _ => obtain ⟨s, rfl⟩ := Go.WideShapes.okWide_string hu hv; exact one rfl h2
  | sl hu _ _ => obtain ⟨a, n, c, rfl⟩ := Go.WideShapes.okWide_slice hu hv; exact one rfl h2
  | arr hu _ _ => obtain ⟨cs, rfl, _⟩ : ∃ cs, v = .agg cs ∧ True := by { simp only [Value.okWide, hu] at hv; obtain ⟨cs, h3, _⟩ := hv; exact ⟨cs, h3, trivial⟩ }; show V noPl noX W (.agg _) _; unfold V; exact ⟨cs.toList, rfl, h2⟩
  | st hu _ _ => obtain ⟨cs, rfl, _⟩ := Go.WideShapes.okWide_struct hu hv; show V noPl noX W (.agg _) _; unfold V; exact ⟨cs.toList, rfl, h2⟩
end
end Go.Abs
namespace Go.Abs
open Go.RowKit
def valO : A → Option Value
  | .val v => some v
  | _ => none
def valsO : List A → Option (List Value)
  | [] => some []
  | a :: l => match valO a, valsO l with
    | some v, some vs => some (v :: vs)
    | _, _ => none
theorem valsO_spec {f : Pl} {X : Nat → Prop} {w : World} : ∀ {l : List A} {us vs : List Value}, valsO l = some us → VL f X w l vs → vs = us
  | [], us, vs, h, hv => by simp only [valsO, Option.some.injEq] at h; subst h; exact hv.unnil
  | a :: l, us, vs, h, hv => by
    obtain ⟨v, t, rfl, h2, h3⟩ := hv.uncons
    simp only [valsO] at h
    split at h
    · rename_i u us' hu hus
      simp only [Option.some.injEq] at h; subst h
      rw [valsO_spec hus h3]
      cases a <;> simp only [valO, Option.some.injEq, reduceCtorEq] at hu
      subst hu
      rw [h2.val]
    · cases h
def veq : Value → Value → Bool
  | .int _ a, .int _ b => decide (a = b)
  | .bool a, .bool b => a == b
  | .string a, .string b => a == b
  | _, _ => false
def veqL : List Value → List Value → Bool
  | [], [] => true
  | [a], [b] => veq a b
  | a :: l, b :: m => veq a b && veqL l m
  | _, _ => false
def fitV : TK → Value → Bool
  | .int k, .int k' _ => decide (k = k')
  | .bool, .bool _ => true
  | .string, .string _ => true
  | _, _ => false
def fitL : List TK → List Value → Bool
  | [], [] => true
  | k :: ks, v :: vs => fitV k v && fitL ks vs
  | _, _ => false
/-- How values of a type are compared, cell by cell. -/
def EqOk (P : Program) (t : TypeId) (ks : List TK) : Prop := P.eqGuardType P.depth t = false ∧
  ∀ (xs ys : List Value) (w : World), fitL ks xs = true → fitL ks ys = true → (Op.equalIn 10000 t (.agg xs.toArray) (.agg ys.toArray)).run P w = .ok (veqL xs ys) w
def lookE : List (Nat × List TK) → Nat → Option (List TK)
  | [], _ => none
  | (u, x) :: l, t => bif Nat.beq t u then some x else lookE l t
def EOk (P : Program) (E : List (Nat × List TK)) : Prop := ∀ t ks, lookE E t = some ks → EqOk P t ks
theorem EOk.nil (P : Program) : EOk P [] := fun t ks h => by cases h
theorem EOk.cons {P : Program} {E : List (Nat × List TK)} {t : TypeId} {ks : List TK} (h : EqOk P t ks) (hE : EOk P E) : EOk P ((t, ks) :: E) := fun u x hu => by
  simp only [lookE] at hu
  cases hb : Nat.beq u t with
  | true => rw [hb] at hu; obtain rfl := Nat.eq_of_beq_eq_true hb; simp only [cond_true, Option.some.injEq] at hu; subst hu; exact h
  | false => rw [hb] at hu; exact hE u x hu
theorem fit_int {k : IntKind} {v : Value} (h : fitV (.int k) v = true) : ∃ n, v = .int k n := by
  cases v <;> simp only [fitV, reduceCtorEq, decide_eq_true_eq, Bool.false_eq_true] at h
  subst h; exact ⟨_, rfl⟩
theorem fit_bool {v : Value} (h : fitV .bool v = true) : ∃ b, v = .bool b := by
  cases v <;> simp only [fitV, reduceCtorEq, Bool.false_eq_true] at h
  exact ⟨_, rfl⟩
theorem fit_str {v : Value} (h : fitV .string v = true) : ∃ b, v = .string b := by
  cases v <;> simp only [fitV, reduceCtorEq, Bool.false_eq_true] at h
  exact ⟨_, rfl⟩
theorem fit_cons {k : TK} {ks : List TK} {vs : List Value} (h : fitL (k :: ks) vs = true) : ∃ v us, vs = v :: us ∧ fitV k v = true ∧ fitL ks us = true := by
  cases vs with
  | nil => simp [fitL] at h
  | cons v us => simp only [fitL, Bool.and_eq_true] at h; exact ⟨v, us, rfl, h.1, h.2⟩
theorem fit_nil {vs : List Value} (h : fitL [] vs = true) : vs = [] := by cases vs <;> simp_all [fitL]
section
variable {P : Program} {L : List (Nat × TI)} {C : Ctx} {ops : Array Oper} {draw : Bool} {Q : AQ} {s0 : St} {tr : List TE} {e : Nat → Option A} {h : Nat → Reg} {n : Nat}
/-- An operation that computes, in whatever way. -/
theorem RG.yld {d : Option Tmp} {op : Op} {ty : TypeId} {pos : String} {af : Array Edge} {g : Option (Nat × Bool)} {r r' : Option A} (ho : ops[tr.length]? = some ⟨d, op, ty, pos, af, g⟩) (hg : wantA ops g e = some true)
    (hv : ∀ (ev : Operand → Option A), (∀ x ∈ op.operands, ev x = evE e x) → ∀ (f : Pl) (X : Nat → Prop) (w : World) (ρ : Operand → Value), (∀ x v, ev x = some v → V f X w v (ρ x)) → Yld P f X w ρ ⟨d, op, ty, pos, af, g⟩ r) (hd : dOk C d = true) (hr' : r = r')
    (hr : RG P C ops draw Q s0 (⟨fpOf ops ⟨d, op, ty, pos, af, g⟩ [], d, ⟨r', [], 0⟩, n⟩ :: tr) ⟨putd d r' e, h, n⟩) : RG P C ops draw Q s0 tr ⟨e, h, n⟩ := by
  subst hr'
  refine RG.step (s := ⟨e, h, n⟩) ⟨fpOf ops ⟨d, op, ty, pos, af, g⟩ [], d, ⟨r, [], 0⟩, n⟩ rfl (wstep_of ho rfl hg ?_) hr
  intro s fr f a w ha hfr hrel next Q' hQ' hnext
  obtain ⟨_, h1, _⟩ := ha.parts
  obtain ⟨v, h2, h3⟩ := hv (evE s.e) h1 f (C.X s.h f) w a.eval (fun x v hx => hrel.ev hx)
  unfold Oper.wp
  rw [h2]
  refine hnext _ _ f ?_
  exact { hrel.put hd h3 with fr := fun k hk => hrel.fr k hk.1 }
theorem RG.eqA {E : List (Nat × List TK)} (hE : EOk P E) {d : Option Tmp} {op : BinOp} {t t2 : TypeId} {x y : Operand} {ty : TypeId} {pos : String} {af : Array Edge} {g : Option (Nat × Bool)} {l1 l2 : List A} {xs ys : List Value} {ks : List TK} {r r' : A}
    (ho : ops[tr.length]? = some ⟨d, .binOp op t x y t2, ty, pos, af, g⟩) (hg : wantA ops g e = some true)
    (hx : evE e x = some (.agg l1)) (hy : evE e y = some (.agg l2)) (h1 : valsO l1 = some xs) (h2 : valsO l2 = some ys) (hk : lookE E t = some ks) (hf1 : fitL ks xs = true) (hf2 : fitL ks ys = true)
    (hb : eqR op (veqL xs ys) = some (r, True)) (hd : dOk C d = true) (hr' : r = r')
    (hr : RG P C ops draw Q s0 (⟨fpOf ops ⟨d, .binOp op t x y t2, ty, pos, af, g⟩ [], d, ⟨some r', [], 0⟩, n⟩ :: tr) ⟨putd d (some r') e, h, n⟩) : RG P C ops draw Q s0 tr ⟨e, h, n⟩ := by
  subst hr'
  refine RG.yld ho hg (fun ev hev f X w ρ hρ => ?_) hd rfl hr
  have e1 := hρ x _ ((hev x (by simp [Op.operands])).trans hx)
  have e2 := hρ y _ ((hev y (by simp [Op.operands])).trans hy)
  simp only [V] at e1 e2
  obtain ⟨vs, e1, e3⟩ := e1
  obtain ⟨us, e2, e4⟩ := e2
  obtain rfl := valsO_spec h1 e3
  obtain rfl := valsO_spec h2 e4
  obtain ⟨hgd, heq⟩ := hE t ks hk
  have he := heq vs us w hf1 hf2
  obtain ⟨v, h5, h6⟩ := eqR_run (P := P) (f := f) (X := X) (w := w) (op := op) (t := t) (x := .agg vs.toArray) (y := .agg us.toArray) (b := veqL vs us) (r := r) (s := True) he (by rfl) (by rfl) hb
  refine Yld.mk ?_ h6
  refine run_v ?_
  rw [e1, e2]
  simp only [Sem.run_bind, run_eqGuard_agg w op t x y vs.toArray us.toArray hgd, Result.andThen, h5]
/-- A call of a function that has no body, and yields a value. -/
theorem RG.ext {d : Option Tmp} {gid : FuncId} {xs : Array Operand} {ts : Array TypeId} {ty : TypeId} {pos : String} {af : Array Edge} {g : Option (Nat × Bool)} {as : List A} {us : List Value} {v : Value} {r r' : A}
    (ho : ops[tr.length]? = some ⟨d, .call ⟨.value (.func gid), xs, ts⟩, ty, pos, af, g⟩) (hg : wantA ops g e = some true) (hx : mapEv (evE e) xs.toList = some as) (hu : valsO as = some us)
    (hrun : ∀ w, (callFunc gid us.toArray).run P w = .ok (.value v) w) (hv : ∀ f X w, V f X w r v) (hd : dOk C d = true) (hr' : r = r')
    (hr : RG P C ops draw Q s0 (⟨fpOf ops ⟨d, .call ⟨.value (.func gid), xs, ts⟩, ty, pos, af, g⟩ [], d, ⟨some r', [], 0⟩, n⟩ :: tr) ⟨putd d (some r') e, h, n⟩) : RG P C ops draw Q s0 tr ⟨e, h, n⟩ := by
  subst hr'
  refine RG.yld ho hg (fun ev hev f X w ρ hρ => ?_) hd rfl hr
  have e1 : mapEv ev xs.toList = some as := by
    rw [mapEv_congr (ev := ev) (ev' := evE e) xs.toList (fun x hx => hev x (by simp [Op.operands, Call.operands] at hx ⊢; exact .inr hx))]; exact hx
  have e2 := valsO_spec hu (mapEv_spec (f := f) (X := X) (w := w) (ρ := ρ) hρ e1)
  have e3 := hρ (.func gid) (.fn gid [] []) (by rw [hev (.func gid) (by simp [Op.operands, Call.operands])]; rfl)
  simp only [V] at e3
  obtain ⟨fs, cs, k1, k2, k3⟩ := e3
  have k2' := k2.unnil
  have k3' := k3.unnil
  subst k2' k3'
  have e4 : (([] : List Value).toArray ++ xs.map ρ ++ ([] : List Value).toArray) = us.toArray := by
    rw [← e2]; apply Array.ext'; simp
  refine Yld.mk (v := v) ?_ (hv f X w)
  simp only [execOp, resolve, k1, Deferred.ofValue, Sem.run_bind, Sem.run_pure, Result.andThen, invoke]
  rw [e4]
  exact hrun w
end
end Go.Abs
namespace Go.Abs
open Go.RowKit
mutual
theorem A.renP_lt {τ : RenP} {m : Nat} (hτ : ∀ k p, k < m → τ k p = (k, p)) : ∀ (a : A), a.lt m = true → a.renP τ = a
  | .any, _ => rfl
  | .val _, _ => rfl
  | .ro _ _, _ => rfl
  | .rp _, _ => rfl
  | .sl k p _ _ _, h => by simp only [A.lt] at h; simp only [A.renP, hτ k p (Nat.le_of_ble_eq_true h)]
  | .ptr k p _, h => by simp only [A.lt] at h; simp only [A.renP, hτ k p (Nat.le_of_ble_eq_true h)]
  | .agg l, h => by simp only [A.lt] at h; simp only [A.renP]; rw [renPL_lt hτ l h]
  | .tup l, h => by simp only [A.lt] at h; simp only [A.renP]; rw [renPL_lt hτ l h]
  | .fn g a b, h => by simp only [A.lt, Bool.and_eq_true] at h; simp only [A.renP]; rw [renPL_lt hτ a h.1, renPL_lt hτ b h.2]
  | .ifc t a, h => by simp only [A.lt] at h; simp only [A.renP]; rw [A.renP_lt hτ a h]
theorem renPL_lt {τ : RenP} {m : Nat} (hτ : ∀ k p, k < m → τ k p = (k, p)) : ∀ (l : List A), ltL m l = true → renPL τ l = l
  | [], _ => rfl
  | x :: xs, h => by simp only [ltL, Bool.and_eq_true] at h; simp only [renPL]; rw [A.renP_lt hτ x h.1, renPL_lt hτ xs h.2]
end
/-- What is told names only objects below m. -/
def LtE (m : Nat) (e : Nat → Option A) : Prop := ∀ i v, e i = some v → v.lt m = true
def LtH (m : Nat) (h : Nat → Reg) : Prop := ∀ k p c, (h k).get p = some c → k < m ∧ ltL m c = true
theorem LtE.no (m : Nat) : LtE m noE := fun i v h => by cases h
theorem LtE.put {m d : Nat} {v : A} {e : Nat → Option A} (hv : v.lt m = true) (he : LtE m e) : LtE m (put d (some v) e) := fun i u hu => by
  by_cases hi : i = d
  · subst hi; rw [put_same] at hu; cases hu; exact hv
  · rw [put_ne _ _ hi] at hu; exact he i u hu
theorem LtH.no (m : Nat) : LtH m noH := fun k p c h => by simp [noH, Reg.get] at h
theorem LtH.put {m k : Nat} {c : List A} {h : Nat → Reg} (hk : Nat.blt k m = true) (hc : ltL m c = true) (hh : LtH m h) : LtH m (hput k (.one c) h) := fun j p c' hj => by
  by_cases e : j = k
  · subst e
    rw [hput_same] at hj
    cases p with
    | nil => simp only [Reg.get, Option.some.injEq] at hj; subst hj; exact ⟨Nat.le_of_ble_eq_true hk, hc⟩
    | cons _ _ => simp [Reg.get] at hj
  · rw [hput_ne _ _ e] at hj; exact hh j p c' hj
/-- A state that says less, and has fewer objects. -/
theorem Sub.down {C : Ctx} {s t : St} (he : SubE t.e s.e) (hh : SubH t.h s.h) (hE : LtE t.n t.e) (hH : LtH t.n t.h) (hq : Nat.ble C.q t.n = true) : Sub C s t := by
  have hτ : ∀ (k : Nat) (p : List Nat), k < t.n → (if k < t.n then (k, p) else (k + s.n, p)) = (k, p) := fun k p hk => by rw [if_pos hk]
  refine Sub.ren (fun k p => if k < t.n then (k, p) else (k + s.n, p)) (fun i v hv => ?_) (fun k p c hc => ?_) (fun k p k' p' h1 h2 e => ?_) (fun k p hk => ?_) (fun k p hk => ?_)
  · rw [A.renP_lt hτ v (hE i v hv)]; exact he i v hv
  · obtain ⟨h1, h2⟩ := hH k p c hc
    rw [renPL_lt hτ c h2]
    rw [if_pos h1]; exact hh k p c hc
  · obtain ⟨c, hc⟩ := Option.ne_none_iff_exists'.1 h1
    obtain ⟨c', hc'⟩ := Option.ne_none_iff_exists'.1 h2
    rw [if_pos (hH k p c hc).1, if_pos (hH k' p' c' hc').1] at e
    simpa using e
  · rw [if_neg (by omega)]; exact Nat.le_add_left _ _
  · exact hτ k p (Nat.lt_of_lt_of_le hk (Nat.le_of_ble_eq_true hq))
theorem stO_map {α : Type} (F : α → A) (x : α) : ∀ (xs : List α) (i : Nat), i < xs.length → stO (xs.map F) i [F x] = some ((xs.set i x).map F)
  | [], i, h => by simp at h
  | y :: ys, 0, _ => by simp [stO]
  | y :: ys, i + 1, h => by simp only [List.map_cons, stO, stO_map F x ys i (by simpa using h), List.set_cons_succ]
theorem stA_map {α : Type} {L : List (Nat × TI)} {t : TypeId} {k3 : TK} {bs : Nat} {gg : Bool} {z : List A} (ht : Abs.look L t = some ⟨k3, 1, bs, gg, z⟩) {h : Nat → Reg} {k : Nat} (F : α → A) {xs : List α} (hk : h k = .one (xs.map F)) {off : Nat} (ho : off < xs.length)
    {v : A} (x : α) (hv : v = F x) (hc : cellsA v = some [v]) : stA L t (.ptr k [] off) v h = some (k, [], (xs.set off x).map F) := by
  subst hv
  simp only [stA, ht, hc, List.length_cons, List.length_nil, hk, Reg.get, stO_map F x xs off ho]
  rfl
end Go.Abs
namespace Go.Abs
open Go.RowKit
section
variable {P : Program} {I : GI} {g : FuncId} {args : List A} {r : A}
theorem FC_of_calls (henter : ∀ (aa : Array Value) (w : World), (callFunc g aa).run P w = .ok (.enter g aa) w)
    (h : ∀ (w : World) (vs : List Value), I.p w → VL noPl (fun _ => False) w args vs → Calls P g vs.toArray w fun e w' => ∃ v, e = .returned v ∧ (∀ Y : Nat → Prop, (∀ b, Y b → b < w.heap.size) → V noPl Y w' r v) ∧ Below w.heap.size w w') : FC P I g args [] r [] NoP := by
  refine ⟨henter, Nat.le_refl _, ?_⟩
  intro f0 Y w vs hgi hlow hfr hY hHR hInj hargs
  have h0 : f0 = noPl := by funext k p; exact hfr k (Nat.zero_le _) p
  subst h0
  refine (h w vs hgi (hargs.mono (Ext.refl _) (fun b _ hb => hb.elim) (Kp.refl (fun _ => False) w) (fun _ _ h => h.elim))).mono ?_
  rintro e w' ⟨v, rfl, hv, hb⟩
  exact ⟨noPl, Ext.refl _, fun _ _ _ => rfl, (hv Y (fun b hb => (hY b hb).1)).mono (Ext.refl _) (fun b _ hb => hb.elim (fun hl => absurd hl (live_none b)) id) (Kp.refl (fun _ => False) w') (fun _ _ h => h.elim), fun k p c h => by simp [regs, Reg.get] at h, fun k p k' p' b h => by simp [regs, Reg.get] at h,
    (Kp.of_below hb).mono (fun _ _ h => h.elim), fun b hb => absurd hb (live_none b)⟩
theorem enter_of {fn : Func} (hfn : P.funcs[g]? = some fn) (hname : (fn.name == "runtime.NumGoroutine") = false) (hb : fn.body.isNone = false) (aa : Array Value) (w : World) : (callFunc g aa).run P w = .ok (.enter g aa) w := by
  have hname' : ¬ fn.name = "runtime.NumGoroutine" := by simpa using hname
  have hb' : ¬ fn.body = none := by intro h; rw [h] at hb; cases hb
  simp [callFunc, hfn, hname', hb']
end
theorem VL1 {f : Pl} {X : Nat → Prop} {w : World} {a : A} {vs : List Value} (h : VL f X w [a] vs) : ∃ v, vs = [v] ∧ V f X w a v := by
  obtain ⟨v, t, rfl, h1, h2⟩ := h.uncons
  rw [h2.unnil]; exact ⟨v, rfl, h1⟩
theorem VL2 {f : Pl} {X : Nat → Prop} {w : World} {a b : A} {vs : List Value} (h : VL f X w [a, b] vs) : ∃ v u, vs = [v, u] ∧ V f X w a v ∧ V f X w b u := by
  obtain ⟨v, t, rfl, h1, h2⟩ := h.uncons
  obtain ⟨u, rfl, h3⟩ := VL1 h2
  exact ⟨v, u, rfl, h1, h3⟩
theorem VL3 {f : Pl} {X : Nat → Prop} {w : World} {a b c : A} {vs : List Value} (h : VL f X w [a, b, c] vs) : ∃ v u t, vs = [v, u, t] ∧ V f X w a v ∧ V f X w b u ∧ V f X w c t := by
  obtain ⟨v, t, rfl, h1, h2⟩ := h.uncons
  obtain ⟨u, t, rfl, h3, h4⟩ := VL2 h2
  exact ⟨v, u, t, rfl, h1, h3, h4⟩
theorem VL4 {f : Pl} {X : Nat → Prop} {w : World} {a b c d : A} {vs : List Value} (h : VL f X w [a, b, c, d] vs) : ∃ v u t s, vs = [v, u, t, s] ∧ V f X w a v ∧ V f X w b u ∧ V f X w c t ∧ V f X w d s := by
  obtain ⟨v, t, rfl, h1, h2⟩ := h.uncons
  obtain ⟨u, t, s, rfl, h3, h4, h5⟩ := VL3 h2
  exact ⟨v, u, t, s, rfl, h1, h3, h4, h5⟩
/-- Values out of lists of numbers. -/
theorem FC.wk {P : Program} {I : GI} {g : FuncId} {args args' : List A} {pre post : List Reg} {r : A} {Pp : List PanicEntry → Prop} (hc : FC P I g args pre r post Pp) (h : WkL args' args) : FC P I g args' pre r post Pp :=
  ⟨hc.enter, hc.len, fun f0 Y w vs k1 k2 h1 h2 h3 h4 h5 => hc.call f0 Y w vs k1 k2 h1 h2 h3 h4 (h.VL h5)⟩
theorem FC.wkR {P : Program} {I : GI} {g : FuncId} {args : List A} {pre post : List Reg} {r r' : A} {Pp : List PanicEntry → Prop} (hc : FC P I g args pre r post Pp) (h : Wk r r') : FC P I g args pre r' post Pp :=
  ⟨hc.enter, hc.len, fun f0 Y w vs k1 k2 h1 h2 h3 h4 h5 => (hc.call f0 Y w vs k1 k2 h1 h2 h3 h4 h5).mono (fun e w' he => by
    cases e with
    | outgrown => exact he
    | panicked ch => exact he
    | returned v => obtain ⟨f1, a1, a2, a3, a4⟩ := he; exact ⟨f1, a1, a2, h _ _ _ _ a3, a4⟩)⟩
theorem Wk.agg {l l' : List A} (h : WkL l l') : Wk (.agg l) (.agg l') := fun f X w v hv => by
  simp only [V] at hv ⊢
  obtain ⟨vs, rfl, h1⟩ := hv
  exact ⟨vs, rfl, h.VL h1⟩
theorem VL_ints {f : Pl} {X : Nat → Prop} {w : World} {k : IntKind} {xs : List Int} {vs : List Value} (h : VL f X w (ints k xs) vs) : vs = xs.map (Value.int k) := by
  induction xs generalizing vs with
  | nil => exact h.unnil
  | cons x xs ih =>
    obtain ⟨v, t, rfl, h1, h2⟩ := h.uncons
    rw [h1.val, ih h2]; rfl
theorem VL_ints_mk {f : Pl} {X : Nat → Prop} {w : World} {k : IntKind} (xs : List Int) : VL f X w (ints k xs) (xs.map (Value.int k)) := by
  have : ints k xs = (xs.map (Value.int k)).map A.val := by simp [ints]
  rw [this]; exact VL.vals _

theorem uw {n m : Int} (h : n % 18446744073709551616 = m) : some (A.val (.int .u64 (IntKind.u64.wrap n))) = some (A.val (.int .u64 m)) := by rw [IntKind.wrap_u64, h]
theorem AW.seqB {P : Program} {C : Ctx} {Q : AQ} {s : St} {x y : Code} (d : Nat) (G : Bool → Prop) (hx : AW P C x (Q.then (fun t => ∃ b, G b ∧ Sub C t ⟨put d (some (.val (.bool b))) s.e, s.h, s.n⟩)) s)
    (hy : ∀ b, G b → AW P C y Q ⟨put d (some (.val (.bool b))) s.e, s.h, s.n⟩) : AW P C (.seq x y) Q s := AW.seqJ (fun b => ⟨put d (some (.val (.bool b))) s.e, s.h, s.n⟩) G hx hy
theorem SubE.over {d : Nat} {v : Option A} {e e' : Nat → Option A} (h1 : e d = none) (h2 : SubE e e') : SubE e (Go.Abs.put d v e') := by
  intro i u hi
  unfold Go.Abs.put
  cases hb : Nat.beq i d with
  | true => rw [Nat.eq_of_beq_eq_true hb, h1] at hi; cases hi
  | false => exact h2 i u hi
theorem SubH.same {k : Nat} {r : Reg} {h h' : Nat → Reg} (h1 : h k = r) (h2 : SubH h h') : SubH h (hput k r h') := by
  intro i p c hi
  by_cases hk : i = k
  · subst hk; rw [hput_same, ← h1]; exact hi
  · rw [hput_ne _ _ hk]; exact h2 i p c hi
/-- A package variable that holds these cells. -/
def GI.var (P : Program) (name : String) (g : Nat) (hg : P.globalNamed name = some g) (cs : Array Value) : GI where
  G := g + 1
  p := fun w => w.var? P name = some cs
  st := fun w w' h hp => by
    unfold World.var? at hp ⊢
    rw [hg] at hp ⊢
    simp only [Option.bind_some] at hp ⊢
    rw [h g (Nat.lt_succ_self g)]; exact hp
  low := fun w hp => by
    unfold World.var? at hp
    rw [hg] at hp
    simp only [Option.bind_some] at hp
    split at hp
    · rename_i cs' a b hh
      exact (Array.getElem?_eq_some_iff.1 hh).1
    · cases hp
end Go.Abs
namespace Go.Abs
open Go.RowKit
section
variable {C : Ctx} {s : St} {fr : Nat → Prop} {f : Pl} {a : Act} {w : World}
/-- A world in which all that was there is as it was. -/
theorem Rel.keep (h : Rel C s fr f a w) {w' : World} (k : Kp (fun _ => False) w w') : Rel C s fr f a w' :=
  { h with
    e := fun i v hv => (h.e i v hv).mono (Ext.refl f) (fun _ _ h => h) k (fun _ _ h => h.elim)
    h := fun k' p c hc => by
      rcases h.h k' p c hc with h0 | ⟨b, arr, el, h1, h2, h3, h4⟩
      · exact .inl h0
      exact .inr ⟨b, arr, el, h1, (k.same b (Array.getElem?_eq_some_iff.1 h2).1 (fun h => h)).trans h2, h3, h4.mono (Ext.refl f) (fun _ _ h => h) k (fun _ _ h => h.elim)⟩
    kp := h.kp.trans (k.mono (fun _ _ h => h.elim)) }
/-- The cells of an own slice. -/
theorem sl_cells (hr : Rel C s fr f a w) {k st off n : Nat} {p : List Nat} {c l : List A} {v : Value} (hk : (s.h k).get p = some c) (hl : (c.drop off).take (n * st) = l) (hv : V f (C.X s.h f) w (.sl k p st off n) v) :
    ∃ q cap, v = .slice q n cap ∧ (q = none → n = 0) ∧ ∀ a0, q = some a0 → a0.spot = none ∧ ∃ vs, VL f (C.X s.h f) w l vs ∧ ∀ (j : Nat) (u : Value), vs[j]? = some u → w.cell? ⟨a0.block, a0.off + j, none⟩ = some u := by
  subst hl
  simp only [V] at hv
  rcases hv with ⟨h1, rfl, rfl, rfl⟩ | ⟨b, cap, h1, rfl, h3, h4, arr0, el0, z0, h5, h6⟩
  · exact ⟨none, 0, rfl, fun _ => rfl, fun a0 h => by cases h⟩
  · obtain ⟨arr, el, g1, g2, g3⟩ := hr.cells hk h1
    refine ⟨_, cap, rfl, (fun h => by cases h), fun a0 h => ?_⟩
    simp only [Option.some.injEq] at h
    subst h
    refine ⟨rfl, ((arr.toList.take c.length).drop off).take (n * st), (g3.drop off).take (n * st), fun j u hj => ?_⟩
    rw [List.getElem?_take] at hj
    split at hj
    · rw [List.getElem?_drop, List.getElem?_take] at hj
      split at hj
      · simp only [World.cell?, g1]
        simpa using hj
      · cases hj
    · cases hj
end
/-- The numbers of a text's bytes, and the text of numbers. -/
def byt (s : ByteArray) : List Int := s.data.toList.map fun c => (c.toNat : Int)
def unb (xs : List Int) : ByteArray := ⟨(xs.map fun n => UInt8.ofNat n.toNat).toArray⟩
theorem byt_length (s : ByteArray) : (byt s).length = s.size := by simp [byt]
theorem unb_byt (s : ByteArray) : unb (byt s) = s := by
  unfold unb byt
  rw [List.map_map]
  have : s.data.toList.map ((fun n : Int => UInt8.ofNat n.toNat) ∘ fun c : UInt8 => (c.toNat : Int)) = s.data.toList := by
    conv => rhs; rw [← List.map_id s.data.toList]
    apply List.map_congr_left
    intro c _
    simp
  rw [this]
theorem unb_size (xs : List Int) : (unb xs).size = xs.length := by simp [unb, ByteArray.size]
theorem foldl_push : ∀ (xs : List Int) (s : ByteArray), xs.foldl (fun r n => r.push (UInt8.ofNat n.toNat)) s = ⟨s.data ++ (xs.map fun n => UInt8.ofNat n.toNat).toArray⟩
  | [], s => by simp
  | x :: xs, s => by
    rw [List.foldl_cons, foldl_push xs]
    congr 1
    simp [ByteArray.push]
theorem foldl_unb (xs : List Int) : xs.foldl (fun r n => r.push (UInt8.ofNat n.toNat)) ByteArray.empty = unb xs := by
  rw [foldl_push]; unfold unb; congr 1; simp
theorem bytes_run {P : Program} {w : World} {q : Option Addr} {n cap : Nat} {xs : List Int} (hn : xs.length = n) (h0 : q = none → n = 0)
    (h1 : ∀ a0, q = some a0 → n = 0 ∨ (a0.spot = none ∧ ∀ (j : Nat) (u : Value), (xs.map (Value.int .u8))[j]? = some u → w.cell? ⟨a0.block, a0.off + j, none⟩ = some u)) :
    (Conv.bytesToString (.slice q n cap)).run P w = .ok (.string (unb xs)) w := by
  cases q with
  | none =>
    have := h0 rfl
    subst this
    obtain rfl := List.eq_nil_of_length_eq_zero hn
    rfl
  | some a0 =>
    rw [← foldl_unb]
    refine run_bytesToString w a0 n cap xs ?_
    have := run_loadCells_list (P := P) w a0 (xs.map (Value.int .u8)) (fun j v hj => by
      rcases h1 a0 rfl with h2 | ⟨h2, h3⟩
      · have : xs = [] := List.eq_nil_of_length_eq_zero (by omega)
        subst this
        simp at hj
      · rw [addr_add h2]; exact h3 j v hj)
    rw [List.length_map, hn] at this
    exact this
theorem ro_bytes {f : Pl} {X : Nat → Prop} {w : World} {m : Nat} {xs : List Int} {v : Value} (h : V f X w (.ro m (ints .u8 xs)) v) (hn : xs.length = m) : ∃ q cap, v = .slice q m cap ∧ (q = none → m = 0) ∧
    ∀ a0, q = some a0 → m = 0 ∨ (a0.spot = none ∧ ∀ (j : Nat) (u : Value), (xs.map (Value.int .u8))[j]? = some u → w.cell? ⟨a0.block, a0.off + j, none⟩ = some u) := by
  simp only [V] at h
  obtain ⟨q, cap, rfl, _, _, h3, h4⟩ := h
  refine ⟨q, cap, rfl, fun hq => (h3 hq).1, fun a0 hq => ?_⟩
  rcases h4 a0 hq with h5 | ⟨h5, _, _, vs, h6, h7⟩
  · refine .inl ?_
    cases xs with
    | nil => simpa using hn.symm
    | cons _ _ => simp [ints] at h5
  · rw [VL_ints h6] at h7
    exact .inr ⟨h5, h7⟩
/-- What a list of numbers of bytes is told of. -/
theorem VL_byt {f : Pl} {X : Nat → Prop} {w : World} (s : ByteArray) : VL f X w (ints .u8 (byt s)) ((byt s).map (Value.int .u8)) := VL_ints_mk _
section
variable {P : Program} {L : List (Nat × TI)} {C : Ctx} {ops : Array Oper} {draw : Bool} {Q : AQ} {s0 : St} {tr : List TE} {e : Nat → Option A} {h : Nat → Reg} {n : Nat}
/-- A text of bytes that are only read. -/
theorem RG.bstr (hT : TOk P L) {d : Option Tmp} {src dst el : TypeId} {x : Operand} {ty : TypeId} {pos : String} {af : Array Edge} {g : Option (Nat × Bool)} {m a1 b1 a2 b2 a3 b3 : Nat} {c1 c2 c3 : Bool} {z1 z2 z3 : List A} {xs : List Int} {r : ByteArray}
    (ho : ops[tr.length]? = some ⟨d, .convert src dst x, ty, pos, af, g⟩) (hg : wantA ops g e = some true) (hx : evE e x = some (.ro m (ints .u8 xs))) (hn : xs.length = m)
    (hs : look L src = some ⟨.slice el, a1, b1, c1, z1⟩) (hel : look L el = some ⟨.int .u8, a2, b2, c2, z2⟩) (hds : look L dst = some ⟨.string, a3, b3, c3, z3⟩) (hd : dOk C d = true) (hr' : unb xs = r)
    (hr : RG P C ops draw Q s0 (⟨fpOf ops ⟨d, .convert src dst x, ty, pos, af, g⟩ [], d, ⟨some (.val (.string r)), [], 0⟩, n⟩ :: tr) ⟨putd d (some (.val (.string r))) e, h, n⟩) : RG P C ops draw Q s0 tr ⟨e, h, n⟩ := by
  subst hr'
  refine RG.yld ho hg (fun ev hev f X w ρ hρ => ?_) hd rfl hr
  obtain ⟨q, cap, e1, e2, e3⟩ := ro_bytes (hρ x _ ((hev x (by simp [Op.operands])).trans hx)) hn
  obtain ⟨u1, k1, k2, _⟩ := look_kind hT hs
  obtain ⟨u2, k3, k4, _⟩ := look_kind hT hel
  obtain ⟨u3, k5, k6, _⟩ := look_kind hT hds
  obtain rfl := kindOf_slice k2
  obtain rfl := kindOf_int k4
  obtain rfl := kindOf_string k6
  refine Yld.mk (v := .string (unb xs)) (run_v ?_) (by simp only [V])
  rw [e1, run_convert_bytes_string w src dst el q m cap k1 k3 k5]
  exact bytes_run hn e2 e3
/-- A text of own bytes. -/
theorem RG.bstrS (hT : TOk P L) {d : Option Tmp} {src dst el : TypeId} {x : Operand} {ty : TypeId} {pos : String} {af : Array Edge} {g : Option (Nat × Bool)} {m a1 b1 a2 b2 a3 b3 : Nat} {c1 c2 c3 : Bool} {z1 z2 z3 : List A} {xs : List Int} {k off : Nat} {p : List Nat} {c : List A} {r : ByteArray}
    (ho : ops[tr.length]? = some ⟨d, .convert src dst x, ty, pos, af, g⟩) (hg : wantA ops g e = some true) (hx : evE e x = some (.sl k p 1 off m)) (hk : (h k).get p = some c) (hc : (c.drop off).take (m * 1) = ints .u8 xs) (hn : xs.length = m)
    (hs : look L src = some ⟨.slice el, a1, b1, c1, z1⟩) (hel : look L el = some ⟨.int .u8, a2, b2, c2, z2⟩) (hds : look L dst = some ⟨.string, a3, b3, c3, z3⟩) (hd : dOk C d = true) (hr' : unb xs = r)
    (hr : RG P C ops draw Q s0 (⟨fpOf ops ⟨d, .convert src dst x, ty, pos, af, g⟩ [k], d, ⟨some (.val (.string r)), [], 0⟩, n⟩ :: tr) ⟨putd d (some (.val (.string r))) e, h, n⟩) : RG P C ops draw Q s0 tr ⟨e, h, n⟩ := by
  subst hr'
  refine RG.step (s := ⟨e, h, n⟩) ⟨fpOf ops ⟨d, .convert src dst x, ty, pos, af, g⟩ [k], d, ⟨some (.val (.string (unb xs))), [], 0⟩, n⟩ rfl (wstep_of ho rfl hg ?_) hr
  intro s fr f a w ha hfr hrel next Q' hQ' hnext
  obtain ⟨_, h1, h2⟩ := ha.parts
  have hx' : evE s.e x = some (.sl k p 1 off m) := (h1 x (by simp [Op.operands])).trans hx
  have hk' : (s.h k).get p = some c := by rw [h2 k (by simp)]; exact hk
  obtain ⟨q, cap, e1, e2, e3⟩ := sl_cells hrel hk' hc (hrel.ev hx')
  obtain ⟨u1, k1, k2, _⟩ := look_kind hT hs
  obtain ⟨u2, k3, k4, _⟩ := look_kind hT hel
  obtain ⟨u3, k5, k6, _⟩ := look_kind hT hds
  obtain rfl := kindOf_slice k2
  obtain rfl := kindOf_int k4
  obtain rfl := kindOf_string k6
  have hrun : (execOp a.eval ⟨d, .convert src dst x, ty, pos, af, g⟩).run P w = .ok (.value (.string (unb xs))) w := by
    refine run_v ?_
    rw [e1, run_convert_bytes_string w src dst el q m cap k1 k3 k5]
    refine bytes_run hn e2 (fun a0 h0 => .inr ?_)
    obtain ⟨e4, vs, e5, e6⟩ := e3 a0 h0
    rw [VL_ints e5] at e6
    exact ⟨e4, e6⟩
  unfold Oper.wp
  rw [hrun]
  refine hnext _ _ f ?_
  exact { hrel.put hd (o := some (.val (.string (unb xs)))) (v := .string (unb xs)) (fun y hy => by simp only [Option.some.injEq] at hy; subst hy; simp only [V]) with fr := fun k hk => hrel.fr k hk.1 }
/-- The bytes of a text. -/
theorem RG.strb (hT : TOk P L) {d : Option Tmp} {src dst el : TypeId} {x : Operand} {ty : TypeId} {pos : String} {af : Array Edge} {g : Option (Nat × Bool)} {m a1 b1 a2 b2 a3 b3 : Nat} {c1 c2 c3 : Bool} {z1 z2 z3 : List A} {k3 : TK} {b : ByteArray}
    (ho : ops[tr.length]? = some ⟨d, .convert src dst x, ty, pos, af, g⟩) (hg : wantA ops g e = some true) (hx : evE e x = some (.val (.string b))) (hm : b.size = m) (hsz : m ≤ 9223372036854775807)
    (hs : look L src = some ⟨k3, a1, b1, c1, z1⟩) (hds : look L dst = some ⟨.slice el, a2, b2, c2, z2⟩) (hel : look L el = some ⟨.int .u8, a3, b3, c3, z3⟩) (hd : dOk C d = true)
    (hr : RG P C ops draw Q s0 (⟨fpOf ops ⟨d, .convert src dst x, ty, pos, af, g⟩ [], d, ⟨some (.ro m (ints .u8 (byt b))), [], 0⟩, n⟩ :: tr) ⟨putd d (some (.ro m (ints .u8 (byt b)))) e, h, n⟩) : RG P C ops draw Q s0 tr ⟨e, h, n⟩ := by
  subst hm
  refine RG.step (s := ⟨e, h, n⟩) ⟨fpOf ops ⟨d, .convert src dst x, ty, pos, af, g⟩ [], d, ⟨some (.ro b.size (ints .u8 (byt b))), [], 0⟩, n⟩ rfl (wstep_of ho rfl hg ?_) hr
  intro s fr f a w ha hfr hrel next Q' hQ' hnext
  obtain ⟨_, h1, h2⟩ := ha.parts
  have hx' : evE s.e x = some (.val (.string b)) := (h1 x (by simp [Op.operands])).trans hx
  have ex := (hrel.ev hx').val
  obtain ⟨u1, k1, k2, _⟩ := look_kind hT hs
  obtain ⟨u2, k3, k4, _⟩ := look_kind hT hds
  obtain ⟨u3, k5, k6, _⟩ := look_kind hT hel
  obtain rfl := kindOf_slice k4
  obtain rfl := kindOf_int k6
  have hrun : (execOp a.eval ⟨d, .convert src dst x, ty, pos, af, g⟩).run P w = .ok (.value (.slice (some ⟨w.heap.size, 0, none⟩) b.size (grownCap w b.size 0 el))) (Lib.bytesWorld w el b) := by
    refine run_v ?_
    rw [ex]
    exact Lib.run_convert_string_bytes w src dst el b k1 k3 k5
  have hkp : Kp (fun _ => False) w (Lib.bytesWorld w el b) := Kp.of_below (Lib.bytesWorld_below w el b)
  have hrel2 := hrel.keep hkp
  have hml : maxLen = 9223372036854775807 := by decide
  have hX : ¬ C.X s.h f w.heap.size := by
    rintro (hb | hb)
    · obtain ⟨arr, el, h3⟩ := hrel.live_block hb
      exact absurd (Array.getElem?_eq_some_iff.1 h3).1 (Nat.lt_irrefl _)
    · have := (hrel.y _ hb).1
      have := hrel.kp.size
      omega
  unfold Oper.wp
  rw [hrun]
  refine hnext _ _ f ?_
  refine { hrel2.put hd (o := some (.ro b.size (ints .u8 (byt b)))) (v := .slice (some ⟨w.heap.size, 0, none⟩) b.size (grownCap w b.size 0 el)) (fun y hy => ?_) with fr := fun k hk => hrel.fr k hk.1 }
  simp only [Option.some.injEq] at hy
  subst hy
  simp only [V]
  refine ⟨_, _, rfl, grownCap_ge _ _ _ _, grownCap_le_maxLen _ _ _ _ (by omega), (fun h => by cases h), fun q hq => ?_⟩
  simp only [Option.some.injEq] at hq
  subst hq
  refine .inr ⟨rfl, hX, by rw [Lib.bytesWorld_size]; exact Nat.lt_succ_self _, (byt b).map (Value.int .u8), VL_byt b, fun j u hj => ?_⟩
  rw [Nat.zero_add]
  rw [List.getElem?_map] at hj
  obtain ⟨z, hz, rfl⟩ := Option.map_eq_some_iff.1 hj
  unfold byt at hz
  rw [List.getElem?_map] at hz
  obtain ⟨c, hc, rfl⟩ := Option.map_eq_some_iff.1 hz
  have hlt : j < b.size := by
    have := (List.getElem?_eq_some_iff.1 hc).1
    rw [Array.length_toList] at this
    exact this
  rw [Lib.bytesWorld_cell w el b j hlt, List.getD_eq_getElem?_getD, hc]
  rfl
/-- What nothing is told as. -/
def A.no : A := .ro 9223372036854775808 []
theorem V.no {f : Pl} {X : Nat → Prop} {w : World} {v : Value} (h : V f X w A.no v) : False := by
  simp only [A.no, V] at h
  obtain ⟨_, cap, _, h1, h2, _⟩ := h
  have : maxLen = 9223372036854775807 := by decide
  omega
theorem AW.absurd {c : Code} {s : St} (d : Nat) (hd : s.e d = some A.no) : AW P C c Q s := fun f a w hr => (hr.e d _ hd).no.elim
/-- Behind what does not come back, in the order of the text. -/
theorem RG.dead {s : St} (d : Nat) (hd : s.e d = some A.no) (hl : Nat.blt tr.length ops.size = true)
    (hr : RG P C ops draw Q s0 (⟨⟨[d], [], []⟩, none, ⟨none, [], 0⟩, s.n⟩ :: tr) s) : RG P C ops draw Q s0 tr s := by
  refine RG.step (s := s) ⟨⟨[d], [], []⟩, none, ⟨none, [], 0⟩, s.n⟩ rfl ?_ hr
  refine ⟨fun x hx => (by cases hx), ?_⟩
  intro s' fr f a w ha _ hfr hrel Q' hQ'
  have h1 : s'.e d = some A.no := (ha.1 d (by simp)).trans hd
  exact ((hrel.e d _ h1).no).elim
end
/-- Of two facts on package variables, both. -/
def GI.and (a b : GI) : GI where
  G := max a.G b.G
  p := fun w => a.p w ∧ b.p w
  st := fun w w' h hp => ⟨a.st w w' (fun i hi => h i (by omega)) hp.1, b.st w w' (fun i hi => h i (by omega)) hp.2⟩
  low := fun w hp => by have := a.low w hp.1; have := b.low w hp.2; omega
/-- A package variable that holds a value of an interface. -/
def GI.ifc (P : Program) (name : String) (g : Nat) (hg : P.globalNamed name = some g) : GI where
  G := g + 1
  p := fun w => ∃ tp v, w.var? P name = some #[.iface tp v]
  st := fun w w' h hp => by
    obtain ⟨tp, v, hp⟩ := hp
    refine ⟨tp, v, ?_⟩
    unfold World.var? at hp ⊢
    rw [hg] at hp ⊢
    simp only [Option.bind_some] at hp ⊢
    rw [h g (Nat.lt_succ_self g)]; exact hp
  low := fun w hp => by
    obtain ⟨tp, v, hp⟩ := hp
    unfold World.var? at hp
    rw [hg] at hp
    simp only [Option.bind_some] at hp
    split at hp
    · rename_i cs' a b hh
      exact (Array.getElem?_eq_some_iff.1 hh).1
    · cases hp
/-- A contract where more is known of package variables. -/
theorem FC.gi {P : Program} {I J : GI} {g : FuncId} {args : List A} {pre post : List Reg} {r : A} {Pp : List PanicEntry → Prop} (hp : ∀ w, J.p w → I.p w) (hG : I.G ≤ J.G) (hc : FC P I g args pre r post Pp) : FC P J g args pre r post Pp :=
  ⟨hc.enter, hc.len, fun f0 Y w vs k1 k2 h1 h2 h3 h4 h5 => hc.call f0 Y w vs (hp w k1) (fun b hb => Nat.le_trans hG (k2 b hb)) h1 h2 h3 h4 h5⟩
end Go.Abs
namespace Go.Abs
open Go.RowKit
/-- A nil slice is an own slice of nothing. -/
theorem Sub.nil {C : Ctx} {s : St} (d st : Nat) (hd : s.e d = some (.val (.slice none 0 0))) : Sub C s ⟨put d (some (.sl s.n [] st 0 0)) s.e, hput s.n (.one []) s.h, s.n + 1⟩ := by
  intro f a w hr
  obtain ⟨r1, r2⟩ := hr.newNil (n0 := s.n) (Nat.le_refl _)
  refine ⟨_, { r1 with e := fun i v hv => ?_, fr := fun k hk => r1.fr k ⟨Nat.le_of_succ_le hk, by have : s.n + 1 ≤ k := hk; omega⟩ }⟩
  by_cases hi : i = d
  · subst hi
    dsimp only at hv
    rw [put_same] at hv
    cases hv
    have := (hr.e i _ hd).val
    rw [this]
    simp only [V]
    exact .inl ⟨by simp [newPl], by simp⟩
  · dsimp only at hv
    rw [put_ne _ _ hi] at hv
    exact r1.e i v hv
/-- Own numbers that are only read from now on. -/
theorem frzI {C : Ctx} {s : St} {ks : List Nat} {k n : Nat} {kk : IntKind} {xs : List Int} (hk : s.h k = .one (ints kk xs)) (hks : k ∈ ks) (hn : n = xs.length) : Frz C s ks (.sl k [] 1 0 n) (.ro xs.length (ints kk xs)) := by
  subst hn
  refine Frz.sl (c := ints kk xs) (by rw [hk]; rfl) hks ?_ (ints_free _ _ _)
  rw [List.drop_zero, Nat.mul_one, List.take_of_length_le (by rw [ints_length]; exact Nat.le_refl _)]
/-- Own cells that are only read from now on. -/
theorem frzC {C : Ctx} {s : St} {ks : List Nat} {k n st : Nat} {c : List A} (hk : s.h k = .one c) (hks : k ∈ ks) (hn : c.length = n * st) (hf : ltL 0 c = true) : Frz C s ks (.sl k [] st 0 n) (.ro n c) := by
  refine Frz.sl (c := c) (by rw [hk]; rfl) hks ?_ hf
  rw [List.drop_zero, List.take_of_length_le (by omega)]
/-- Cells of data, one after the other. -/
def flC {α : Type} (cl : α → List A) : List α → List A
  | [] => []
  | x :: l => cl x ++ flC cl l
theorem flC_append {α : Type} (cl : α → List A) : ∀ l m : List α, flC cl (l ++ m) = flC cl l ++ flC cl m
  | [], m => rfl
  | x :: l, m => by rw [List.cons_append, flC, flC, flC_append cl l m, List.append_assoc]
theorem flC_len {α : Type} {cl : α → List A} {st : Nat} (hst : ∀ x, (cl x).length = st) : ∀ l : List α, (flC cl l).length = l.length * st
  | [] => by simp [flC]
  | x :: l => by rw [flC, List.length_append, hst, flC_len hst l, List.length_cons, Nat.succ_mul]; omega
theorem dropO_add : ∀ (a b : List A) (n : Nat), a.length = n → dropO n (a ++ b) = some b
  | [], b, n, h => by subst h; rfl
  | x :: a, b, n, h => by subst h; exact dropO_add a b a.length rfl
theorem dropO_comp : ∀ (a b : List A) (n m : Nat), a.length = n → dropO (n + m) (a ++ b) = dropO m b
  | [], b, n, m, h => by subst h; simp
  | x :: a, b, n, m, h => by
    subst h
    rw [List.length_cons, Nat.succ_add]
    exact dropO_comp a b a.length m rfl
theorem flC_at {α : Type} {cl : α → List A} {st : Nat} (hst : ∀ x, (cl x).length = st) : ∀ (l : List α) (i : Nat) (x : α), l[i]? = some x → dropO (i * st) (flC cl l) = some (cl x ++ flC cl (l.drop (i + 1)))
  | [], i, x, h => by simp at h
  | y :: l, 0, x, h => by
    simp only [List.getElem?_cons_zero, Option.some.injEq] at h
    subst h
    rw [Nat.zero_mul]; rfl
  | y :: l, i + 1, x, h => by
    rw [Nat.succ_mul, Nat.add_comm, flC, dropO_comp _ _ _ _ (hst y)]
    exact flC_at hst l i x (by simpa using h)
theorem flC_free {α : Type} {cl : α → List A} {m : Nat} (h : ∀ x, ltL m (cl x) = true) : ∀ l : List α, ltL m (flC cl l) = true
  | [] => rfl
  | x :: l => ltL_append (h x) (flC_free h l)
theorem flC_cell {α : Type} {cl : α → List A} (h : ∀ x, (cl x).all A.cell = true) : ∀ l : List α, (flC cl l).all A.cell = true
  | [] => rfl
  | x :: l => by rw [flC, List.all_append, h x, flC_cell h l]; rfl
section
variable {C : Ctx} {s t : St}
def SubEr (σ : Nat → Nat) (e e' : Nat → Option A) : Prop := ∀ i v, e i = some v → e' i = some (v.renP (fun k p => (σ k, p)))
def SubHr (σ : Nat → Nat) (h h' : Nat → Reg) : Prop := ∀ k p c, (h k).get p = some c → (h' (σ k)).get p = some (renPL (fun k p => (σ k, p)) c)
theorem SubEr.no (σ : Nat → Nat) (e' : Nat → Option A) : SubEr σ noE e' := fun i v h => by cases h
theorem SubEr.put {σ : Nat → Nat} {d : Nat} {v : A} {e e' : Nat → Option A} (h1 : e' d = some (v.renP (fun k p => (σ k, p)))) (h2 : SubEr σ e e') : SubEr σ (Go.Abs.put d (some v) e) e' := by
  intro i u hu
  by_cases hi : i = d
  · subst hi; rw [put_same] at hu; cases hu; exact h1
  · rw [put_ne _ _ hi] at hu; exact h2 i u hu
theorem SubHr.no (σ : Nat → Nat) (h' : Nat → Reg) : SubHr σ noH h' := fun k p c h => by simp [noH, Reg.get] at h
theorem SubHr.put {σ : Nat → Nat} {k : Nat} {c : List A} {h h' : Nat → Reg} (h1 : h' (σ k) = .one c) (hc : ltL 0 c = true) (h2 : SubHr σ h h') : SubHr σ (hput k (.one c) h) h' := by
  intro j p c' hj
  by_cases hk : j = k
  · subst hk
    rw [hput_same] at hj
    rw [h1]
    have e : c' = c := by
      cases p with
      | nil => simpa [Reg.get] using hj.symm
      | cons _ _ => simp [Reg.get] at hj
    rw [e] at hj ⊢
    rw [hj, renPL_free _ c hc]
  · rw [hput_ne _ _ hk] at hj; exact h2 j p c' hj
/-- Under other numbers. -/
theorem Sub.renB (σ : Nat → Nat) (he : SubEr σ t.e s.e) (hh : SubHr σ t.h s.h) (hinj : ∀ k k', σ k = σ k' → k = k') (hfr : ∀ k, t.n ≤ k → s.n ≤ σ k) (hq : ∀ k, k < C.q → σ k = k) : Sub C s t :=
  Sub.ren (fun k p => (σ k, p)) he hh (fun k p k' p' _ _ h => ⟨hinj k k' (congrArg Prod.fst h), congrArg Prod.snd h⟩) (fun k _ h => hfr k h) (fun k p h => by rw [hq k h])
end
section
variable {P : Program} {L : List (Nat × TI)} {C : Ctx} {ops : Array Oper} {draw : Bool} {Q : AQ} {s0 : St} {tr : List TE} {e : Nat → Option A} {h : Nat → Reg} {n : Nat}
/-- The place of an element of an array that is only read. -/
theorem RG.idxRp (hT : TOk P L) {d : Option Tmp} {t : TypeId} {x i : Operand} {ty : TypeId} {pos : String} {af : Array Edge} {g : Option (Nat × Bool)} {n1 : Nat} {l l' : List A} {kk : IntKind} {j : Int} {el a1 b1 st b2 : Nat} {c1 c2 : Bool} {z1 z2 : List A} {k2 : TK}
    (ho : ops[tr.length]? = some ⟨d, .indexAddr t x i, ty, pos, af, g⟩) (hg : wantA ops g e = some true) (hx : evE e x = some (.rp l)) (hi : evE e i = some (.val (.int kk j))) (ht : Go.Abs.look L t = some ⟨.array n1 el, a1, b1, c1, z1⟩) (hte : Go.Abs.look L el = some ⟨k2, st, b2, c2, z2⟩)
    (hl : dropO (iNat j * st) l = some l') (hb : 0 ≤ j ∧ j < n1) (hd : dOk C d = true)
    (hr : RG P C ops draw Q s0 (⟨fpOf ops ⟨d, .indexAddr t x i, ty, pos, af, g⟩ [], d, ⟨some (.rp l'), [], 0⟩, n⟩ :: tr) ⟨putd d (some (.rp l')) e, h, n⟩) : RG P C ops draw Q s0 tr ⟨e, h, n⟩ := by
  refine RG.yld ho hg (fun ev hev f X w ρ hρ => ?_) hd rfl hr
  have e0 := hρ x _ ((hev x (by simp [Op.operands])).trans hx)
  have e1 := (hρ i _ ((hev i (by simp [Op.operands])).trans hi)).val
  obtain ⟨u, k1, k2, k3⟩ := look_kind hT ht
  obtain rfl := kindOf_array k2
  have k4 := TIof.size (hT _ _ hte)
  dsimp only at k4
  obtain ⟨rfl, _⟩ := dropO_spec hl
  obtain ⟨q, h2, h3, h4⟩ := rp_drop (iNat j * st) e0
  refine Yld.mk (run_v ?_) h4
  simp [Instr.indexAt, asIntOf, e1, k3, h2, Instr.sureAddr, hb, k4, addr_add h3, iNat_eq]
end
section
/-- The objects of ks are only read from now on. -/
theorem Rel.frz {C : Ctx} {s : St} {fr : Nat → Prop} {f : Pl} {act : Act} {w : World} (hr : Rel C s fr f act w) (ks : List Nat) : Rel C ⟨s.e, dropAll ks s.h, s.n⟩ fr f act w := by
  refine { N := hr.N, defers := hr.defers, e := fun i x hx => ?_, h := fun k p c hc => ?_, inj := ?_, kp := hr.kp, new := fun b hb => ?_, y := hr.y, fr := hr.fr, ext := hr.ext, dom := hr.dom }
  · exact (hr.e i x hx).mono (Ext.refl f) (fun b _ hb => X_drop b hb) (Kp.refl (fun _ => False) w) (fun _ _ h => h.elim)
  · obtain ⟨h1, _⟩ := dropAll_get hc
    rcases hr.h k p c h1 with h2 | ⟨b, arr, el, h2, h3, h4, h5⟩
    · exact .inl h2
    · exact .inr ⟨b, arr, el, h2, h3, h4, h5.mono (Ext.refl f) (fun b _ hb => X_drop b hb) (Kp.refl (fun _ => False) w) (fun _ _ h => h.elim)⟩
  · intro k p k' p' b h1 h2 h3 h4
    obtain ⟨c, hc⟩ := Option.ne_none_iff_exists'.1 h1
    obtain ⟨c', hc'⟩ := Option.ne_none_iff_exists'.1 h2
    exact hr.inj k p k' p' b (by rw [(dropAll_get hc).1]; simp) (by rw [(dropAll_get hc').1]; simp) h3 h4
  · obtain ⟨k, p, _, h1, h2⟩ := dropAll_live hb
    exact hr.new b ⟨k, p, h1, h2⟩
/-- Given away: where the objects of fs are only read from now on, a is told as a'. -/
def FView (h : Nat → Reg) (fs : List Nat) (a a' : A) : Prop :=
  ∀ (C : Ctx) (s : St) (fr : Nat → Prop) (f : Pl) (act : Act) (w : World), (∀ k ∈ fs, s.h k = h k) → Rel C s fr f act w → ∀ v, V f (C.X s.h f) w a v → V f (C.X (dropAll fs s.h) f) w a' v
inductive FViews (h : Nat → Reg) (fs : List Nat) : List A → List A → Prop
  | nil : FViews h fs [] []
  | cons {a a' : A} {l l' : List A} : FView h fs a a' → FViews h fs l l' → FViews h fs (a :: l) (a' :: l')
theorem FView.refl (h : Nat → Reg) (fs : List Nat) (a : A) : FView h fs a a :=
  fun C s fr f act w _ hr v hv => hv.mono (Ext.refl f) (fun b _ hb => X_drop b hb) (Kp.refl (fun _ => False) w) (fun _ _ h => h.elim)
theorem FViews.VL {h : Nat → Reg} {fs : List Nat} {C : Ctx} {s : St} {fr : Nat → Prop} {f : Pl} {act : Act} {w : World} (hh : ∀ k ∈ fs, s.h k = h k) (hr : Rel C s fr f act w) : ∀ {l l' : List A} {vs : List Value}, FViews h fs l l' → VL f (C.X s.h f) w l vs → Go.Abs.VL f (C.X (dropAll fs s.h) f) w l' vs
  | _, _, vs, .nil, hv => by rw [hv.unnil]; exact Go.Abs.VL.nil
  | _, _, vs, .cons h1 h2, hv => by obtain ⟨v, t, rfl, h3, h4⟩ := hv.uncons; exact Go.Abs.VL.cons (h1 C s fr f act w hh hr v h3) (h2.VL hh hr h4)
theorem FViews.reflL (h : Nat → Reg) (fs : List Nat) : ∀ l : List A, FViews h fs l l
  | [] => .nil
  | x :: l => .cons (FView.refl h fs x) (FViews.reflL h fs l)
theorem FView.sl {h : Nat → Reg} {fs : List Nat} {k st off n n' : Nat} {p : List Nat} {c l l' : List A} (hk : (h k).get p = some c) (hks : k ∈ fs) (hl : (c.drop off).take (n * st) = l) (hv : FViews h fs l l') (hfree : ltL 0 l' = true) (hn : n = n') : FView h fs (.sl k p st off n) (.ro n' l') := by
  subst hn
  intro C s fr f act w hh hr v hv'
  subst hl
  have hk' : (s.h k).get p = some c := by rw [hh k hks]; exact hk
  simp only [V] at hv' ⊢
  rcases hv' with ⟨h1, rfl, rfl, rfl⟩ | ⟨b, cap, h1, rfl, h3, h4, arr0, el0, z0, h5, h6⟩
  · refine ⟨none, 0, rfl, Nat.le_refl _, Nat.zero_le _, fun _ => ⟨rfl, rfl, ?_⟩, fun q hq => by cases hq⟩
    simp only [Nat.zero_mul, List.take_zero] at hv
    cases hv; rfl
  · obtain ⟨arr, el, g1, g2, g3⟩ := hr.cells hk' h1
    have hlive : Live s.h f b := ⟨k, p, by rw [hk']; simp, h1⟩
    refine ⟨_, cap, rfl, h3, h4, (fun hq => by cases hq), fun q hq => ?_⟩
    simp only [Option.some.injEq] at hq
    subst hq
    refine .inr ⟨rfl, ?_, (Array.getElem?_eq_some_iff.1 g1).1, ((arr.toList.take c.length).drop off).take (n * st), ?_, ?_⟩
    · rintro (hb | hb)
      · obtain ⟨k', p', e1, e2, e3⟩ := dropAll_live hb
        have := hr.inj k' p' k p b e2 (by rw [hk']; simp) e3 h1
        exact e1 (this.1 ▸ hks)
      · have e1 := hr.y b hb
        rcases hr.new b hlive with h | h
        · omega
        · exact e1.2 h
    · exact VL.toNo _ hfree _ (hv.VL hh hr ((g3.drop off).take (n * st)))
    · intro j u hj
      rw [List.getElem?_take] at hj
      split at hj
      · rw [List.getElem?_drop, List.getElem?_take] at hj
        split at hj
        · simp only [World.cell?, g1]
          simpa using hj
        · cases hj
      · cases hj
theorem dropAll_congr {h h' : Nat → Reg} {k : Nat} (e : h' k = h k) : ∀ fs : List Nat, dropAll fs h' k = dropAll fs h k
  | [] => e
  | j :: fs => by
    simp only [dropAll]
    by_cases hk : k = j
    · subst hk; rw [hput_same, hput_same]
    · rw [hput_ne _ _ hk, hput_ne _ _ hk]; exact dropAll_congr e fs
theorem puts_app (h : Nat → Reg) : ∀ (es : List (Nat × Reg)) (fs : List Nat), puts (es ++ fs.map (fun k => (k, Reg.gone))) h = puts es (dropAll fs h)
  | [], [] => rfl
  | [], k :: fs => by
    have := puts_app h [] fs
    simp only [List.nil_append, puts] at this
    simp only [List.nil_append, List.map_cons, puts, dropAll, this]
  | (k, r) :: es, fs => by simp only [List.cons_append, puts, puts_app h es fs]
variable {P : Program} {L : List (Nat × TI)} {C : Ctx} {ops : Array Oper} {draw : Bool} {Q : AQ} {s0 : St} {tr : List TE} {e : Nat → Option A} {h : Nat → Reg} {n : Nat}
/-- A call by its contract, to which the objects of fs are given away. -/
theorem RG.callG {d : Option Tmp} {fo : Operand} {xs : Array Operand} {ts : Array TypeId} {ty : TypeId} {pos : String} {af : Array Edge} {g : Option (Nat × Bool)} {gid : FuncId} {first as caps args : List A} {pre post : List Reg} {r : A} {r' : A} {Pp : List PanicEntry → Prop}
    (ho : ops[tr.length]? = some ⟨d, .call ⟨.value fo, xs, ts⟩, ty, pos, af, g⟩) (hg : wantA ops g e = some true) (hf : evE e fo = some (.fn gid first caps)) (hx : mapEv (evE e) xs.toList = some as)
    (hc : FC P C.I gid args pre r post Pp) (ks fs : List Nat) (hks : ks.length = pre.length) (hok : ksOk n ks = true) {args' : List A} (hview : FViews h fs (first ++ as ++ caps) args') (hargs : args' = renL (sig ks n) args) (hlt : ltL pre.length args = true)
    {es es' : List (Nat × Reg)} (hpre : PreOk (sig ks n) (dropAll fs h) pre.length 0 pre) (heff : EffOk (sig ks n) 0 post es) (hes : es ++ fs.map (fun k => (k, Reg.gone)) = es') (hp : ∀ ch, Pp ch → Q.p ch) (hd : dOk C d = true) (hr' : r.ren (sig ks n) = r') {m1 : Nat} (hm1 : post.length - pre.length = m1)
    (hr : RG P C ops draw Q s0 (⟨fpOf ops ⟨d, .call ⟨.value fo, xs, ts⟩, ty, pos, af, g⟩ (ks ++ fs), d, ⟨some r', es', m1⟩, n⟩ :: tr) ⟨putd d (some r') e, puts es' h, n + m1⟩) : RG P C ops draw Q s0 tr ⟨e, h, n⟩ := by
  subst hr' hm1 hargs hes
  refine RG.step (s := ⟨e, h, n⟩) ⟨fpOf ops ⟨d, .call ⟨.value fo, xs, ts⟩, ty, pos, af, g⟩ (ks ++ fs), d, ⟨some (r.ren (sig ks n)), es ++ fs.map (fun k => (k, Reg.gone)), post.length - pre.length⟩, n⟩ rfl (wstep_of ho rfl hg ?_) hr
  intro s fr f a w ha hfr hrel next Q' hQ' hnext
  obtain ⟨_, h1, h2⟩ := ha.parts
  have hf' : evE s.e fo = some (.fn gid first caps) := (h1 fo (by simp [Op.operands, Call.operands])).trans hf
  have hx' : mapEv (evE s.e) xs.toList = some as := by
    rw [mapEv_congr (ev := evE s.e) (ev' := evE e) xs.toList (fun x hx => h1 x (by simp [Op.operands, Call.operands] at hx ⊢; exact .inr hx))]; exact hx
  have hpre' : PreOk (sig ks n) (dropAll fs s.h) pre.length 0 pre := hpre.congr (fun j hj => by rw [Nat.zero_add]; exact dropAll_congr (h2 _ (by simp [sig_lt (n := n) (show j < ks.length by omega)])) fs)
  have hvs := mapEv_spec (f := f) (X := C.X s.h f) (w := w) (ρ := a.eval) (fun x v hx => hrel.ev hx) hx'
  have hfv := hrel.ev hf'
  simp only [V] at hfv
  obtain ⟨fs', cs, k1, k2, k3⟩ := hfv
  have hall : VL f (C.X (dropAll fs s.h) f) w (renL (sig ks n) args) (fs' ++ xs.toList.map a.eval ++ cs) := hview.VL (fun k hk => h2 k (by simp [hk])) hrel ((k2.append hvs).append k3)
  have hcall := call_run (hrel.frz fs) hc hks hok (fun k hk1 hk2 => hfr k ⟨hk1, hk2⟩) hpre' heff hlt (Xa := C.X (dropAll fs s.h) f) (fun b hb => by obtain ⟨k, _, p, h1, h2⟩ := hb; exact .inl ⟨k, p, h1, h2⟩) (fun b hb => hb) (.inl (fun b hb => hb)) hall
  unfold Oper.wp
  have hrun : (execOp a.eval ⟨d, .call ⟨.value fo, xs, ts⟩, ty, pos, af, g⟩).run P w = .ok (.enter gid (fs' ++ xs.toList.map a.eval ++ cs).toArray) w := by
    have e1 : (fs'.toArray ++ xs.map a.eval ++ cs.toArray) = (fs' ++ xs.toList.map a.eval ++ cs).toArray := by
      apply Array.ext'; simp
    simp only [execOp, resolve, k1, Deferred.ofValue, Sem.run_bind, Sem.run_pure, Result.andThen, invoke]
    rw [hc.enter, e1]
  rw [hrun, Oper.upon_enter]
  refine hcall.mono ?_
  intro en w' hen
  cases en with
  | outgrown => exact hen.elim
  | panicked ch => exact hQ' ch a w' ⟨hp ch hen.1, hen.2, hrel.defers⟩
  | returned v =>
    obtain ⟨f', g1, g2⟩ := hen
    rw [← puts_app] at g1 g2
    exact hnext _ _ f' { g1.put hd (o := some (r.ren (sig ks n))) (v := v) (fun y hy => by simp only [Option.some.injEq] at hy; subst hy; exact g2) with fr := g1.fr }
end
section
variable {P : Program} {L : List (Nat × TI)} {C : Ctx} {ops : Array Oper} {draw : Bool} {Q : AQ} {s0 : St} {tr : List TE} {e : Nat → Option A} {h : Nat → Reg} {n : Nat}
/-- A panic: behind it nothing is. -/
theorem RG.panic {z : Nat} {T : TypeId} {ty : TypeId} {pos : String} {af : Array Edge} {g : Option (Nat × Bool)}
    (ho : ops[tr.length]? = some ⟨none, .panic (.tmp z), ty, pos, af, g⟩) (hg : wantA ops g e = some true) (hx : e z = some (.ifc T (.agg []))) (hp : Q.p [{ v := .iface T (.agg #[]), recovered := false }])
    (hr : RG P C ops draw Q s0 (⟨fpOf ops ⟨none, .panic (.tmp z), ty, pos, af, g⟩ [], some z, ⟨some A.no, [], 0⟩, n⟩ :: tr) ⟨Go.Abs.put z (some A.no) e, h, n⟩) : RG P C ops draw Q s0 tr ⟨e, h, n⟩ := by
  refine RG.step (s := ⟨e, h, n⟩) ⟨fpOf ops ⟨none, .panic (.tmp z), ty, pos, af, g⟩ [], some z, ⟨some A.no, [], 0⟩, n⟩ rfl (wstep_of ho rfl hg ?_) hr
  intro s fr f a w ha hfr hrel next Q' hQ' hnext
  obtain ⟨_, h1, _⟩ := ha.parts
  have hx' : evE s.e (.tmp z) = some (.ifc T (.agg [])) := (h1 (.tmp z) (by simp [Op.operands])).trans hx
  have h2 := hrel.ev hx'
  simp only [V] at h2
  obtain ⟨u, h3, vs, rfl, h4⟩ := h2
  have h4 := VL.unnil h4
  subst h4
  unfold Oper.wp
  have hrun : (execOp a.eval ⟨none, .panic (.tmp z), ty, pos, af, g⟩).run P w = .halt (.panic (.iface T (.agg #[]))) w := by
    simp only [execOp, h3]
    rfl
  rw [hrun]
  exact hQ' _ a w ⟨hp, hrel.kp, hrel.defers⟩
end
end Go.Abs
namespace Go.Abs
open Go.RowKit
section
variable {P : Program} {C : Ctx} {Q : AQ} {s : St}
theorem AW.use {c : Code} {f : Pl} {a : Act} {w : World} {R : Exit → Act → World → Prop} (hr : Rel C s (From s.n) f a w) (h : AW P C c Q s) (hR : ∀ e a w, QL C Q e a w → R e a w) : c.wp P R a w :=
  wp_mono (h f a w hr) hR
/-- The code ends normally, in this state. -/
def QN (C : Ctx) (S : St) : AQ := ⟨fun e s => match e with | .normal => Sub C s S | _ => False, fun _ => False⟩
theorem QN.use {S : St} {R : Exit → Act → World → Prop} (h : ∀ f a w, Rel C S (From S.n) f a w → R .normal a w) : ∀ e a w, QL C (QN C S) e a w → R e a w := by
  intro e a w hh
  cases e with
  | normal => obtain ⟨s, f, h1, h2⟩ := hh; obtain ⟨f', h3⟩ := h1 f a w h2; exact h f' a w h3
  | exit id => obtain ⟨s, f, h1, h2⟩ := hh; exact h1.elim
  | goto l => obtain ⟨s, f, h1, h2⟩ := hh; exact h1.elim
  | ret => obtain ⟨s, f, h1, h2⟩ := hh; exact h1.elim
  | panic ch => exact hh.1.elim
  | outgrown => exact hh.elim
/-- The code ends normally or by a return, in this state. -/
def QR (C : Ctx) (S : St) : AQ := ⟨fun e s => match e with | .normal => Sub C s S | .ret => Sub C s S | _ => False, fun _ => False⟩
theorem QR.use {S : St} {R : Exit → Act → World → Prop} (h : ∀ f a w, Rel C S (From S.n) f a w → R .normal a w ∧ R .ret a w) : ∀ e a w, QL C (QR C S) e a w → R e a w := by
  intro e a w hh
  cases e with
  | normal => obtain ⟨s, f, h1, h2⟩ := hh; obtain ⟨f', h3⟩ := h1 f a w h2; exact (h f' a w h3).1
  | exit id => obtain ⟨s, f, h1, h2⟩ := hh; exact h1.elim
  | goto l => obtain ⟨s, f, h1, h2⟩ := hh; exact h1.elim
  | ret => obtain ⟨s, f, h1, h2⟩ := hh; obtain ⟨f', h3⟩ := h1 f a w h2; exact (h f' a w h3).2
  | panic ch => exact hh.1.elim
  | outgrown => exact hh.elim
/-- The code ends by a panic. -/
def QP (p : List PanicEntry → Prop) : AQ := ⟨fun _ _ => False, p⟩
theorem QP.use {p : List PanicEntry → Prop} {R : Exit → Act → World → Prop} (h : ∀ ch a w, Pan C p ch a w → R (.panic ch) a w) : ∀ e a w, QL C (QP p) e a w → R e a w := by
  intro e a w hh
  cases e with
  | normal => obtain ⟨s, f, h1, h2⟩ := hh; exact h1.elim
  | exit id => obtain ⟨s, f, h1, h2⟩ := hh; exact h1.elim
  | goto l => obtain ⟨s, f, h1, h2⟩ := hh; exact h1.elim
  | ret => obtain ⟨s, f, h1, h2⟩ := hh; exact h1.elim
  | panic ch => exact h ch a w hh
  | outgrown => exact hh.elim
/-- The frame at a function's beginning. -/
theorem Rel.entry {I : GI} {N : Nat} {args : List A} {f0 : Pl} {Y : Nat → Prop} {w : World} {vs : List Value} (hla : Nat.ble args.length N = true) (hgi : I.p w) (hlow : ∀ b, Live (regs []) f0 b → I.G ≤ b) (hfr : ∀ k, 0 ≤ k → ∀ p, f0 k p = none) (hY : ∀ b, Y b → b < w.heap.size ∧ ¬ Live (regs []) f0 b)
    (hHR : HR f0 (XOf (regs []) f0 Y) w (regs [])) (hInj : Inj (regs []) f0) (hargs : VL f0 (XOf (regs []) f0 Y) w args vs) :
    Rel ⟨w, Live (regs []) f0, Y, N, f0, 0, I, hgi, hlow, [], fun _ => none⟩ ⟨argE args, regs [], 0⟩ (From 0) f0 { tmps := vs.toArray ++ Array.replicate (N - vs.toArray.size) undef, defers := [] } w := by
  have hvl := hargs.length
  have hla := Nat.le_of_ble_eq_true hla
  have tget : ∀ i v, argE args i = some v → V f0 (XOf (regs []) f0 Y) w v ((vs.toArray ++ Array.replicate (N - vs.toArray.size) undef).getD i undef) := by
    intro i v hi
    rw [show argE args i = args[i]? from getO_eq args i] at hi
    obtain ⟨u, h1, h2⟩ := hargs.get hi
    have hlt := (List.getElem?_eq_some_iff.1 h1).1
    rw [Array.getD_eq_getD_getElem?, Array.getElem?_append_left (by simpa using hlt)]
    simpa [h1] using h2
  exact { N := by simp only [Array.size_append, List.size_toArray, Array.size_replicate]; show vs.length + (N - vs.length) = N; omega
          defers := ⟨rfl, fun _ _ h => by cases h⟩
          e := tget
          h := hHR
          inj := hInj
          kp := Kp.refl _ w
          new := fun b hb => .inr hb
          y := hY
          fr := fun k hk p => hfr k hk p
          ext := Ext.refl f0
          dom := hfr }
/-- The same frame, told anew from here on. -/
theorem Rel.fresh {f : Pl} {a : Act} {w : World} (hr : Rel C s (From s.n) f a w) (D : List Deferred) (T : Nat → Option Value) (a2 : Act) (hd : a2.defers = D ∧ ∀ i v, T i = some v → a2.tmps.getD i undef = v) (hN : a2.tmps.size = a.tmps.size)
    (he : ∀ i v, s.e i = some v → a2.tmps.getD i undef = a.tmps.getD i undef) : Rel ⟨w, Live s.h f, C.Y, C.N, f, s.n, C.I, hr.gi, fun b hb => hr.high hb, D, T⟩ s (From s.n) f a2 w :=
  { N := hN.trans hr.N
    defers := hd
    e := fun i v hv => by rw [he i v hv]; exact hr.e i v hv
    h := hr.h
    inj := hr.inj
    kp := Kp.refl _ w
    new := fun b hb => .inr hb
    y := fun b hb => by
      have h1 := hr.y b hb
      refine ⟨Nat.lt_of_lt_of_le h1.1 hr.kp.size, fun hl => ?_⟩
      rcases hr.new b hl with h | h
      · omega
      · exact h1.2 h
    fr := hr.fr
    ext := Ext.refl f
    dom := fun k hk p => hr.fr k hk p }
theorem VL_vals {f : Pl} {X : Nat → Prop} {w : World} : ∀ {l vs : List Value}, VL f X w (l.map A.val) vs → vs = l
  | [], vs, h => h.unnil
  | x :: l, vs, h => by
    obtain ⟨v, t, rfl, h1, h2⟩ := h.uncons
    rw [h1.val, VL_vals h2]
theorem VL_any {f : Pl} {X : Nat → Prop} {w : World} : ∀ (n : Nat) {vs : List Value}, vs.length = n → VL f X w (List.replicate n .any) vs
  | 0, vs, h => by rw [List.eq_nil_of_length_eq_zero h]; exact VL.nil
  | n + 1, vs, h => by
    cases vs with
    | nil => simp at h
    | cons v t => rw [List.replicate_succ]; exact VL.cons (by simp only [V]) (VL_any n (by simpa using h))
/-- Where two objects lie. -/
def fb (b4 b5 : Nat) : Pl := fun k p => match k, p with
  | 0, [] => some (some b4)
  | 1, [] => some (some b5)
  | _, _ => none
theorem two_get {c4 c5 : List A} {k : Nat} {p : List Nat} {c : List A} (hc : (hput 0 (.one c4) (hput 1 (.one c5) noH) k).get p = some c) : (k = 0 ∧ p = [] ∧ c = c4) ∨ (k = 1 ∧ p = [] ∧ c = c5) := by
  by_cases h0 : k = 0
  · subst h0
    rw [hput_same] at hc
    cases p with
    | nil => simp only [Reg.get, Option.some.injEq] at hc; exact .inl ⟨rfl, rfl, hc.symm⟩
    | cons _ _ => simp [Reg.get] at hc
  · rw [hput_ne _ _ h0] at hc
    by_cases h1 : k = 1
    · subst h1
      rw [hput_same] at hc
      cases p with
      | nil => simp only [Reg.get, Option.some.injEq] at hc; exact .inr ⟨rfl, rfl, hc.symm⟩
      | cons _ _ => simp [Reg.get] at hc
    · rw [hput_ne _ _ h1] at hc
      simp [noH, Reg.get] at hc
theorem two_get' {c4 c5 : List A} {k : Nat} {p : List Nat} (h : (hput 0 (.one c4) (hput 1 (.one c5) noH) k).get p ≠ none) : (k = 0 ∧ p = []) ∨ (k = 1 ∧ p = []) := by
  obtain ⟨c, hc⟩ := Option.ne_none_iff_exists'.1 h
  rcases two_get hc with h | h
  · exact .inl ⟨h.1, h.2.1⟩
  · exact .inr ⟨h.1, h.2.1⟩
theorem fb_hi {b4 b5 k : Nat} (hk : 2 ≤ k) (p : List Nat) : fb b4 b5 k p = none := by
  unfold fb
  split
  · omega
  · omega
  · rfl
/-- A frame with two objects. -/
theorem Rel.two {I : GI} {w : World} {Y : Nat → Prop} {b4 b5 : Nat} (hb : b4 ≠ b5) {c4 c5 : List A} {arr4 arr5 : Array Value} {el4 el5 : TypeId} (h4 : w.heap[b4]? = some (.cells arr4 el4 (0, 0))) (l4 : c4.length ≤ arr4.size) (v4 : ∀ f X, VL f X w c4 (arr4.toList.take c4.length))
    (h5 : w.heap[b5]? = some (.cells arr5 el5 (0, 0))) (l5 : c5.length ≤ arr5.size) (v5 : ∀ f X, VL f X w c5 (arr5.toList.take c5.length)) {e : Nat → Option A} {a : Act} {N : Nat} (hN : a.tmps.size = N) (he : ∀ i v, e i = some v → ∀ X, V (fb b4 b5) X w v (a.tmps.getD i undef)) (hd : a.defers = [])
    (hI : I.p w) (hX : ∀ b, (b = b4 ∨ b = b5) → I.G ≤ b) (hY : ∀ b, Y b → b < w.heap.size ∧ ¬ (b = b4 ∨ b = b5)) :
    Rel ⟨w, fun b => b = b4 ∨ b = b5, Y, N, fb b4 b5, 2, I, hI, hX, [], fun _ => none⟩ ⟨e, hput 0 (.one c4) (hput 1 (.one c5) noH), 2⟩ (From 2) (fb b4 b5) a w where
  N := hN
  defers := ⟨hd, fun _ _ h => by cases h⟩
  e := fun i v hv => he i v hv _
  h := fun k p c hc => by
    rcases two_get hc with ⟨rfl, rfl, rfl⟩ | ⟨rfl, rfl, rfl⟩
    · exact .inr ⟨b4, arr4, el4, rfl, h4, l4, v4 _ _⟩
    · exact .inr ⟨b5, arr5, el5, rfl, h5, l5, v5 _ _⟩
  inj := fun k p k' p' b h1 h2 h3 h4 => by
    rcases two_get' h1 with ⟨rfl, rfl⟩ | ⟨rfl, rfl⟩ <;> rcases two_get' h2 with ⟨rfl, rfl⟩ | ⟨rfl, rfl⟩
    · exact ⟨rfl, rfl⟩
    · simp only [fb, Option.some.injEq] at h3 h4; exact absurd (h3.trans h4.symm) hb
    · simp only [fb, Option.some.injEq] at h3 h4; exact absurd (h4.trans h3.symm) hb
    · exact ⟨rfl, rfl⟩
  kp := Kp.refl _ w
  new := fun b hb => .inr (by
    obtain ⟨k, p, h1, h2⟩ := hb
    rcases two_get' h1 with ⟨rfl, rfl⟩ | ⟨rfl, rfl⟩
    · simp only [fb, Option.some.injEq] at h2; exact .inl h2.symm
    · simp only [fb, Option.some.injEq] at h2; exact .inr h2.symm)
  y := hY
  fr := fun k hk p => fb_hi hk p
  ext := Ext.refl _
  dom := fun k hk p => fb_hi hk p
/-- What a call without own objects leaves. -/
theorem FCPost.of {f0 f : Pl} {X Y : Nat → Prop} {w w' : World} {r : A} {v : Value} {Pp : List PanicEntry → Prop} (hf0 : ∀ k p, f0 k p = none) (hk : Kp (fun b => w.heap.size ≤ b) w w') (hv : V f X w' r v) (hl : r.lt 0 = true) (hX : ∀ b, Y b → X b) : FCPost f0 [] Y w r [] Pp (.returned v) w' := by
  have hno : ∀ b, ¬ Live (regs []) f0 b := fun b => live_none b
  refine ⟨f0, Ext.refl _, fun k _ p => hf0 k p, ?_, fun k p c h => by simp [regs, Reg.get] at h, fun k p k' p' b h => by simp [regs, Reg.get] at h, hk.trans' (Kp.refl (fun _ => False) w') (fun _ _ h => h.elim) |>.mono (fun b hb h => by omega), fun b hb => absurd hb (hno b)⟩
  refine (V.toNo r hl v hv).mono (noPl_ext f0) (fun b _ hb => ?_) (Kp.refl (fun _ => False) w') (fun _ _ h => h.elim)
  rcases hb with hb | hb
  · exact absurd hb (hno b)
  · exact hX b hb
end
end Go.Abs
namespace Go.Abs
open Go.RowKit
mutual
def Dd.sz : Dd → Nat
  | .int _ _ => 1
  | .bool _ => 1
  | .str s => s.size + 1
  | .sl l => Dd.szL l + 1
  | .agg l => Dd.szL l + 1
def Dd.szL : List Dd → Nat
  | [] => 0
  | x :: l => Dd.sz x + Dd.szL l
end
/-- A measure of what is read. -/
structure Bulk (H : Type) where
  b : DataW H → Nat
  bl : List (DataW H) → Nat
  one : ∀ d, 1 ≤ b d
  str : ∀ s, s.length + 1 ≤ b (.lit (.string s))
  cons : ∀ d r, bl (d :: r) = b d + bl r
  sl : ∀ l m, bl l + 1 ≤ b (.slice l m)
  agg : ∀ l, bl l + 1 ≤ b (.agg l)
theorem Dd.szL_le {H : Type} (B : Bulk H) : ∀ (r : List Dd) (es : List (DataW H)), r.length = es.length → (∀ (i : Nat) (d : Dd) (y : DataW H), r[i]? = some d → es[i]? = some y → d.sz ≤ B.b y) → Dd.szL r ≤ B.bl es
  | [], es, _, _ => Nat.zero_le _
  | d :: r, [], h, _ => by simp at h
  | d :: r, y :: es, h, k => by
    have h1 := Dd.szL_le B r es (by simpa using h) (fun i d y h1 h2 => k (i + 1) d y (by simpa using h1) (by simpa using h2))
    have h2 := k 0 d y rfl rfl
    rw [Dd.szL, B.cons]; omega
section
variable {H : Type} {enc : TypeId × Value → H} {P : Program} {W : World}
theorem trod_ddB (B : Bulk H) {ts : List TypeId} (hD : dataTypes P ts = true) : ∀ (fuel : Nat) (t : TypeId) (cs : List Value) (x : DataW H × List MemPlace), t ∈ ts → DataW.trod enc P W 0 (fun _ => true) true fuel t cs = some x → ∃ d, Dd.Ty P t d ∧ VL noPl noX W d.cells cs ∧ d.sz ≤ B.b x.1 := by
  intro fuel
  induction fuel with
  | zero => intro t cs x _ h; simp [DataW.trod] at h
  | succ fuel ih =>
    intro t cs x ht h
    have hd := List.all_eq_true.1 hD t ht
    cases hu : P.underlying t with
    | none => rw [hu] at hd; cases hd
    | some u =>
      rw [hu] at hd
      cases u with
      | int k =>
        obtain ⟨n, rfl, rfl, h1⟩ := DataW.trod_int hu h
        exact ⟨.int k n, .int hu h1, .cons (by simp only [V]) .nil, by simp only [Dd.sz]; exact B.one _⟩
      | bool =>
        obtain ⟨b, rfl, rfl⟩ := DataW.trod_bool hu h
        exact ⟨.bool b, .bool hu, .cons (by simp only [V]) .nil, by simp only [Dd.sz]; exact B.one _⟩
      | string =>
        obtain ⟨s, rfl, rfl, h1⟩ := DataW.trod_string hu h
        exact ⟨.str s, .str hu h1, .cons (by simp only [V]) .nil, by simp only [Dd.sz]; exact Nat.le_trans (by rw [Array.length_toList]; exact Nat.le_refl _) (B.str _)⟩
      | slice e =>
        have he : e ∈ ts := by simpa using hd
        rcases DataW.trod_slice hu h with ⟨rfl, rfl⟩ | ⟨a, len, cap, elems, rest, n, hn, rfl, rfl, hb, hl, hc, hel, hi, _⟩
        · exact ⟨.sl [], .sl hu (Nat.zero_le _) (fun _ h => by cases h), .cons (Wk.nil _ _ _ _ (by simp only [V])) .nil, by simp only [Dd.sz, Dd.szL]; exact B.one _⟩
        · obtain rfl : fuel = n := by omega
          have key : ∀ (i : Nat) (y : DataW H × List MemPlace), elems[i]? = some y → ∃ dc : Dd × List Value, Dd.Ty P e dc.1 ∧ VL noPl noX W dc.1.cells dc.2 ∧ W.cells? 0 (a.add (i * P.cellsOf e)) (P.cellsOf e) = some dc.2 ∧ dc.1.sz ≤ B.b y.1 := by
            intro i y hy
            have hil := (List.getElem?_eq_some_iff.1 hy).1
            have h1 := hi i (by omega)
            rw [hy] at h1
            obtain ⟨cs', h2, h3⟩ := Option.bind_eq_some_iff.1 h1
            obtain ⟨d, h4, h5, h6⟩ := ih e cs' y he h3
            exact ⟨(d, cs'), h4, h5, h2, h6⟩
          obtain ⟨r, hr1, hr2⟩ := list_choice elems key
          have hrl : r.length = len := by omega
          have get : ∀ i, i < len → ∃ dc, r[i]? = some dc ∧ Dd.Ty P e dc.1 ∧ VL noPl noX W dc.1.cells dc.2 ∧ W.cells? 0 (a.add (i * P.cellsOf e)) (P.cellsOf e) = some dc.2 := by
            intro i hi'
            have h1 : r[i]? = some (r[i]'(by omega)) := List.getElem?_eq_getElem (by omega)
            obtain ⟨g1, g2, g3, _⟩ := hr2 i _ _ (List.getElem?_eq_getElem (by omega)) h1
            exact ⟨_, h1, g1, g2, g3⟩
          refine ⟨.sl (r.map (·.1)), .sl hu (by rw [List.length_map]; omega) (fun d hd' => ?_), ?_, ?_⟩
          · obtain ⟨dc, h1, rfl⟩ := List.mem_map.1 hd'
            obtain ⟨i, hi1, rfl⟩ := List.mem_iff_getElem.1 h1
            obtain ⟨dc, h2, h3, _⟩ := get i (by omega)
            rw [List.getElem?_eq_getElem hi1] at h2
            cases h2; exact h3
          · have hall : VL noPl noX W (Dd.cellsL (r.map (·.1))) (r.map (·.2)).flatten := by
              refine dd_parts (by simp) (fun i d c h1 h2 => ?_)
              rw [List.getElem?_map] at h1 h2
              cases hri : r[i]? with
              | none => rw [hri] at h1; cases h1
              | some dc =>
                rw [hri] at h1 h2
                cases h1; cases h2
                have hil := (List.getElem?_eq_some_iff.1 hri).1
                obtain ⟨dc', h3, _, h4, _⟩ := get i (by omega)
                rw [hri] at h3; cases h3; exact h4
            have hcell : ∀ (j : Nat) (u : Value), (r.map (·.2)).flatten[j]? = some u → W.cell? (a.add j) = some u := by
              have : ∀ (l : List (Dd × List Value)) (o : Nat), (∀ i dc, l[i]? = some dc → W.cells? 0 (a.add (o + i * P.cellsOf e)) (P.cellsOf e) = some dc.2) → ∀ (j : Nat) (u : Value), (l.map (·.2)).flatten[j]? = some u → W.cell? (a.add (o + j)) = some u := by
                intro l
                induction l with
                | nil => intro o _ j u hj; simp at hj
                | cons dc l ih2 =>
                  intro o h1 j u hj
                  have h0 := h1 0 dc rfl
                  rw [Nat.zero_mul, Nat.add_zero] at h0
                  obtain ⟨_, hlen, hget⟩ := World.cells?_some h0
                  rw [List.map_cons, List.flatten_cons] at hj
                  by_cases hjl : j < dc.2.length
                  · rw [List.getElem?_append_left hjl] at hj
                    have := hget j (by omega)
                    rw [hj] at this
                    rw [show a.add (o + j) = (a.add o).add j from (Addr.add_add a o j).symm]; exact this
                  · rw [List.getElem?_append_right (by omega)] at hj
                    have := ih2 (o + P.cellsOf e) (fun i dc' hi' => by
                      have := h1 (i + 1) dc' (by simpa using hi')
                      rw [Nat.succ_mul, ← Nat.add_assoc, Nat.add_right_comm] at this
                      rw [Nat.add_right_comm]; rw [Nat.add_right_comm] at this; exact this) (j - dc.2.length) u hj
                    rw [show o + j = o + P.cellsOf e + (j - dc.2.length) by omega]; exact this
              intro j u hj
              have := this r 0 (fun i dc hi' => by
                have hil := (List.getElem?_eq_some_iff.1 hi').1
                obtain ⟨dc', h3, _, _, h4⟩ := get i (by omega)
                rw [hi'] at h3; cases h3
                rw [Nat.zero_add]; exact h4) j u hj
              rw [Nat.zero_add] at this; exact this
            refine .cons ?_ .nil
            unfold V
            refine ⟨some a, cap, by rw [List.length_map, hrl], by rw [List.length_map]; omega, hc, (fun h => by cases h), fun q hq => ?_⟩
            cases hq
            cases hvs : (r.map (·.2)).flatten with
            | nil =>
              left
              have := hall.length
              rw [hvs] at this
              exact List.eq_nil_of_length_eq_zero this.symm
            | cons u us =>
              right
              have h0 := hcell 0 u (by rw [hvs]; rfl)
              have hspot : a.spot = none ∧ a.block < W.heap.size := by
                unfold World.cell? at h0
                cases hb' : W.heap[(a.add 0).block]? with
                | none => rw [hb'] at h0; cases h0
                | some o =>
                  have hsz := (Array.getElem?_eq_some_iff.1 hb').1
                  rw [hb'] at h0
                  cases o with
                  | cells c e' z =>
                    simp only at h0
                    split at h0
                    · cases h0
                    · rename_i hs; exact ⟨by simpa [Addr.add] using hs, hsz⟩
                  | _ => cases h0
              refine ⟨hspot.1, id, hspot.2, (r.map (·.2)).flatten, hall, fun j u' hj => ?_⟩
              have := hcell j u' hj
              obtain ⟨b, o, sp⟩ := a
              obtain rfl : sp = none := hspot.1
              rw [← Go.WideShapes.add_plain]; exact this
          · have := Dd.szL_le B (r.map (·.1)) (elems.map (·.1)) (by simp [hr1]) (fun i d y h1 h2 => by
              rw [List.getElem?_map] at h1 h2
              cases hri : r[i]? with
              | none => rw [hri] at h1; cases h1
              | some dc =>
                cases hei : elems[i]? with
                | none => rw [hei] at h2; cases h2
                | some z =>
                  rw [hri] at h1; rw [hei] at h2; cases h1; cases h2
                  exact (hr2 i z dc hei hri).2.2.2)
            have h9 := B.sl (elems.map (·.1)) (rest.map (·.1))
            simp only [Dd.sz]; omega
      | array n e =>
        simp only [Bool.and_eq_true, beq_iff_eq] at hd
        have he : e ∈ ts := by simpa using hd.1
        obtain ⟨xs, m, hm, rfl, hl, hx, hi⟩ := DataW.trod_array hu h
        obtain rfl : fuel = m := by omega
        have key : ∀ (i : Nat) (k : Nat), (List.range n)[i]? = some k → ∃ d : Dd, Dd.Ty P e d ∧ VL noPl noX W d.cells ((cs.drop (k * P.cellsOf e)).take (P.cellsOf e)) ∧ ∀ y, xs[k]? = some y → d.sz ≤ B.b y.1 := by
          intro i k hk
          have hkn : k < n := List.mem_range.1 (List.mem_of_getElem? hk)
          have h1 := hi k hkn
          rw [List.getElem?_eq_getElem (by omega)] at h1
          obtain ⟨d, g1, g2, g3⟩ := ih e _ _ he h1
          exact ⟨d, g1, g2, fun y hy => by rw [List.getElem?_eq_getElem (by omega)] at hy; cases hy; exact g3⟩
        obtain ⟨r, hr1, hr2⟩ := list_choice (List.range n) key
        rw [List.length_range] at hr1
        refine ⟨.agg r, .arr hu hr1 (fun d hd' => ?_), ?_, ?_⟩
        · obtain ⟨i, hi1, rfl⟩ := List.mem_iff_getElem.1 hd'
          exact (hr2 i i _ (List.getElem?_range (by omega)) (List.getElem?_eq_getElem hi1)).1
        · have := dd_parts (W := W) (ds := r) (ps := (List.range n).map fun i => (cs.drop (i * P.cellsOf e)).take (P.cellsOf e)) (by simp [hr1]) (fun i d c h1 h2 => by
            rw [List.getElem?_map] at h2
            cases hri : (List.range n)[i]? with
            | none => rw [hri] at h2; cases h2
            | some k => rw [hri] at h2; cases h2; exact (hr2 i k d hri h1).2.1)
          rw [split_flat (by rw [hl, hd.2])] at this
          exact this
        · have := Dd.szL_le B r (xs.map (·.1)) (by simp [hr1, hx]) (fun i d y h1 h2 => by
            rw [List.getElem?_map] at h2
            have hil := (List.getElem?_eq_some_iff.1 h1).1
            cases hei : xs[i]? with
            | none => rw [hei] at h2; cases h2
            | some z => rw [hei] at h2; cases h2; exact (hr2 i i d (List.getElem?_range (by omega)) h1).2.2 z hei)
          have h9 := B.agg (xs.map (·.1))
          simp only [Dd.sz]; omega
      | struct fs =>
        simp only [Bool.and_eq_true] at hd
        obtain ⟨xs, m, hm, rfl, hl, hx, hi⟩ := DataW.trod_struct hu h
        obtain rfl : fuel = m := by omega
        have key : ∀ (i : Nat) (f : Field), fs.toList[i]? = some f → ∃ d : Dd, Dd.Ty P f.type d ∧ VL noPl noX W d.cells ((cs.drop f.offset).take (P.cellsOf f.type)) ∧ ∀ y, xs[i]? = some y → d.sz ≤ B.b y.1 := by
          intro i f hf
          have hf' : fs[i]? = some f := by simpa using hf
          have h1 := hi i f hf'
          have hlt := (Array.getElem?_eq_some_iff.1 hf').1
          rw [List.getElem?_eq_getElem (by omega)] at h1
          have hmem : f.type ∈ ts := by simpa using List.all_eq_true.1 hd.1 f (List.mem_of_getElem? hf)
          obtain ⟨d, g1, g2, g3⟩ := ih f.type _ _ hmem h1
          exact ⟨d, g1, g2, fun y hy => by rw [List.getElem?_eq_getElem (by omega)] at hy; cases hy; exact g3⟩
        obtain ⟨r, hr1, hr2⟩ := list_choice fs.toList key
        refine ⟨.agg r, .st hu (by simpa using hr1) (fun i f d hf hd' => (hr2 i f d (by simpa using hf) hd').1), ?_, ?_⟩
        rotate_left
        · have := Dd.szL_le B r (xs.map (·.1)) (by rw [List.length_map, hx]; simpa using hr1) (fun i d y h1 h2 => by
            rw [List.getElem?_map] at h2
            have hil := (List.getElem?_eq_some_iff.1 h1).1
            cases hei : xs[i]? with
            | none => rw [hei] at h2; cases h2
            | some z => rw [hei] at h2; cases h2; exact (hr2 i _ d (List.getElem?_eq_getElem (by omega)) h1).2.2 z hei)
          have h9 := B.agg (xs.map (·.1))
          simp only [Dd.sz]; omega
        have := dd_parts (W := W) (ds := r) (ps := fs.toList.map fun f => (cs.drop f.offset).take (P.cellsOf f.type)) (by simp [hr1]) (fun i d c h1 h2 => by
          rw [List.getElem?_map] at h2
          cases hri : fs.toList[i]? with
          | none => rw [hri] at h2; cases h2
          | some f => rw [hri] at h2; cases h2; exact (hr2 i f d hri h1).2.1)
        rw [contig_flat hd.2 hl, List.drop_zero] at this
        exact this
      | _ => cases hd
theorem open_anyB (B : Bulk H) {ts : List TypeId} {t : TypeId} {r : Reach} {b0 : Nat} {v : Value} {d : DataW H} {ps : List MemPlace} (hD : dataTypes P ts = true) (ht : t ∈ ts) (hv : Value.okWide P W r b0 t v) (h : DataW.Trod enc P W 0 (fun _ => true) true t v d ps) :
    ∃ dd, Dd.Ty P t dd ∧ V noPl noX W dd.aw v ∧ dd.sz ≤ B.b d := by
  obtain ⟨fuel, hf⟩ := h
  obtain ⟨dd, h1, h2, hz⟩ := trod_ddB B hD fuel t _ _ ht hf
  refine ⟨dd, h1, ?_, hz⟩
  clear hz
  have one : ∀ {a : A} {v : Value}, v.cells.toList = [v] → VL noPl noX W [a] v.cells.toList → V noPl noX W a v := by
    intro a v e hv
    rw [e] at hv
    obtain ⟨u, t, h3, h4, _⟩ := hv.uncons
    simp only [List.cons.injEq] at h3
    rw [h3.1]; exact h4
  cases h1 with
  | int hu _ => obtain ⟨n, rfl⟩ := Go.WideShapes.okWide_int hu hv; exact one rfl h2
  | bool hu => obtain ⟨b, rfl⟩ := Go.WideShapes.okWide_bool hu hv; exact one rfl h2
  | str hu _ => obtain ⟨s, rfl⟩ := Go.WideShapes.okWide_string hu hv; exact one rfl h2
  | sl hu _ _ => obtain ⟨a, n, c, rfl⟩ := Go.WideShapes.okWide_slice hu hv; exact one rfl h2
  | arr hu _ _ => obtain ⟨cs, rfl, _⟩ : ∃ cs, v = .agg cs ∧ True := by { simp only [Value.okWide, hu] at hv; obtain ⟨cs, h3, _⟩ := hv; exact ⟨cs, h3, trivial⟩ }; show V noPl noX W (.agg _) _; unfold V; exact ⟨cs.toList, rfl, h2⟩
  | st hu _ _ => obtain ⟨cs, rfl, _⟩ := Go.WideShapes.okWide_struct hu hv; show V noPl noX W (.agg _) _; unfold V; exact ⟨cs.toList, rfl, h2⟩
end
end Go.Abs
