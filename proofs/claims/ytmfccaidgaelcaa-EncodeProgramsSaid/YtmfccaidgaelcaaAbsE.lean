/- How data that came in is opened, with a bound of its size. No conditions. -/
import Derived.Test.YtmfccaidgaelcaaAbsD
set_option linter.unusedVariables false
set_option linter.unusedSimpArgs false
namespace Go.Abs
open Go.RowKit
mutual
def Dd.sz : Dd → Nat
  | .int _ _ => 1
  | .bool _ => 1
  | .str s => s.size + 1
  | .sl l => Dd.szL l + 1
  | .agg l => Dd.szL l + 1
def Dd.szL : List Dd → Nat
  | [] => 0
  | x :: l => Dd.sz x + Dd.szL l
end
/-- A measure of what is read. -/
structure Bulk (H : Type) where
  b : DataW H → Nat
  bl : List (DataW H) → Nat
  one : ∀ d, 1 ≤ b d
  str : ∀ s, s.length + 1 ≤ b (.lit (.string s))
  cons : ∀ d r, bl (d :: r) = b d + bl r
  sl : ∀ l m, bl l + 1 ≤ b (.slice l m)
  agg : ∀ l, bl l + 1 ≤ b (.agg l)
theorem Dd.szL_le {H : Type} (B : Bulk H) : ∀ (r : List Dd) (es : List (DataW H)), r.length = es.length → (∀ (i : Nat) (d : Dd) (y : DataW H), r[i]? = some d → es[i]? = some y → d.sz ≤ B.b y) → Dd.szL r ≤ B.bl es
  | [], es, _, _ => Nat.zero_le _
  | d :: r, [], h, _ => by simp at h
  | d :: r, y :: es, h, k => by
    have h1 := Dd.szL_le B r es (by simpa using h) (fun i d y h1 h2 => k (i + 1) d y (by simpa using h1) (by simpa using h2))
    have h2 := k 0 d y rfl rfl
    rw [Dd.szL, B.cons]; omega
section
variable {H : Type} {enc : TypeId × Value → H} {P : Program} {W : World}
theorem trod_ddB (B : Bulk H) {ts : List TypeId} (hD : dataTypes P ts = true) : ∀ (fuel : Nat) (t : TypeId) (cs : List Value) (x : DataW H × List MemPlace), t ∈ ts → DataW.trod enc P W 0 (fun _ => true) true fuel t cs = some x → ∃ d, Dd.Ty P t d ∧ VL noPl noX W d.cells cs ∧ d.sz ≤ B.b x.1 := by
  intro fuel
  induction fuel with
  | zero => intro t cs x _ h; simp [DataW.trod] at h
  | succ fuel ih =>
    intro t cs x ht h
    have hd := List.all_eq_true.1 hD t ht
    cases hu : P.underlying t with
    | none => rw [hu] at hd; cases hd
    | some u =>
      rw [hu] at hd
      cases u with
      | int k =>
        obtain ⟨n, rfl, rfl, h1⟩ := DataW.trod_int hu h
        exact ⟨.int k n, .int hu h1, .cons (by simp only [V]) .nil, by simp only [Dd.sz]; exact B.one _⟩
      | bool =>
        obtain ⟨b, rfl, rfl⟩ := DataW.trod_bool hu h
        exact ⟨.bool b, .bool hu, .cons (by simp only [V]) .nil, by simp only [Dd.sz]; exact B.one _⟩
      | string =>
        obtain ⟨s, rfl, rfl, h1⟩ := DataW.trod_string hu h
        exact ⟨.str s, .str hu h1, .cons (by simp only [V]) .nil, by simp only [Dd.sz]; exact Nat.le_trans (by rw [Array.length_toList]; exact Nat.le_refl _) (B.str _)⟩
      | slice e =>
        have he : e ∈ ts := by simpa using hd
        rcases DataW.trod_slice hu h with ⟨rfl, rfl⟩ | ⟨a, len, cap, elems, rest, n, hn, rfl, rfl, hb, hl, hc, hel, hi, _⟩
        · exact ⟨.sl [], .sl hu (Nat.zero_le _) (fun _ h => by cases h), .cons (Wk.nil _ _ _ _ (by simp only [V])) .nil, by simp only [Dd.sz, Dd.szL]; exact B.one _⟩
        · obtain rfl : fuel = n := by omega
          have key : ∀ (i : Nat) (y : DataW H × List MemPlace), elems[i]? = some y → ∃ dc : Dd × List Value, Dd.Ty P e dc.1 ∧ VL noPl noX W dc.1.cells dc.2 ∧ W.cells? 0 (a.add (i * P.cellsOf e)) (P.cellsOf e) = some dc.2 ∧ dc.1.sz ≤ B.b y.1 := by
            intro i y hy
            have hil := (List.getElem?_eq_some_iff.1 hy).1
            have h1 := hi i (by omega)
            rw [hy] at h1
            obtain ⟨cs', h2, h3⟩ := Option.bind_eq_some_iff.1 h1
            obtain ⟨d, h4, h5, h6⟩ := ih e cs' y he h3
            exact ⟨(d, cs'), h4, h5, h2, h6⟩
          obtain ⟨r, hr1, hr2⟩ := list_choice elems key
          have hrl : r.length = len := by omega
          have get : ∀ i, i < len → ∃ dc, r[i]? = some dc ∧ Dd.Ty P e dc.1 ∧ VL noPl noX W dc.1.cells dc.2 ∧ W.cells? 0 (a.add (i * P.cellsOf e)) (P.cellsOf e) = some dc.2 := by
            intro i hi'
            have h1 : r[i]? = some (r[i]'(by omega)) := List.getElem?_eq_getElem (by omega)
            obtain ⟨g1, g2, g3, _⟩ := hr2 i _ _ (List.getElem?_eq_getElem (by omega)) h1
            exact ⟨_, h1, g1, g2, g3⟩
          refine ⟨.sl (r.map (·.1)), .sl hu (by rw [List.length_map]; omega) (fun d hd' => ?_), ?_, ?_⟩
          · obtain ⟨dc, h1, rfl⟩ := List.mem_map.1 hd'
            obtain ⟨i, hi1, rfl⟩ := List.mem_iff_getElem.1 h1
            obtain ⟨dc, h2, h3, _⟩ := get i (by omega)
            rw [List.getElem?_eq_getElem hi1] at h2
            cases h2; exact h3
          · have hall : VL noPl noX W (Dd.cellsL (r.map (·.1))) (r.map (·.2)).flatten := by
              refine dd_parts (by simp) (fun i d c h1 h2 => ?_)
              rw [List.getElem?_map] at h1 h2
              cases hri : r[i]? with
              | none => rw [hri] at h1; cases h1
              | some dc =>
                rw [hri] at h1 h2
                cases h1; cases h2
                have hil := (List.getElem?_eq_some_iff.1 hri).1
                obtain ⟨dc', h3, _, h4, _⟩ := get i (by omega)
                rw [hri] at h3; cases h3; exact h4
            have hcell : ∀ (j : Nat) (u : Value), (r.map (·.2)).flatten[j]? = some u → W.cell? (a.add j) = some u := by
              have : ∀ (l : List (Dd × List Value)) (o : Nat), (∀ i dc, l[i]? = some dc → W.cells? 0 (a.add (o + i * P.cellsOf e)) (P.cellsOf e) = some dc.2) → ∀ (j : Nat) (u : Value), (l.map (·.2)).flatten[j]? = some u → W.cell? (a.add (o + j)) = some u := by
                intro l
                induction l with
                | nil => intro o _ j u hj; simp at hj
                | cons dc l ih2 =>
                  intro o h1 j u hj
                  have h0 := h1 0 dc rfl
                  rw [Nat.zero_mul, Nat.add_zero] at h0
                  obtain ⟨_, hlen, hget⟩ := World.cells?_some h0
                  rw [List.map_cons, List.flatten_cons] at hj
                  by_cases hjl : j < dc.2.length
                  · rw [List.getElem?_append_left hjl] at hj
                    have := hget j (by omega)
                    rw [hj] at this
                    rw [show a.add (o + j) = (a.add o).add j from (Addr.add_add a o j).symm]; exact this
                  · rw [List.getElem?_append_right (by omega)] at hj
                    have := ih2 (o + P.cellsOf e) (fun i dc' hi' => by
                      have := h1 (i + 1) dc' (by simpa using hi')
                      rw [Nat.succ_mul, ← Nat.add_assoc, Nat.add_right_comm] at this
                      rw [Nat.add_right_comm]; rw [Nat.add_right_comm] at this; exact this) (j - dc.2.length) u hj
                    rw [show o + j = o + P.cellsOf e + (j - dc.2.length) by omega]; exact this
              intro j u hj
              have := this r 0 (fun i dc hi' => by
                have hil := (List.getElem?_eq_some_iff.1 hi').1
                obtain ⟨dc', h3, _, _, h4⟩ := get i (by omega)
                rw [hi'] at h3; cases h3
                rw [Nat.zero_add]; exact h4) j u hj
              rw [Nat.zero_add] at this; exact this
            refine .cons ?_ .nil
            unfold V
            refine ⟨some a, cap, by rw [List.length_map, hrl], by rw [List.length_map]; omega, hc, (fun h => by cases h), fun q hq => ?_⟩
            cases hq
            cases hvs : (r.map (·.2)).flatten with
            | nil =>
              left
              have := hall.length
              rw [hvs] at this
              exact List.eq_nil_of_length_eq_zero this.symm
            | cons u us =>
              right
              have h0 := hcell 0 u (by rw [hvs]; rfl)
              have hspot : a.spot = none ∧ a.block < W.heap.size := by
                unfold World.cell? at h0
                cases hb' : W.heap[(a.add 0).block]? with
                | none => rw [hb'] at h0; cases h0
                | some o =>
                  have hsz := (Array.getElem?_eq_some_iff.1 hb').1
                  rw [hb'] at h0
                  cases o with
                  | cells c e' z =>
                    simp only at h0
                    split at h0
                    · cases h0
                    · rename_i hs; exact ⟨by simpa [Addr.add] using hs, hsz⟩
                  | _ => cases h0
              refine ⟨hspot.1, id, hspot.2, (r.map (·.2)).flatten, hall, fun j u' hj => ?_⟩
              have := hcell j u' hj
              obtain ⟨b, o, sp⟩ := a
              obtain rfl : sp = none := hspot.1
              rw [← Go.WideShapes.add_plain]; exact this
          · have := Dd.szL_le B (r.map (·.1)) (elems.map (·.1)) (by simp [hr1]) (fun i d y h1 h2 => by
              rw [List.getElem?_map] at h1 h2
              cases hri : r[i]? with
              | none => rw [hri] at h1; cases h1
              | some dc =>
                cases hei : elems[i]? with
                | none => rw [hei] at h2; cases h2
                | some z =>
                  rw [hri] at h1; rw [hei] at h2; cases h1; cases h2
                  exact (hr2 i z dc hei hri).2.2.2)
            have h9 := B.sl (elems.map (·.1)) (rest.map (·.1))
            simp only [Dd.sz]; omega
      | array n e =>
        simp only [Bool.and_eq_true, beq_iff_eq] at hd
        have he : e ∈ ts := by simpa using hd.1
        obtain ⟨xs, m, hm, rfl, hl, hx, hi⟩ := DataW.trod_array hu h
        obtain rfl : fuel = m := by omega
        have key : ∀ (i : Nat) (k : Nat), (List.range n)[i]? = some k → ∃ d : Dd, Dd.Ty P e d ∧ VL noPl noX W d.cells ((cs.drop (k * P.cellsOf e)).take (P.cellsOf e)) ∧ ∀ y, xs[k]? = some y → d.sz ≤ B.b y.1 := by
          intro i k hk
          have hkn : k < n := List.mem_range.1 (List.mem_of_getElem? hk)
          have h1 := hi k hkn
          rw [List.getElem?_eq_getElem (by omega)] at h1
          obtain ⟨d, g1, g2, g3⟩ := ih e _ _ he h1
          exact ⟨d, g1, g2, fun y hy => by rw [List.getElem?_eq_getElem (by omega)] at hy; cases hy; exact g3⟩
        obtain ⟨r, hr1, hr2⟩ := list_choice (List.range n) key
        rw [List.length_range] at hr1
        refine ⟨.agg r, .arr hu hr1 (fun d hd' => ?_), ?_, ?_⟩
        · obtain ⟨i, hi1, rfl⟩ := List.mem_iff_getElem.1 hd'
          exact (hr2 i i _ (List.getElem?_range (by omega)) (List.getElem?_eq_getElem hi1)).1
        · have := dd_parts (W := W) (ds := r) (ps := (List.range n).map fun i => (cs.drop (i * P.cellsOf e)).take (P.cellsOf e)) (by simp [hr1]) (fun i d c h1 h2 => by
            rw [List.getElem?_map] at h2
            cases hri : (List.range n)[i]? with
            | none => rw [hri] at h2; cases h2
            | some k => rw [hri] at h2; cases h2; exact (hr2 i k d hri h1).2.1)
          rw [split_flat (by rw [hl, hd.2])] at this
          exact this
        · have := Dd.szL_le B r (xs.map (·.1)) (by simp [hr1, hx]) (fun i d y h1 h2 => by
            rw [List.getElem?_map] at h2
            have hil := (List.getElem?_eq_some_iff.1 h1).1
            cases hei : xs[i]? with
            | none => rw [hei] at h2; cases h2
            | some z => rw [hei] at h2; cases h2; exact (hr2 i i d (List.getElem?_range (by omega)) h1).2.2 z hei)
          have h9 := B.agg (xs.map (·.1))
          simp only [Dd.sz]; omega
      | struct fs =>
        simp only [Bool.and_eq_true] at hd
        obtain ⟨xs, m, hm, rfl, hl, hx, hi⟩ := DataW.trod_struct hu h
        obtain rfl : fuel = m := by omega
        have key : ∀ (i : Nat) (f : Field), fs.toList[i]? = some f → ∃ d : Dd, Dd.Ty P f.type d ∧ VL noPl noX W d.cells ((cs.drop f.offset).take (P.cellsOf f.type)) ∧ ∀ y, xs[i]? = some y → d.sz ≤ B.b y.1 := by
          intro i f hf
          have hf' : fs[i]? = some f := by simpa using hf
          have h1 := hi i f hf'
          have hlt := (Array.getElem?_eq_some_iff.1 hf').1
          rw [List.getElem?_eq_getElem (by omega)] at h1
          have hmem : f.type ∈ ts := by simpa using List.all_eq_true.1 hd.1 f (List.mem_of_getElem? hf)
          obtain ⟨d, g1, g2, g3⟩ := ih f.type _ _ hmem h1
          exact ⟨d, g1, g2, fun y hy => by rw [List.getElem?_eq_getElem (by omega)] at hy; cases hy; exact g3⟩
        obtain ⟨r, hr1, hr2⟩ := list_choice fs.toList key
        refine ⟨.agg r, .st hu (by simpa using hr1) (fun i f d hf hd' => (hr2 i f d (by simpa using hf) hd').1), ?_, ?_⟩
        rotate_left
        · have := Dd.szL_le B r (xs.map (·.1)) (by rw [List.length_map, hx]; simpa using hr1) (fun i d y h1 h2 => by
            rw [List.getElem?_map] at h2
            have hil := (List.getElem?_eq_some_iff.1 h1).1
            cases hei : xs[i]? with
            | none => rw [hei] at h2; cases h2
            | some z => rw [hei] at h2; cases h2; exact (hr2 i _ d (List.getElem?_eq_getElem (by omega)) h1).2.2 z hei)
          have h9 := B.agg (xs.map (·.1))
          simp only [Dd.sz]; omega
        have := dd_parts (W := W) (ds := r) (ps := fs.toList.map fun f => (cs.drop f.offset).take (P.cellsOf f.type)) (by simp [hr1]) (fun i d c h1 h2 => by
          rw [List.getElem?_map] at h2
          cases hri : fs.toList[i]? with
          | none => rw [hri] at h2; cases h2
          | some f => rw [hri] at h2; cases h2; exact (hr2 i f d hri h1).2.1)
        rw [contig_flat hd.2 hl, List.drop_zero] at this
        exact this
      | _ => cases hd
theorem open_anyB (B : Bulk H) {ts : List TypeId} {t : TypeId} {r : Reach} {b0 : Nat} {v : Value} {d : DataW H} {ps : List MemPlace} (hD : dataTypes P ts = true) (ht : t ∈ ts) (hv : Value.okWide P W r b0 t v) (h : DataW.Trod enc P W 0 (fun _ => true) true t v d ps) :
    ∃ dd, Dd.Ty P t dd ∧ V noPl noX W dd.aw v ∧ dd.sz ≤ B.b d := by
  obtain ⟨fuel, hf⟩ := h
  obtain ⟨dd, h1, h2, hz⟩ := trod_ddB B hD fuel t _ _ ht hf
  refine ⟨dd, h1, ?_, hz⟩
  clear hz
  have one : ∀ {a : A} {v : Value}, v.cells.toList = [v] → VL noPl noX W [a] v.cells.toList → V noPl noX W a v := by
    intro a v e hv
    rw [e] at hv
    obtain ⟨u, t, h3, h4, _⟩ := hv.uncons
    simp only [List.cons.injEq] at h3
    rw [h3.1]; exact h4
  cases h1 with
  | int hu _ => obtain ⟨n, rfl⟩ := Go.WideShapes.okWide_int hu hv; exact one rfl h2
  | bool hu => obtain ⟨b, rfl⟩ := Go.WideShapes.okWide_bool hu hv; exact one rfl h2
  | str hu _ => obtain ⟨s, rfl⟩ := Go.WideShapes.okWide_string hu hv; exact one rfl h2
  | sl hu _ _ => obtain ⟨a, n, c, rfl⟩ := Go.WideShapes.okWide_slice hu hv; exact one rfl h2
  | arr hu _ _ => obtain ⟨cs, rfl, _⟩ : ∃ cs, v = .agg cs ∧ True := by { simp only [Value.okWide, hu] at hv; obtain ⟨cs, h3, _⟩ := hv; exact ⟨cs, h3, trivial⟩ }; show V noPl noX W (.agg _) _; unfold V; exact ⟨cs.toList, rfl, h2⟩
  | st hu _ _ => obtain ⟨cs, rfl, _⟩ := Go.WideShapes.okWide_struct hu hv; show V noPl noX W (.agg _) _; unfold V; exact ⟨cs.toList, rfl, h2⟩
end
end Go.Abs
namespace Go.Abs
open Go.RowKit
section
variable {P : Program} {L : List (Nat × TI)} {C : Ctx} {ops : Array Oper} {draw : Bool} {Q : AQ} {s0 : St} {tr : List TE} {e : Nat → Option A} {h : Nat → Reg} {n : Nat}
theorem RG.k {d : Option Tmp} {op : Op} {ty : TypeId} {pos : String} {af : Array Edge} {g : Option (Nat × Bool)} 
    (hr : RG P C ops draw Q s0 (⟨⟨gslot ops g, [], []⟩, d, ⟨some (.val undef), [], 0⟩, n⟩ :: tr) ⟨putd d (some (.val undef)) e, h, n⟩) (ho : ops[tr.length]? = some ⟨d, op, ty, pos, af, g⟩ := by exact rfl) (hg : wantA ops g e = some false := by exact rfl) (hd : dOk C d = true := by exact rfl) : RG P C ops draw Q s0 tr ⟨e, h, n⟩ := RG.skip ho hg hd hr
theorem RG.i (hT : TOk P L) {d : Option Tmp} {op : Op} {ty : TypeId} {pos : String} {af : Array Edge} {g : Option (Nat × Bool)} {r r' : Option A} {sd : Prop}
    (hr : RG P C ops draw Q s0 (⟨fpOf ops ⟨d, op, ty, pos, af, g⟩ [], d, ⟨r', [], 0⟩, n⟩ :: tr) ⟨putd d r' e, h, n⟩) (ho : ops[tr.length]? = some ⟨d, op, ty, pos, af, g⟩ := by exact rfl) (hg : wantA ops g e = some true := by exact rfl)
    (hv : vop L op (evE e) = some (r, sd) := by exact rfl) (hsd : sd := by exact trivial) (hd : dOk C d = true := by exact rfl) (hr' : r = r' := by exact iv_i64 (by omega)) : RG P C ops draw Q s0 tr ⟨e, h, n⟩ := RG.val hT ho hg hv hsd hd hr' hr
theorem RG.v (hT : TOk P L) {d : Option Tmp} {op : Op} {ty : TypeId} {pos : String} {af : Array Edge} {g : Option (Nat × Bool)} {r r' : Option A} {sd : Prop}
    (hr : RG P C ops draw Q s0 (⟨fpOf ops ⟨d, op, ty, pos, af, g⟩ [], d, ⟨r', [], 0⟩, n⟩ :: tr) ⟨putd d r' e, h, n⟩) (ho : ops[tr.length]? = some ⟨d, op, ty, pos, af, g⟩ := by exact rfl) (hg : wantA ops g e = some true := by exact rfl)
    (hv : vop L op (evE e) = some (r, sd) := by exact rfl) (hsd : sd := by exact trivial) (hd : dOk C d = true := by exact rfl) (hr' : r = r' := by exact rfl) : RG P C ops draw Q s0 tr ⟨e, h, n⟩ := RG.val hT ho hg hv hsd hd hr' hr
theorem RG.l (hT : TOk P L) {d : Option Tmp} {t : TypeId} {x : Operand} {ty : TypeId} {pos : String} {af : Array Edge} {g : Option (Nat × Bool)} {a0 v v' : A} {ks : List Nat}
    (hr : RG P C ops draw Q s0 (⟨fpOf ops ⟨d, .load t x, ty, pos, af, g⟩ ks, d, ⟨some v', [], 0⟩, n⟩ :: tr) ⟨putd d (some v') e, h, n⟩) (ho : ops[tr.length]? = some ⟨d, .load t x, ty, pos, af, g⟩ := by exact rfl) (hg : wantA ops g e = some true := by exact rfl)
    (hx : evE e x = some a0 := by exact rfl) (hl : ldA L t a0 h = some (v, ks) := by exact rfl) (hd : dOk C d = true := by exact rfl) (hv' : v = v' := by exact rfl) : RG P C ops draw Q s0 tr ⟨e, h, n⟩ := RG.load hT ho hg hx hl hd hv' hr
theorem RG.w (hT : TOk P L) {d : Option Tmp} {op : Op} {ty : TypeId} {pos : String} {af : Array Edge} {g : Option (Nat × Bool)} {c c' : List A} {nk : NK} {sd : Prop}
    (hr : RG P C ops draw Q s0 (⟨fpOf ops ⟨d, op, ty, pos, af, g⟩ [], d, ⟨some (nk.val n), [(n, .one c')], 1⟩, n⟩ :: tr) ⟨putd d (some (nk.val n)) e, hput n (.one c') h, n + 1⟩) (ho : ops[tr.length]? = some ⟨d, op, ty, pos, af, g⟩ := by exact rfl) (hg : wantA ops g e = some true := by exact rfl)
    (hv : nop L op (evE e) = some (c, nk, sd) := by exact rfl) (hsd : sd := by exact trivial) (hd : dOk C d = true := by exact rfl) (hc : c = c' := by exact rfl) : RG P C ops draw Q s0 tr ⟨e, h, n⟩ := RG.new hT ho hg hv hsd hd hc hr
theorem RG.s (hT : TOk P L) {d : Option Tmp} {t : TypeId} {x y : Operand} {ty : TypeId} {pos : String} {af : Array Edge} {g : Option (Nat × Bool)} {a0 v : A} {k : Nat} {p : List Nat} {c' c'' : List A} {rg : Reg}
    (hr : RG P C ops draw Q s0 (⟨fpOf ops ⟨d, .store t x y, ty, pos, af, g⟩ [k], none, ⟨none, [(k, rg)], 0⟩, n⟩ :: tr) ⟨e, hput k rg h, n⟩) (ho : ops[tr.length]? = some ⟨d, .store t x y, ty, pos, af, g⟩ := by exact rfl) (hg : wantA ops g e = some true := by exact rfl)
    (hx : evE e x = some a0 := by exact rfl) (hy : evE e y = some v := by exact rfl) (hl : stA L t a0 v h = some (k, p, c') := by exact rfl) (hd : d = none := by exact rfl) (hc : c' = c'' := by exact rfl) (hrg : (h k).set p c'' = rg := by exact rfl) : RG P C ops draw Q s0 tr ⟨e, h, n⟩ := RG.store hT ho hg hx hy hl hd hc hrg hr
theorem RG.d {s : St} (hq : Q.q .normal s) (hl : Nat.beq tr.length ops.size = true := by exact rfl) : RG P C ops false Q s0 tr s := RG.done hl hq
theorem RG.dd {s : St} (hq : Q.q .normal s) (hm : P.follows .mixedOrders = true := by kernel_rfl) (hl : Nat.beq tr.length ops.size = true := by exact rfl) (hc : cfree ops tr.reverse = true := by kernel_rfl) : RG P C ops true Q s0 tr s := RG.doneD hm hl hc hq
/-! ### All premises by default -/
section
variable {s : St} {c c2 : Code}
theorem K1 {d : Option Tmp} {op : Op} {ty : TypeId} {pos : String} {af : Array Edge} {g : Option (Nat × Bool)} 
    (hr : RG P C ops draw Q s0 (⟨⟨gslot ops g, [], []⟩, d, ⟨some (.val undef), [], 0⟩, n⟩ :: tr) ⟨putd d (some (.val undef)) e, h, n⟩) (ho : ops[tr.length]? = some ⟨d, op, ty, pos, af, g⟩ := by exact rfl) (hg : wantA ops g e = some false := by exact rfl) (hd : dOk C d = true := by exact rfl) : RG P C ops draw Q s0 tr ⟨e, h, n⟩ := RG.skip ho hg hd hr
theorem K2 {d : Option Tmp} {op : Op} {ty : TypeId} {pos : String} {af : Array Edge} {g : Option (Nat × Bool)} {r r' : Option A} {sd : Prop}
    (hr : RG P C ops draw Q s0 (⟨fpOf ops ⟨d, op, ty, pos, af, g⟩ [], d, ⟨r', [], 0⟩, n⟩ :: tr) ⟨putd d r' e, h, n⟩) (hT : TOk P L := by exact tok) (ho : ops[tr.length]? = some ⟨d, op, ty, pos, af, g⟩ := by exact rfl) (hg : wantA ops g e = some true := by exact rfl)
    (hv : vop L op (evE e) = some (r, sd) := by exact rfl) (hsd : sd := by exact trivial) (hd : dOk C d = true := by exact rfl) (hr' : r = r' := by exact iv_i64 (by omega)) : RG P C ops draw Q s0 tr ⟨e, h, n⟩ := RG.val hT ho hg hv hsd hd hr' hr
theorem K3 {d : Option Tmp} {op : Op} {ty : TypeId} {pos : String} {af : Array Edge} {g : Option (Nat × Bool)} {r r' : Option A} {sd : Prop}
    (hr : RG P C ops draw Q s0 (⟨fpOf ops ⟨d, op, ty, pos, af, g⟩ [], d, ⟨r', [], 0⟩, n⟩ :: tr) ⟨putd d r' e, h, n⟩) (hT : TOk P L := by exact tok) (ho : ops[tr.length]? = some ⟨d, op, ty, pos, af, g⟩ := by exact rfl) (hg : wantA ops g e = some true := by exact rfl)
    (hv : vop L op (evE e) = some (r, sd) := by exact rfl) (hsd : sd := by exact trivial) (hd : dOk C d = true := by exact rfl) (hr' : r = r' := by exact iv_u64 (by omega)) : RG P C ops draw Q s0 tr ⟨e, h, n⟩ := RG.val hT ho hg hv hsd hd hr' hr
theorem K4 {d : Option Tmp} {op : Op} {ty : TypeId} {pos : String} {af : Array Edge} {g : Option (Nat × Bool)} {r r' : Option A} {sd : Prop}
    (hr : RG P C ops draw Q s0 (⟨fpOf ops ⟨d, op, ty, pos, af, g⟩ [], d, ⟨r', [], 0⟩, n⟩ :: tr) ⟨putd d r' e, h, n⟩) (hT : TOk P L := by exact tok) (ho : ops[tr.length]? = some ⟨d, op, ty, pos, af, g⟩ := by exact rfl) (hg : wantA ops g e = some true := by exact rfl)
    (hv : vop L op (evE e) = some (r, sd) := by exact rfl) (hsd : sd := by exact trivial) (hd : dOk C d = true := by exact rfl) (hr' : r = r' := by exact rfl) : RG P C ops draw Q s0 tr ⟨e, h, n⟩ := RG.val hT ho hg hv hsd hd hr' hr
theorem K5 {d : Option Tmp} {op : Op} {ty : TypeId} {pos : String} {af : Array Edge} {g : Option (Nat × Bool)} {r r' : Option A} {sd : Prop}
    (hr : RG P C ops draw Q s0 (⟨fpOf ops ⟨d, op, ty, pos, af, g⟩ [], d, ⟨r', [], 0⟩, n⟩ :: tr) ⟨putd d r' e, h, n⟩) (hT : TOk P L := by exact tok) (ho : ops[tr.length]? = some ⟨d, op, ty, pos, af, g⟩ := by exact rfl) (hg : wantA ops g e = some true := by exact rfl)
    (hv : vop L op (evE e) = some (r, sd) := by exact rfl) (hsd : sd := by omega) (hd : dOk C d = true := by exact rfl) (hr' : r = r' := by exact rfl) : RG P C ops draw Q s0 tr ⟨e, h, n⟩ := RG.val hT ho hg hv hsd hd hr' hr
theorem K6 {d : Option Tmp} {t : TypeId} {x i : Operand} {ty : TypeId} {pos : String} {af : Array Edge} {g : Option (Nat × Bool)} {n1 : Nat} {l l' : List A} {kk : IntKind} {j : Int} {el a1 b1 st b2 : Nat} {c1 c2 : Bool} {z1 z2 : List A} {k2 : TK} {a0 : A}
    (hr : RG P C ops draw Q s0 (⟨fpOf ops ⟨d, .indexAddr t x i, ty, pos, af, g⟩ [], d, ⟨some (.rp (a0 :: l')), [], 0⟩, n⟩ :: tr) ⟨putd d (some (.rp (a0 :: l'))) e, h, n⟩) (hT : TOk P L := by exact tok)
    (ho : ops[tr.length]? = some ⟨d, .indexAddr t x i, ty, pos, af, g⟩ := by exact rfl) (hg : wantA ops g e = some true := by exact rfl) (hx : evE e x = some (.ro n1 l) := by exact rfl) (hi : evE e i = some (.val (.int kk j)) := by exact rfl) (ht : look L t = some ⟨.slice el, a1, b1, c1, z1⟩ := by exact rfl) (hte : look L el = some ⟨k2, st, b2, c2, z2⟩ := by exact rfl)
    (hl : dropO (iNat j * st) l = some (a0 :: l') := by exact Go.Abs.ints_at (by omega)) (hb : 0 ≤ j ∧ j < n1 := by exact ⟨by omega, by omega⟩) (hd : dOk C d = true := by exact rfl) : RG P C ops draw Q s0 tr ⟨e, h, n⟩ := RG.idx hT ho hg hx hi ht hte hl hb hd hr
theorem K7 {d : Option Tmp} {t : TypeId} {x i : Operand} {ty : TypeId} {pos : String} {af : Array Edge} {g : Option (Nat × Bool)} {n1 : Nat} {l l' : List A} {kk : IntKind} {j : Int} {el a1 b1 st b2 : Nat} {c1 c2 : Bool} {z1 z2 : List A} {k2 : TK} {a0 : A}
    (hr : RG P C ops draw Q s0 (⟨fpOf ops ⟨d, .indexAddr t x i, ty, pos, af, g⟩ [], d, ⟨some (.rp (a0 :: l')), [], 0⟩, n⟩ :: tr) ⟨putd d (some (.rp (a0 :: l'))) e, h, n⟩) (hT : TOk P L := by exact tok)
    (ho : ops[tr.length]? = some ⟨d, .indexAddr t x i, ty, pos, af, g⟩ := by exact rfl) (hg : wantA ops g e = some true := by exact rfl) (hx : evE e x = some (.ro n1 l) := by exact rfl) (hi : evE e i = some (.val (.int kk j)) := by exact rfl) (ht : look L t = some ⟨.slice el, a1, b1, c1, z1⟩ := by exact rfl) (hte : look L el = some ⟨k2, st, b2, c2, z2⟩ := by exact rfl)
    (hl : dropO (iNat j * st) l = some (a0 :: l') := by exact Go.Abs.rows_at (by omega)) (hb : 0 ≤ j ∧ j < n1 := by exact ⟨by omega, by omega⟩) (hd : dOk C d = true := by exact rfl) : RG P C ops draw Q s0 tr ⟨e, h, n⟩ := RG.idx hT ho hg hx hi ht hte hl hb hd hr
theorem L1 {d : Option Tmp} {t : TypeId} {x : Operand} {ty : TypeId} {pos : String} {af : Array Edge} {g : Option (Nat × Bool)} {a0 v v' : A} {ks : List Nat}
    (hr : RG P C ops draw Q s0 (⟨fpOf ops ⟨d, .load t x, ty, pos, af, g⟩ ks, d, ⟨some v', [], 0⟩, n⟩ :: tr) ⟨putd d (some v') e, h, n⟩) (hT : TOk P L := by exact tok) (ho : ops[tr.length]? = some ⟨d, .load t x, ty, pos, af, g⟩ := by exact rfl) (hg : wantA ops g e = some true := by exact rfl)
    (hx : evE e x = some a0 := by exact rfl) (hl : ldA L t a0 h = some (v, ks) := by exact rfl) (hd : dOk C d = true := by exact rfl) (hv' : v = v' := by exact rfl) : RG P C ops draw Q s0 tr ⟨e, h, n⟩ := RG.load hT ho hg hx hl hd hv' hr
theorem L2 {d : Option Tmp} {op : Op} {ty : TypeId} {pos : String} {af : Array Edge} {g : Option (Nat × Bool)} {c c' : List A} {nk : NK} {sd : Prop}
    (hr : RG P C ops draw Q s0 (⟨fpOf ops ⟨d, op, ty, pos, af, g⟩ [], d, ⟨some (nk.val n), [(n, .one c')], 1⟩, n⟩ :: tr) ⟨putd d (some (nk.val n)) e, hput n (.one c') h, n + 1⟩) (hT : TOk P L := by exact tok) (ho : ops[tr.length]? = some ⟨d, op, ty, pos, af, g⟩ := by exact rfl) (hg : wantA ops g e = some true := by exact rfl)
    (hv : nop L op (evE e) = some (c, nk, sd) := by exact rfl) (hsd : sd := by exact trivial) (hd : dOk C d = true := by exact rfl) (hc : c = c' := by exact rfl) : RG P C ops draw Q s0 tr ⟨e, h, n⟩ := RG.new hT ho hg hv hsd hd hc hr
theorem L3 {d : Option Tmp} {t : TypeId} {x y : Operand} {ty : TypeId} {pos : String} {af : Array Edge} {g : Option (Nat × Bool)} {a0 v : A} {k : Nat} {p : List Nat} {c' c'' : List A} {rg : Reg}
    (hr : RG P C ops draw Q s0 (⟨fpOf ops ⟨d, .store t x y, ty, pos, af, g⟩ [k], none, ⟨none, [(k, rg)], 0⟩, n⟩ :: tr) ⟨e, hput k rg h, n⟩) (hT : TOk P L := by exact tok) (ho : ops[tr.length]? = some ⟨d, .store t x y, ty, pos, af, g⟩ := by exact rfl) (hg : wantA ops g e = some true := by exact rfl)
    (hx : evE e x = some a0 := by exact rfl) (hy : evE e y = some v := by exact rfl) (hl : stA L t a0 v h = some (k, p, c') := by exact rfl) (hd : d = none := by exact rfl) (hc : c' = c'' := by exact rfl) (hrg : (h k).set p c'' = rg := by exact rfl) : RG P C ops draw Q s0 tr ⟨e, h, n⟩ := RG.store hT ho hg hx hy hl hd hc hrg hr
theorem S1 (h : AW P C c (Q.then (fun s => AW P C c2 Q s)) s) : AW P C (.seq c c2) Q s := AW.seq h
theorem S2 {id : Nat} (hr : RG P C ops draw Q s [] s) : AW P C (.region id ops draw) Q s := AW.region hr
theorem S3 (h : Q.q .normal s) : AW P C .skip Q s := AW.skip h
theorem S4 {id : Nat} (h : AW P C c (Q.inBlock id) s) : AW P C (.block id c) Q s := AW.block h
theorem S5 {id : Nat} (h : Q.q (.exit id) s) : AW P C (.exit id) Q s := AW.exit h
theorem S6 (h : Q.q .ret s) : AW P C .ret Q s := AW.ret h
theorem S7 {c : Operand} {x y : Code} (ht : AW P C x Q s) (hc : evE s.e c = some (.val (.bool true)) := by exact rfl) : AW P C (.cond c x y) Q s := AW.condT hc ht
theorem S8 {c : Operand} {x y : Code} (hf : AW P C y Q s) (hc : evE s.e c = some (.val (.bool false)) := by exact rfl) : AW P C (.cond c x y) Q s := AW.condF hc hf
end
end
end Go.Abs
namespace Go.Abs
open Go.RowKit
theorem Sub.nilH {C : Ctx} {s : St} (k i st : Nat) {c c' : List A} (hk : s.h k = .one c) (hi : c[i]? = some (.val (.slice none 0 0))) (hkn : Nat.beq k s.n = false) (hc : c.set i (.sl s.n [] st 0 0) = c') :
    Sub C s ⟨s.e, hput k (.one c') (hput s.n (.one []) s.h), s.n + 1⟩ := by
  subst hc
  intro f a w hr
  obtain ⟨r1, r2⟩ := hr.newNil (n0 := s.n) (Nat.le_refl _)
  have hne : k ≠ s.n := fun e => by subst e; simp at hkn
  have hk1 : (hput s.n (.one []) s.h) k = .one c := by rw [hput_ne _ _ hne]; exact hk
  have live : ∀ b, Live (hput k (.one (c.set i (.sl s.n [] st 0 0))) (hput s.n (.one []) s.h)) (newPl f s.n none) b → Live (hput s.n (.one []) s.h) (newPl f s.n none) b := by
    rintro b ⟨k', p, h1, h2⟩
    refine ⟨k', p, ?_, h2⟩
    by_cases e : k' = k
    · subst e
      rw [hput_same] at h1
      rw [hk1]
      cases p with
      | nil => simp [Reg.get]
      | cons _ _ => simp [Reg.get] at h1
    · rw [hput_ne _ _ e] at h1; exact h1
  have hX : ∀ b, b < w.heap.size → C.X (hput k (.one (c.set i (.sl s.n [] st 0 0))) (hput s.n (.one []) s.h)) (newPl f s.n none) b → C.X (hput s.n (.one []) s.h) (newPl f s.n none) b := by
    rintro b _ (hb | hb)
    · exact .inl (live b hb)
    · exact .inr hb
  have m1 : ∀ {x : List A} {vs : List Value}, VL (newPl f s.n none) (C.X (hput s.n (.one []) s.h) (newPl f s.n none)) w x vs → VL (newPl f s.n none) (C.X (hput k (.one (c.set i (.sl s.n [] st 0 0))) (hput s.n (.one []) s.h)) (newPl f s.n none)) w x vs := fun h => h.mono (Ext.refl _) hX (Kp.refl (fun _ => False) w) (fun _ _ h => h.elim)
  refine ⟨newPl f s.n none, { N := r1.N, defers := r1.defers, e := fun j v hv => (r1.e j v hv).mono (Ext.refl _) hX (Kp.refl (fun _ => False) w) (fun _ _ h => h.elim), h := fun k' p c1 hc => ?_, inj := fun k1 p1 k2 p2 b h1 h2 h3 h4 => ?_, kp := r1.kp, new := fun b hb => r1.new b (live b hb), y := r1.y, fr := fun k hk => r1.fr k ⟨Nat.le_of_succ_le hk, by have : s.n + 1 ≤ k := hk; omega⟩, ext := r1.ext, dom := r1.dom }⟩
  · dsimp only at hc
    by_cases e : k' = k
    · subst e
      rw [hput_same] at hc
      cases p with
      | cons _ _ => simp [Reg.get] at hc
      | nil =>
        simp only [Reg.get, Option.some.injEq] at hc
        subst hc
        rcases r1.h k' [] c (by show (hput s.n (Reg.one []) s.h k').get [] = some c; rw [hk1]; rfl) with ⟨h1, h2⟩ | ⟨b, arr, el, h1, h2, h3, h4⟩
        · subst h1; simp at hi
        · refine .inr ⟨b, arr, el, h1, h2, by rw [List.length_set]; exact h3, ?_⟩
          rw [List.length_set]
          refine m1 ?_
          obtain ⟨v, g1, g2⟩ := h4.get hi
          have hv := g2.val
          subst hv
          have hset := h4.set i (x := .sl s.n [] st 0 0) (v := .slice none 0 0) (by simp only [V]; exact .inl ⟨by simp [newPl], by simp⟩)
          have : (arr.toList.take c.length).set i (.slice none 0 0) = arr.toList.take c.length := by
            apply List.ext_getElem?
            intro j
            by_cases hj : i = j
            · subst hj
              rw [List.getElem?_set_self (List.getElem?_eq_some_iff.1 g1).1, g1]
            · rw [List.getElem?_set_ne hj]
          rw [this] at hset
          exact hset
    · rw [hput_ne _ _ e] at hc
      rcases r1.h k' p c1 hc with h1 | ⟨b, arr, el, h1, h2, h3, h4⟩
      · exact .inl h1
      · exact .inr ⟨b, arr, el, h1, h2, h3, m1 h4⟩
  · have back : ∀ k' p, (hput k (.one (c.set i (.sl s.n [] st 0 0))) (hput s.n (.one []) s.h) k').get p ≠ none → (hput s.n (.one []) s.h k').get p ≠ none := by
      intro k' p h
      by_cases e : k' = k
      · subst e
        rw [hput_same] at h
        rw [hk1]
        cases p with
        | nil => simp [Reg.get]
        | cons _ _ => simp [Reg.get] at h
      · rw [hput_ne _ _ e] at h; exact h
    exact r1.inj k1 p1 k2 p2 b (back _ _ h1) (back _ _ h2) h3 h4
end Go.Abs
namespace Go.Abs
open Go.RowKit
section
variable {P : Program} {L : List (Nat × TI)} {C : Ctx} {ops : Array Oper} {draw : Bool} {Q : AQ} {s0 : St} {tr : List TE} {e : Nat → Option A} {h : Nat → Reg} {n : Nat}
theorem L4 {d : Option Tmp} {t : TypeId} {x : Operand} {ty : TypeId} {pos : String} {af : Array Edge} {g : Option (Nat × Bool)} {a0 v v' : A} {k : Nat}
    (hr : RG P C ops draw Q s0 (⟨⟨gslot ops g ++ oslots (.load t x), [], [(k, fun reg => ldA L t a0 (fun _ => reg) = some (v', [k]))]⟩, d, ⟨some v', [], 0⟩, n⟩ :: tr) ⟨putd d (some v') e, h, n⟩) (hT : TOk P L := by exact tok) (ho : ops[tr.length]? = some ⟨d, .load t x, ty, pos, af, g⟩ := by exact rfl) (hg : wantA ops g e = some true := by exact rfl)
    (hx : evE e x = some a0 := by exact rfl) (hl : ldA L t a0 h = some (v, [k]) := by exact rfl) (hd : dOk C d = true := by exact rfl) (hv' : v = v' := by exact rfl) : RG P C ops draw Q s0 tr ⟨e, h, n⟩ := RG.loadS hT ho hg hx hl hd hv' hr
theorem SoftT.skip {ops : Array Oper} {j : Nat} {x : Nat × (Reg → Prop)} : ∀ {i : Nat} {l : List TE}, l.all (fun t => t.E.hs.all (fun kr => !Nat.beq kr.1 x.1)) = true → SoftT ops j x i l
  | i, [], _ => .nil i
  | i, t :: l, h => by
    rw [List.all_cons, Bool.and_eq_true] at h
    refine .cons ?_ (SoftT.skip h.2)
    have h1 := h.1
    generalize t.E.hs = q at h1
    induction q with
    | nil => exact .nil
    | cons y q ih =>
      rw [List.all_cons, Bool.and_eq_true] at h1
      exact .ne (by simpa using h1.1) (ih h1.2)
theorem RG.dS {s : St} (hq : Q.q .normal s) (hl : Nat.beq tr.length ops.size = true := by exact rfl) (hm : P.follows .mixedOrders = true := by kernel_rfl) (hc : cfreeS ops tr.reverse = true := by kernel_rfl)
    (hs : SoftU ops tr.reverse s0 0 tr.reverse := by repeat (first | exact SoftU.nil _ | refine SoftU.cons ?_ ?_ | exact SoftX.nil | refine SoftX.cons (by exact rfl) ?_ ?_ | exact SoftT.nil _ | exact SoftT.skip (by exact rfl) | refine SoftT.cons (by repeat (first | exact SoftE.nil | refine SoftE.ne rfl ?_ | refine SoftE.eq (by exact rfl) ?_)) ?_ | refine SoftT.late (by kernel_rfl) ?_)) : RG P C ops true Q s0 tr s := RG.doneS hm hl hc hs hq
end
end Go.Abs
namespace Go.Abs
open Go.RowKit
/-- What is left, where some objects may be gone. -/
inductive PostOk (σ : Nat → Nat) (h : Nat → Reg) (q : Nat) : Nat → List Reg → Prop
  | nil (i : Nat) : PostOk σ h q i []
  | cons {i : Nat} {r r' : Reg} {rs : List Reg} : h (σ i) = r' → Same σ r r' → r.lt q → PostOk σ h q (i + 1) rs → PostOk σ h q i (r :: rs)
  | gone {i : Nat} {rs : List Reg} : PostOk σ h q (i + 1) rs → PostOk σ h q i (.gone :: rs)
theorem PostOk.get {σ : Nat → Nat} {h : Nat → Reg} {q : Nat} : ∀ {i : Nat} {rs : List Reg}, PostOk σ h q i rs → ∀ j r, rs[j]? = some r → r ≠ .gone → Same σ r (h (σ (i + j))) ∧ r.lt q
  | _, _, .nil i, j, r, hj, _ => by simp at hj
  | _, _, .cons (i := i) h1 h2 h3 h4, j, r, hj, hn => by
    cases j with
    | zero => simp at hj; subst hj; rw [Nat.add_zero, h1]; exact ⟨h2, h3⟩
    | succ j => simp at hj; have := h4.get j r hj hn; rw [show i + (j + 1) = i + 1 + j from by omega]; exact this
  | _, _, .gone (i := i) h4, j, r, hj, hn => by
    cases j with
    | zero => simp at hj; subst hj; exact absurd rfl hn
    | succ j => simp at hj; have := h4.get j r hj hn; rw [show i + (j + 1) = i + 1 + j from by omega]; exact this
section
variable {P : Program} {L : List (Nat × TI)}
structure RetOkG (L : List (Nat × TI)) (rs : List ResultVar) (σ : Nat → Nat) (r : A) (post : List Reg) (s : St) : Prop where
  res : ∃ l, resA L s.e s.h rs = some l ∧ resV l = r.ren σ
  lt : r.lt post.length = true
  post : PostOk σ s.h post.length 0 post
def retQG (L : List (Nat × TI)) (rs : List ResultVar) (σ : Nat → Nat) (r : A) (post : List Reg) (Pp : List PanicEntry → Prop) : AQ :=
  ⟨fun e s => match e with
    | .normal => RetOkG L rs σ r post s
    | .ret => RetOkG L rs σ r post s
    | _ => False, Pp⟩
theorem FC.of_AWG {I : GI} (hT : TOk P L) {g : FuncId} {fn : Func} {c : Code} {N : Nat} (hfn : P.funcs[g]? = some fn) (hname : (fn.name == "runtime.NumGoroutine") = false) (hb : fn.body = some c) (hN : fn.ntmps = N)
    {args : List A} {pre post : List Reg} {r : A} {Pp : List PanicEntry → Prop} (sg : List Nat) (hla : Nat.ble args.length N = true) (hsg : Nat.beq (pre.length + sg.length) post.length = true) (hok : sgOk pre.length sg = true)
    (aw : ∀ w0 X0 Y f0 hI hX, AW P ⟨w0, X0, Y, N, f0, pre.length, I, hI, hX, [], fun _ => none⟩ c (retQG L fn.results.toList (bodySig pre.length sg) r post Pp) ⟨argE args, regs pre, pre.length⟩) : FC P I g args pre r post Pp := by
  have hsg := Nat.eq_of_beq_eq_true hsg
  have hla := Nat.le_of_ble_eq_true hla
  let σ := bodySig pre.length sg
  have σlt : ∀ k, k < pre.length → σ k = k := by
    intro k hk
    show (bif Nat.blt k pre.length then k else _) = k
    rw [show Nat.blt k pre.length = true from Nat.ble_eq_true_of_le hk]; rfl
  have σge : ∀ k, pre.length ≤ k → σ k = sg.getD (k - pre.length) 0 := by
    intro k hk
    show (bif Nat.blt k pre.length then k else _) = _
    have : Nat.blt k pre.length = false := by
      cases hb : Nat.blt k pre.length with
      | false => rfl
      | true => have : k < pre.length := Nat.le_of_ble_eq_true hb; omega
    rw [this]; rfl
  have σinj : ∀ i j, i < post.length → j < post.length → σ i = σ j → i = j := by
    intro i j hi hj e
    by_cases h1 : i < pre.length <;> by_cases h2 : j < pre.length
    · rw [σlt i h1, σlt j h2] at e; exact e
    · rw [σlt i h1, σge j (by omega)] at e
      have := sgOk_get hok (j - pre.length) (by omega); omega
    · rw [σge i (by omega), σlt j h2] at e
      have := sgOk_get hok (i - pre.length) (by omega); omega
    · rw [σge i (by omega), σge j (by omega)] at e
      have := sgOk_inj hok _ _ (by omega) (by omega) e; omega
  refine ⟨fun as w => ?_, by omega, ?_⟩
  · have hname' : ¬ fn.name = "runtime.NumGoroutine" := by simpa using hname
    simp [callFunc, hfn, hname', hb]
  · intro f0 Y w vs hgi hlow hfr hY hHR hInj hargs
    have hvl := hargs.length
    refine calls_of_wp hfn hb ?_
    let C : Ctx := ⟨w, Live (regs pre) f0, Y, N, f0, pre.length, I, hgi, hlow, [], fun _ => none⟩
    have tget : ∀ i v, argE args i = some v → V f0 (XOf (regs pre) f0 Y) w v ((vs.toArray ++ Array.replicate (fn.ntmps - vs.toArray.size) undef).getD i undef) := by
      intro i v hi
      rw [show argE args i = args[i]? from getO_eq args i] at hi
      obtain ⟨u, h1, h2⟩ := hargs.get hi
      have hlt := (List.getElem?_eq_some_iff.1 h1).1
      rw [Array.getD_eq_getD_getElem?, Array.getElem?_append_left (by simpa using hlt)]
      simpa [h1] using h2
    have hrel : Rel C ⟨argE args, regs pre, pre.length⟩ (From pre.length) f0 { tmps := vs.toArray ++ Array.replicate (fn.ntmps - vs.toArray.size) undef, defers := [] } w :=
      { N := by simp only [Array.size_append, List.size_toArray, Array.size_replicate, hN]; show vs.length + (N - vs.length) = N; omega
        defers := ⟨rfl, fun _ _ h => by cases h⟩
        e := tget
        h := hHR
        inj := hInj
        kp := Kp.refl _ w
        new := fun b hb => .inr hb
        y := hY
        fr := fun k hk p => hfr k hk p
        ext := Ext.refl f0
        dom := hfr }
    have fin : ∀ (s : St) (f : Pl) (a : Act) (w' : World), RetOkG L fn.results.toList σ r post s → Rel C s (From s.n) f a w' → a.defers = [] ∧ ∃ v, (results fn a.tmps).run P w' = .ok v w' ∧ FCPost f0 pre Y w r post Pp (.returned v) w' := by
      rintro s f a w' ⟨⟨l, hl, hlr⟩, hlt, hpost⟩ hr
      obtain ⟨v, h1, h2⟩ := results_run hT hr hl
      refine ⟨hr.defers.1, v, h1, ?_⟩
      let f1 : Pl := fun k p => if k < post.length then f (σ k) p else none
      have hf1 : ∀ k, k < post.length → f1 k = f (σ k) := by
        intro k hk
        funext p
        show (if k < post.length then f (σ k) p else none) = _
        rw [if_pos hk]
      have there : ∀ k p c, (regs post k).get p = some c → k < post.length ∧ (s.h (σ k)).get p = some (renL σ c) ∧ ltL post.length c = true := by
        intro k p c hk
        obtain ⟨r0, g1, g2, g3⟩ := regs_get hk
        obtain ⟨g4, g5⟩ := hpost.get k r0 g1 (fun e => by rw [e] at g2; cases g2)
        rw [Nat.zero_add] at g4
        exact ⟨g3, by rw [g4 p, g2]; rfl, g5 p c g2⟩
      have liveB : ∀ b, Live (regs post) f1 b → Live s.h f b := by
        rintro b ⟨k, p, g1, g2⟩
        obtain ⟨c, hc⟩ := Option.ne_none_iff_exists'.1 g1
        obtain ⟨g3, g4, _⟩ := there k p c hc
        rw [hf1 k g3] at g2
        exact ⟨_, p, by rw [g4]; simp, g2⟩
      have hX : ∀ b, b < w'.heap.size → XOf (regs post) f1 Y b → C.X s.h f b := by
        rintro b _ (hb | hb)
        · exact .inl (liveB b hb)
        · exact .inr hb
      refine ⟨f1, ?_, ?_, ?_, ?_, ?_, hr.kp, fun b hb => hr.new b (liveB b hb)⟩
      · intro k p b hb
        have hk : k < pre.length := by
          rcases Nat.lt_or_ge k pre.length with h | h
          · exact h
          · rw [hfr k h p] at hb; cases hb
        rw [hf1 k (by omega), σlt k hk]
        exact hr.ext k p b hb
      · intro k hk p
        show (if k < post.length then f (σ k) p else none) = none
        rw [if_neg (by omega)]
      · rw [hlr] at h2
        exact (V.unren r f f1 hf1 hlt v h2).mono (Ext.refl _) hX (Kp.refl (fun _ => False) w') (fun _ _ h => h.elim)
      · intro k p c hk
        obtain ⟨g3, g4, g5⟩ := there k p c hk
        rcases hr.h _ p _ g4 with ⟨g6, g7⟩ | ⟨b, arr, el, g6, g7, g8, g9⟩
        · refine .inl ⟨?_, by rw [hf1 k g3]; exact g7⟩
          have := congrArg List.length g6
          rw [renL_length] at this
          simpa using this
        · refine .inr ⟨b, arr, el, by rw [hf1 k g3]; exact g6, g7, by rw [renL_length] at g8; exact g8, ?_⟩
          rw [renL_length] at g9
          exact (VL.unren c f f1 hf1 g5 _ g9).mono (Ext.refl _) hX (Kp.refl (fun _ => False) w') (fun _ _ h => h.elim)
      · intro k p k' p' b g1 g2 g3 g4
        obtain ⟨c, hc⟩ := Option.ne_none_iff_exists'.1 g1
        obtain ⟨c', hc'⟩ := Option.ne_none_iff_exists'.1 g2
        obtain ⟨q1, q2, _⟩ := there k p c hc
        obtain ⟨q3, q4, _⟩ := there k' p' c' hc'
        rw [hf1 k q1] at g3
        rw [hf1 k' q3] at g4
        have := hr.inj _ p _ p' b (by rw [q2]; simp) (by rw [q4]; simp) g3 g4
        exact ⟨σinj k k' q1 q3 this.1, this.2⟩
    refine wp_mono (aw w (Live (regs pre) f0) Y f0 hgi hlow f0 _ w hrel) ?_
    intro en a w' hen
    cases en with
    | normal => obtain ⟨s, f, h1, h2⟩ := hen; exact fin s f a w' h1 h2
    | ret => obtain ⟨s, f, h1, h2⟩ := hen; exact fin s f a w' h1 h2
    | exit id => obtain ⟨s, f, h1, h2⟩ := hen; exact h1.elim
    | goto l => obtain ⟨s, f, h1, h2⟩ := hen; exact h1.elim
    | panic ch => exact ⟨hen.2.2.1, hen.1, hen.2.1⟩
    | outgrown => exact hen.elim
end
end Go.Abs
