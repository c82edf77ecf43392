/- Operations that only compute do so. No conditions. -/
import Derived.Test.YtbhahgbdkgjliaaGreatDoorAbsA
import Derived.Laws.AppendOwn
set_option linter.unusedVariables false
set_option linter.unusedSimpArgs false
namespace Go.Abs
open Go.RowKit
section
variable {P : Program} {L : List (Nat × TI)} {f : Pl} {X : Nat → Prop} {w : World} {ev : Operand → Option A} {ρ : Operand → Value}
/-- What a run of an operation that only computes is to be. -/
def Yld (P : Program) (f : Pl) (X : Nat → Prop) (w : World) (ρ : Operand → Value) (o : Oper) (r : Option A) : Prop :=
  ∃ v, (execOp ρ o).run P w = .ok (.value v) w ∧ ∀ a, r = some a → V f X w a v
theorem Yld.mk {o : Oper} {r : A} {v : Value} (h : (execOp ρ o).run P w = .ok (.value v) w) (hv : V f X w r v) : Yld P f X w ρ o (some r) :=
  ⟨v, h, fun a ha => by simp only [Option.some.injEq] at ha; subst ha; exact hv⟩
theorem Yld.opt {o : Oper} {x : Operand} {r : Option A} {s : Prop} (hev : ∀ x v, ev x = some v → V f X w v (ρ x)) (h : (execOp ρ o).run P w = .ok (.value (ρ x)) w)
    (he : (match ev x with | some v => some (some v, True) | none => some (none, True)) = some (r, s)) : Yld P f X w ρ o r := by
  refine ⟨_, h, fun a ha => ?_⟩
  split at he
  · rename_i v hv
    simp only [Option.some.injEq, Prod.mk.injEq] at he
    obtain ⟨rfl, _⟩ := he
    simp only [Option.some.injEq] at ha; subst ha
    exact hev _ _ hv
  · simp only [Option.some.injEq, Prod.mk.injEq] at he
    obtain ⟨rfl, _⟩ := he
    cases ha
variable {dst : Option Tmp} {ty : TypeId} {pos : String} {after : Array Edge} {guard : Option (Nat × Bool)} {r : Option A} {s : Prop}
theorem run_v {x : Sem Value} {v : Value} {w' : World} (h : x.run P w = .ok v w') : (do pure (Next.value (← x)) : Sem Next).run P w = .ok (.value v) w' := by
  simp only [Sem.run_bind, h, Result.andThen]; rfl
theorem y_pick (hev : ∀ x v, ev x = some v → V f X w v (ρ x)) {c a b : Operand} (h : vop L (.pick c a b) ev = some (r, s)) : Yld P f X w ρ ⟨dst, .pick c a b, ty, pos, after, guard⟩ r := by
  simp only [vop] at h
  split at h
  · rename_i hc
    have h1 := (hev _ _ hc).val
    exact Yld.opt (x := a) hev (by simp [execOp, h1, asBool]) h
  · rename_i hc
    have h1 := (hev _ _ hc).val
    exact Yld.opt (x := b) hev (by simp [execOp, h1, asBool]) h
  · cases h
theorem y_build (hT : TOk P L) (hev : ∀ x v, ev x = some v → V f X w v (ρ x)) {t : TypeId} {parts : Array (Nat × Operand)} (h : vop L (.build t parts) ev = some (r, s)) : Yld P f X w ρ ⟨dst, .build t parts, ty, pos, after, guard⟩ r := by
  simp only [vop] at h
  split at h
  · rename_i pl ag a b c zero hl
    split at h
    · rename_i l hf
      simp only [Option.some.injEq, Prod.mk.injEq] at h
      obtain ⟨rfl, _⟩ := h
      obtain ⟨i, u, z, h1, h2, h3, h4, h5, h6, h7, h8⟩ := TIof.spec (hT _ _ hl)
      obtain ⟨gs, rfl, h9, h10⟩ := kindOf_struct h4.symm
      dsimp only at h8
      subst h8
      obtain ⟨cells, h11, h12⟩ := fill_spec hev parts.toList _ l z.cells (VL.vals _) hf
      refine Yld.mk (v := .agg cells) ?_ (by simp only [V]; exact ⟨cells.toList, by simp, h12⟩)
      refine run_v ?_
      refine run_build w t _ cells ?_
      have h13 : (fun (i : Nat) => pl.toArray[i]?) = fun (i : Nat) => pl[i]? := by funext i; simp
      simp only [Program.built, h1, h2, h3, h9, h13]
      rw [← h11]
      congr 1
      simp
    · cases h
  · rename_i n e a b c zero hl
    split at h
    · rename_i k st a' b' c' hle
      split at h
      · rename_i l hf
        simp only [Option.some.injEq, Prod.mk.injEq] at h
        obtain ⟨rfl, _⟩ := h
        obtain ⟨i, u, z, h1, h2, h3, h4, h5, h6, h7, h8⟩ := TIof.spec (hT _ _ hl)
        obtain rfl := kindOf_array h4.symm
        obtain ⟨ie, ue, ze, g1, g2, g3, g4, g5, g6, g7, g8⟩ := TIof.spec (hT _ _ hle)
        dsimp only at h8 g5
        subst h8 g5
        obtain ⟨cells, h11, h12⟩ := fill_spec hev parts.toList _ l z.cells (VL.vals _) hf
        refine Yld.mk (v := .agg cells) ?_ (by simp only [V]; exact ⟨cells.toList, by simp, h12⟩)
        refine run_v ?_
        refine run_build w t _ cells ?_
        simp only [Program.built, h1, h2, h3, g1]
        rw [← h11]
        congr 1
        simp
      · cases h
    · cases h
  · cases h
theorem y_nilCheck (hev : ∀ x v, ev x = some v → V f X w v (ρ x)) {x : Operand} (h : vop L (.nilCheck x) ev = some (r, s)) : Yld P f X w ρ ⟨dst, .nilCheck x, ty, pos, after, guard⟩ r := by
  simp only [vop] at h
  split at h
  all_goals first
    | (cases h; done)
    | (rename_i hx
       simp only [Option.some.injEq, Prod.mk.injEq] at h
       obtain ⟨rfl, _⟩ := h
       have h1 := hev _ _ hx
       refine Yld.mk (v := ρ x) ?_ h1
       simp only [V] at h1
       first
         | (obtain ⟨b, _, h2⟩ := h1; simp [execOp, h2]; done)
         | (obtain ⟨b, h2, _⟩ := h1; simp [execOp, h2]; done)
         | (obtain ⟨_, _, h2, _⟩ := h1; simp [execOp, h2]; done))
theorem y_binOp (hT : TOk P L) (hev : ∀ x v, ev x = some v → V f X w v (ρ x)) {op : BinOp} {t t2 : TypeId} {x y : Operand} (h : vop L (.binOp op t x y t2) ev = some (r, s)) (hs : s) : Yld P f X w ρ ⟨dst, .binOp op t x y t2, ty, pos, after, guard⟩ r := by
  simp only [vop] at h
  split at h
  · rename_i a b ha hb
    split at h
    · rename_i r' s' hr
      simp only [Option.some.injEq, Prod.mk.injEq] at h
      obtain ⟨rfl, rfl⟩ := h
      obtain ⟨z, h1, h2⟩ := binA_run hT (hev _ _ ha) (hev _ _ hb) hr hs
      refine Yld.mk ?_ h2
      have hg := eqGuard_run (P := P) (w := w) (x := x) (y := y) (hev _ _ ha) (hev _ _ hb) hr
      refine run_v ?_
      simp only [Sem.run_bind, hg, Result.andThen, h1]
    · cases h
  · cases h
theorem y_unOp (hev : ∀ x v, ev x = some v → V f X w v (ρ x)) {op : UnOp} {t : TypeId} {x : Operand} (h : vop L (.unOp op t x) ev = some (r, s)) : Yld P f X w ρ ⟨dst, .unOp op t x, ty, pos, after, guard⟩ r := by
  simp only [vop] at h
  split at h
  all_goals first
    | (cases h; done)
    | (rename_i hx
       simp only [Option.some.injEq, Prod.mk.injEq] at h
       obtain ⟨rfl, _⟩ := h
       have h1 := (hev _ _ hx).val
       refine Yld.mk (run_v ?_) (V.mkVal _)
       simp [h1, Op.unary, Op.intArith, Op.intBits])
theorem y_convert (hT : TOk P L) (hev : ∀ x v, ev x = some v → V f X w v (ρ x)) {src d : TypeId} {x : Operand} (h : vop L (.convert src d x) ev = some (r, s)) : Yld P f X w ρ ⟨dst, .convert src d x, ty, pos, after, guard⟩ r := by
  simp only [vop] at h
  split at h
  · rename_i ti k a b c z n hs' hd hx
    simp only [Option.some.injEq, Prod.mk.injEq] at h
    obtain ⟨rfl, _⟩ := h
    have h1 := (hev _ _ hx).val
    obtain ⟨u, h2, h3, h4⟩ := look_kind hT hd
    obtain rfl := kindOf_int h3
    obtain ⟨u', h5, h6, h7⟩ := TIof.und (hT _ _ hs')
    refine Yld.mk (run_v ?_) (V.mkVal _)
    simp [convert, h7, h4, h1, Conv.intToInt]
  · rename_i ti a b c z sx hs' hd hx
    simp only [Option.some.injEq, Prod.mk.injEq] at h
    obtain ⟨rfl, _⟩ := h
    have h1 := (hev _ _ hx).val
    obtain ⟨u, h2, h3, h4⟩ := look_kind hT hd
    obtain rfl := kindOf_string h3
    obtain ⟨u', h5, h6, h7⟩ := TIof.und (hT _ _ hs')
    refine Yld.mk (run_v ?_) (V.mkVal _)
    cases u' <;> simp [convert, h7, h4, h1]
  · cases h
theorem y_makeInterface (hT : TOk P L) (hev : ∀ x v, ev x = some v → V f X w v (ρ x)) {t : TypeId} {x : Operand} (h : vop L (.makeInterface t x) ev = some (r, s)) : Yld P f X w ρ ⟨dst, .makeInterface t x, ty, pos, after, guard⟩ r := by
  simp only [vop] at h
  split at h
  · cases h
  · rename_i ti v hn ht hx
    simp only [Option.some.injEq, Prod.mk.injEq] at h
    obtain ⟨rfl, _⟩ := h
    obtain ⟨u, h5, h6, h7⟩ := TIof.und (hT _ _ ht)
    refine Yld.mk (v := .iface t (ρ x)) (run_v ?_) (by simp only [V]; exact ⟨_, rfl, hev _ _ hx⟩)
    have : ∀ ms, u ≠ .interface ms := kindOf_iface (P := P) (fun hh => by
      rw [← h6] at hh
      obtain ⟨k, a, b, c, z⟩ := ti
      dsimp only at hh
      subst hh
      exact hn _ _ _ _ rfl)
    cases u <;> first
      | exact absurd rfl (this _)
      | simp [Instr.makeInterface, h7]
  · cases h
theorem y_makeFunc (hev : ∀ x v, ev x = some v → V f X w v (ρ x)) {g : Fn} {first caps : Array Operand} (h : vop L (.makeFunc g first caps) ev = some (r, s)) : Yld P f X w ρ ⟨dst, .makeFunc g first caps, ty, pos, after, guard⟩ r := by
  cases g with
  | func g =>
    simp only [vop] at h
    split at h
    · rename_i a b ha hb
      simp only [Option.some.injEq, Prod.mk.injEq] at h
      obtain ⟨rfl, _⟩ := h
      have h1 := mapEv_spec hev ha
      have h2 := mapEv_spec hev hb
      refine Yld.mk (run_v (v := .func (.func g) (first.map ρ) (caps.map ρ)) (by simp [Instr.makeFunc])) ?_
      simp only [V]
      exact ⟨_, _, by rw [← Array.toList_map, ← Array.toList_map], h1, h2⟩
    · cases h
  | _ => simp only [vop, reduceCtorEq] at h
theorem y_extract (hev : ∀ x v, ev x = some v → V f X w v (ρ x)) {x : Operand} {i : Nat} (h : vop L (.extract x i) ev = some (r, s)) : Yld P f X w ρ ⟨dst, .extract x i, ty, pos, after, guard⟩ r := by
  simp only [vop] at h
  split at h
  · rename_i l hx
    split at h
    · rename_i v hv
      simp only [Option.some.injEq, Prod.mk.injEq] at h
      obtain ⟨rfl, _⟩ := h
      have h1 := hev _ _ hx
      simp only [V] at h1
      obtain ⟨vs, h2, h3⟩ := h1
      rw [getO_eq] at hv
      obtain ⟨u, h4, h5⟩ := h3.get hv
      exact Yld.mk (run_v (v := u) (by simp [Instr.extract, h2, h4])) h5
    · cases h
  · cases h
theorem y_fieldAddr (hT : TOk P L) (hev : ∀ x v, ev x = some v → V f X w v (ρ x)) {t : TypeId} {x : Operand} {i : Nat} (h : vop L (.fieldAddr t x i) ev = some (r, s)) : Yld P f X w ρ ⟨dst, .fieldAddr t x i, ty, pos, after, guard⟩ r := by
  have place : ∀ {pl : List (Nat × Nat)} {ag : List Bool} {a b : Nat} {c : Bool} {z : List A} {o sz : Nat} {q : Addr}, look L t = some ⟨.struct pl ag, a, b, c, z⟩ → pl[i]? = some (o, sz) → sz ≠ 0 → q.spot = none → ρ x = .pointer (some q) →
      (execOp ρ ⟨dst, .fieldAddr t x i, ty, pos, after, guard⟩).run P w = .ok (.value (.pointer (some ⟨q.block, q.off + o, none⟩))) w := by
    intro pl ag a b c z o sz q hl hp hsz hq hx
    obtain ⟨u, h1, h2, h3⟩ := look_kind hT hl
    obtain ⟨gs, rfl, h4, h5⟩ := kindOf_struct h2
    obtain ⟨fd, h6, h7⟩ := mapM_get h4 _ _ hp
    cases hi : P.info? fd.type with
    | none => rw [hi] at h7; cases h7
    | some ie =>
      rw [hi] at h7
      simp only [Option.map_some, Option.some.injEq, Prod.mk.injEq] at h7
      obtain ⟨rfl, rfl⟩ := h7
      have h8 : (sizeOf fd.type).run P w = .ok ie.size w := by simp [sizeOf, typeInfo, hi]
      have h9 : gs[i]? = some fd := by simpa using h6
      refine run_v ?_
      simp [Instr.fieldAt, h3, h9, hx, Instr.sureAddr, fieldPlace, h8, hsz, addr_add hq]
  simp only [vop] at h
  split at h
  · rename_i pl ag a b c z k p off hl hx
    split at h
    · rename_i o sz hp
      cases hb : Nat.beq sz 0 with
      | true => rw [hb] at h; cases h
      | false =>
        rw [hb] at h
        simp only [cond_false, Option.some.injEq, Prod.mk.injEq] at h
        obtain ⟨rfl, _⟩ := h
        have hz : sz ≠ 0 := by rintro rfl; simp at hb
        have h1 := hev _ _ hx
        simp only [V] at h1
        obtain ⟨bb, h2, h3⟩ := h1
        exact Yld.mk (place hl hp hz rfl h3) (by simp only [V]; exact ⟨bb, h2, rfl⟩)
    · cases h
  · rename_i pl ag a b c z l hl hx
    split at h
    · rename_i o sz hp
      cases hb : Nat.beq sz 0 with
      | true => rw [hb] at h; cases h
      | false =>
        rw [hb] at h
        simp only [cond_false] at h
        split at h
        · rename_i l' hd
          simp only [Option.some.injEq, Prod.mk.injEq] at h
          obtain ⟨rfl, _⟩ := h
          have hz : sz ≠ 0 := by rintro rfl; simp at hb
          obtain ⟨rfl, _⟩ := dropO_spec hd
          obtain ⟨q, h2, h3, h4⟩ := rp_drop o (hev _ _ hx)
          exact Yld.mk (place hl hp hz h3 h2) h4
        · cases h
    · cases h
  · cases h
theorem y_field (hT : TOk P L) (hev : ∀ x v, ev x = some v → V f X w v (ρ x)) {t : TypeId} {x : Operand} {i : Nat} (h : vop L (.field t x i) ev = some (r, s)) : Yld P f X w ρ ⟨dst, .field t x i, ty, pos, after, guard⟩ r := by
  simp only [vop] at h
  split at h
  · rename_i pl ag a b c z l hl hx
    split at h
    · rename_i o sz g hp hg
      split at h
      · rename_i l1 h1
        split at h
        · rename_i l2 h2
          split at h
          · rename_i v h3
            simp only [Option.some.injEq, Prod.mk.injEq] at h
            obtain ⟨rfl, _⟩ := h
            obtain ⟨u, k1, k2, k3⟩ := look_kind hT hl
            obtain ⟨gs, rfl, k4, k5⟩ := kindOf_struct k2
            obtain ⟨fd, k6, k7⟩ := mapM_get k4 _ _ hp
            obtain ⟨fd', k8, k9⟩ := mapM_get k5 _ _ hg
            rw [k6] at k8
            obtain rfl := Option.some.inj k8
            cases hi : P.info? fd.type with
            | none => rw [hi] at k7; cases k7
            | some ie =>
            cases hu : P.underlying fd.type with
            | none => rw [hu] at k9; cases k9
            | some ue =>
              rw [hi] at k7
              rw [hu] at k9
              simp only [Option.map_some, Option.some.injEq, Prod.mk.injEq] at k7 k9
              obtain ⟨rfl, rfl⟩ := k7
              subst k9
              have e1 : (sizeOf fd.type).run P w = .ok ie.size w := by simp [sizeOf, typeInfo, hi]
              have e2 : (isAgg fd.type).run P w = .ok (aggD ue) w := by cases ue <;> simp [isAgg, run_underlying hu, aggD]
              have e3 : gs[i]? = some fd := by simpa using k6
              have e4 := hev _ _ hx
              simp only [V] at e4
              obtain ⟨vs, e5, e6⟩ := e4
              obtain ⟨uu, e7, e8⟩ := part_run e2 e1 e6 h1 h2 h3
              refine Yld.mk (run_v ?_) e8
              simp [Instr.field, k3, e3, e5, asAgg, e7]
          · cases h
        · cases h
      · cases h
    · cases h
  · cases h
end
end Go.Abs
namespace Go.Abs
open Go.RowKit
section
variable {P : Program} {L : List (Nat × TI)} {f : Pl} {X : Nat → Prop} {w : World} {ev : Operand → Option A} {ρ : Operand → Value}
variable {dst : Option Tmp} {ty : TypeId} {pos : String} {after : Array Edge} {guard : Option (Nat × Bool)} {r : Option A} {s : Prop}
/-- What the bounds of a slice expression are told as. -/
theorem bnd_spec (hev : ∀ x v, ev x = some v → V f X w v (ρ x)) {x : Option Operand} {o : Option Int} (h : bnd ev x = some o) : (x = none ∧ o = none) ∨ ∃ y k n, x = some y ∧ o = some n ∧ ρ y = .int k n := by
  cases x with
  | none => simp only [bnd, Option.some.injEq] at h; exact .inl ⟨rfl, h.symm⟩
  | some y =>
    simp only [bnd] at h
    split at h
    · rename_i k n hy
      simp only [Option.some.injEq] at h
      exact .inr ⟨y, k, n, rfl, h.symm, (hev _ _ hy).val⟩
    · cases h
def loN (o : Option Int) : Nat := match o with | none => 0 | some l => iNat l
def hiN (len : Nat) (o : Option Int) : Nat := match o with | none => len | some h => iNat h
/-- The bounds, run. -/
theorem bounds_run {isS : Bool} {len cap : Nat} {lo hi : Option Operand} {l h : Option Int}
    (hl : (lo = none ∧ l = none) ∨ ∃ y k n, lo = some y ∧ l = some n ∧ ρ y = .int k n) (hh : (hi = none ∧ h = none) ∨ ∃ y k n, hi = some y ∧ h = some n ∧ ρ y = .int k n)
    (h1 : ∀ n, h = some n → 0 ≤ n ∧ n ≤ cap) (h2 : ∀ n, l = some n → 0 ≤ n ∧ n ≤ hiN len h) :
    (Instr.sliceBounds isS len cap (lo.map ρ) (hi.map ρ) none).run P w = .ok (loN l, hiN len h, cap) w := by
  rcases hl with ⟨rfl, rfl⟩ | ⟨y, k, n, rfl, rfl, hy⟩ <;> rcases hh with ⟨rfl, rfl⟩ | ⟨y', k', n', rfl, rfl, hy'⟩
  · simp [Instr.sliceBounds, loN, hiN]
  · have := h1 _ rfl
    simp [Instr.sliceBounds, Instr.sliceBound, hy', asIntOf, loN, hiN, this, iNat_eq]
  · have := h2 _ rfl
    simp only [hiN] at this
    simp [Instr.sliceBounds, Instr.sliceBound, hy, asIntOf, loN, hiN, this, iNat_eq]
  · have a := h1 _ rfl
    have b := h2 _ rfl
    simp only [hiN, iNat_eq] at b
    have c : n ≤ n' := by have := b.2; omega
    have c' : n ≤ ((n'.toNat : Nat) : Int) := b.2
    have d : max n' 0 = n' := by omega
    simp [Instr.sliceBounds, Instr.sliceBound, hy, hy', asIntOf, loN, hiN, a, b.1, iNat_eq, d, c]
theorem ro_sub {n st : Nat} {l : List A} {v : Value} {a b : Nat} (h : V f X w (.ro n l) v) (hlen : l.length = n * st) (hab : a ≤ b) (hbn : b ≤ n) :
    ∃ q cap, v = .slice q n cap ∧ n ≤ cap ∧ V f X w (.ro (b - a) ((l.take (b * st)).drop (a * st))) (.slice (if cap = a then q else q.map (·.add (a * st))) (b - a) (cap - a)) := by
  simp only [V] at h
  obtain ⟨q, cap, rfl, h1, h2, h3, h4⟩ := h
  refine ⟨q, cap, rfl, h1, ?_⟩
  simp only [V]
  refine ⟨_, _, rfl, by omega, by omega, fun hq => ?_, fun q' hq' => ?_⟩
  · have hq0 : q = none := by
      split at hq
      · exact hq
      · cases q with
        | none => rfl
        | some q => simp at hq
    obtain ⟨e1, e2, e3⟩ := h3 hq0
    subst e1 e2 e3
    exact ⟨by omega, by omega, by simp⟩
  · by_cases hab' : (l.take (b * st)).drop (a * st) = []
    · exact .inl hab'
    · refine .inr ?_
      have hne : cap ≠ a := by
        intro e
        apply hab'
        have : b = a := by omega
        subst this
        rw [List.drop_eq_nil_iff, List.length_take]; omega
      rw [if_neg hne] at hq'
      cases q with
      | none => simp at hq'
      | some q0 =>
        simp only [Option.map_some, Option.some.injEq] at hq'
        subst hq'
        rcases h4 q0 rfl with e | ⟨g1, g2, g3, vs, g4, g5⟩
        · exact absurd (by rw [e]; simp) hab'
        · rw [addr_add g1]
          refine ⟨rfl, g2, g3, (vs.take (b * st)).drop (a * st), (g4.take _).drop _, fun j u hu => ?_⟩
          rw [List.getElem?_drop, List.getElem?_take] at hu
          split at hu
          · have := g5 _ _ hu
            rw [show q0.off + a * st + j = q0.off + (a * st + j) from by omega]; exact this
          · cases hu
theorem y_slice (hT : TOk P L) (hev : ∀ x v, ev x = some v → V f X w v (ρ x)) {t : TypeId} {x : Operand} {lo hi mx : Option Operand} (h : vop L (.slice t x lo hi mx) ev = some (r, s)) (hs : s) : Yld P f X w ρ ⟨dst, .slice t x lo hi mx, ty, pos, after, guard⟩ r := by
  cases mx with
  | some m => simp only [vop, reduceCtorEq] at h
  | none =>
  simp only [vop] at h
  split at h
  · rename_i a b c z sx l hh hl hx hlo hhi
    obtain ⟨u, k1, k2, k3⟩ := look_kind hT hl
    obtain rfl := kindOf_string k2
    have e1 := (hev _ _ hx).val
    have fin : (∀ n, hh = some n → 0 ≤ n ∧ n ≤ sx.size) → (∀ n, l = some n → 0 ≤ n ∧ n ≤ hiN sx.size hh) → Yld P f X w ρ ⟨dst, .slice t x lo hi none, ty, pos, after, guard⟩ (some (.val (.string (sx.extract (loN l) (hiN sx.size hh))))) := by
      intro h1 h2
      refine Yld.mk (run_v ?_) (V.mkVal _)
      have := bounds_run (P := P) (w := w) (isS := false) (len := sx.size) (cap := sx.size) (bnd_spec hev hlo) (bnd_spec hev hhi) h1 h2
      simp [Instr.sliceAt, Instr.slice, k3, e1, this]
    cases l <;> cases hh <;> simp only [Option.some.injEq, Prod.mk.injEq] at h <;> obtain ⟨rfl, rfl⟩ := h
    · exact fin (fun n hn => by cases hn) (fun n hn => by cases hn)
    · exact fin (fun n hn => by cases hn; exact hs) (fun n hn => by cases hn)
    · exact fin (fun n hn => by cases hn) (fun n hn => by cases hn; exact hs)
    · exact fin (fun n hn => by cases hn; exact ⟨by omega, hs.2.2⟩) (fun n hn => by cases hn; refine ⟨hs.1, ?_⟩; simp only [hiN, iNat_eq]; omega)
  · rename_i e a b c z n l lo' hi' hl hx hlo hhi
    split at h
    · rename_i k2 st a2 b2 c2 hle
      obtain ⟨u, k1, k2, k3⟩ := look_kind hT hl
      obtain rfl := kindOf_slice k2
      have k4 := TIof.size (hT _ _ hle)
      dsimp only at k4
      have fin : l.length = n * st → (∀ m, hi' = some m → 0 ≤ m ∧ m ≤ n) → (∀ m, lo' = some m → 0 ≤ m ∧ m ≤ hiN n hi') → Yld P f X w ρ ⟨dst, .slice t x lo hi none, ty, pos, after, guard⟩ (some (.ro (hiN n hi' - loN lo') ((l.take (hiN n hi' * st)).drop (loN lo' * st)))) := by
        intro hlen h1 h2
        have hb : hiN n hi' ≤ n := by
          cases hi' with
          | none => exact Nat.le_refl _
          | some m => have := h1 m rfl; simp only [hiN, iNat_eq]; omega
        have ha : loN lo' ≤ hiN n hi' := by
          cases lo' with
          | none => exact Nat.zero_le _
          | some m => have := h2 m rfl; simp only [loN, iNat_eq]; omega
        obtain ⟨q, cap, e1, e2, e3⟩ := ro_sub (hev _ _ hx) hlen ha hb
        refine Yld.mk (run_v ?_) e3
        have := bounds_run (P := P) (w := w) (isS := true) (len := n) (cap := cap) (bnd_spec hev hlo) (bnd_spec hev hhi) (fun m hm => by have := h1 m hm; exact ⟨this.1, by omega⟩) h2
        simp [Instr.sliceAt, Instr.slice, k3, e1, this, k4]
      cases lo' <;> cases hi' <;> simp only [Option.some.injEq, Prod.mk.injEq] at h <;> obtain ⟨rfl, rfl⟩ := h
      · have := fin hs (fun n hn => by cases hn) (fun n hn => by cases hn)
        simp only [hiN, loN, Nat.sub_zero, Nat.zero_mul, List.drop_zero] at this
        rwa [List.take_of_length_le (by omega)] at this
      · have := fin hs.2.2 (fun n hn => by cases hn; exact ⟨hs.1, hs.2.1⟩) (fun n hn => by cases hn)
        simpa only [hiN, loN, Nat.sub_zero, Nat.zero_mul, List.drop_zero] using this
      · have := fin hs.2.2 (fun n hn => by cases hn) (fun n hn => by cases hn; exact ⟨hs.1, hs.2.1⟩)
        simp only [hiN, loN] at this
        rwa [List.take_of_length_le (by omega)] at this
      · exact fin hs.2.2.2 (fun n hn => by cases hn; exact ⟨by omega, hs.2.2.1⟩) (fun n hn => by cases hn; refine ⟨hs.1, ?_⟩; simp only [hiN, iNat_eq]; omega)
    · cases h
  · rename_i e a b c z k p st off n lo' hi' hl hx hlo hhi
    split at h
    · rename_i k2 st' a2 b2 c2 hle
      cases hst : Nat.beq st st' with
      | false => rw [hst] at h; cases h
      | true =>
      rw [hst] at h
      obtain rfl := Nat.eq_of_beq_eq_true hst
      simp only [cond_true] at h
      obtain ⟨u, k1, k2, k3⟩ := look_kind hT hl
      obtain rfl := kindOf_slice k2
      have k4 := TIof.size (hT _ _ hle)
      dsimp only at k4
      have e0 := hev _ _ hx
      simp only [V] at e0
      rcases e0 with ⟨g1, rfl, rfl, g2⟩ | ⟨bb, cap, g1, g2, g3, g4, arr, el, zz, g5, g6⟩
      · have fin : (∀ m, hi' = some m → 0 ≤ m ∧ m ≤ (0 : Nat)) → lo' = none → Yld P f X w ρ ⟨dst, .slice t x lo hi none, ty, pos, after, guard⟩ (some (.sl k p st 0 0)) := by
          intro h1 h2
          subst h2
          have := bounds_run (P := P) (w := w) (isS := true) (len := 0) (cap := 0) (bnd_spec hev hlo) (bnd_spec hev hhi) (fun m hm => by have := h1 m hm; exact ⟨this.1, by omega⟩) (fun m hm => by cases hm)
          have hz : hiN 0 hi' = 0 := by
            cases hi' with
            | none => rfl
            | some m => have := h1 m rfl; simp only [hiN, iNat_eq]; omega
          refine Yld.mk (v := .slice none 0 0) (run_v ?_) (by simp [V, g1])
          simp [Instr.sliceAt, Instr.slice, k3, g2, this, k4, hz, loN]
        cases lo' <;> cases hi' <;> simp only [Option.some.injEq, Prod.mk.injEq] at h <;> obtain ⟨rfl, rfl⟩ := h
        · exact fin (fun n hn => by cases hn) rfl
        · rename_i m
          have hm : iNat m = 0 := by rw [iNat_eq]; have := hs.2; omega
          have := fin (fun n hn => by cases hn; exact ⟨hs.1, by have := hs.2; omega⟩) rfl
          rwa [hm]
        · exact absurd hs.2 (by have := hs.1; omega)
        · exact absurd hs.2.1 (by have := hs.1; omega)
      have fin : (∀ m, hi' = some m → 0 ≤ m ∧ m ≤ n) → (∀ m, lo' = some m → 0 ≤ m ∧ m ≤ hiN n hi') → (loN lo' = 0 ∨ loN lo' < n) → Yld P f X w ρ ⟨dst, .slice t x lo hi none, ty, pos, after, guard⟩ (some (.sl k p st (off + loN lo' * st) (hiN n hi' - loN lo'))) := by
        intro h1 h2 h3
        have hb : hiN n hi' ≤ n := by
          cases hi' with
          | none => exact Nat.le_refl _
          | some m => have := h1 m rfl; simp only [hiN, iNat_eq]; omega
        have ha : loN lo' ≤ hiN n hi' := by
          cases lo' with
          | none => exact Nat.zero_le _
          | some m => have := h2 m rfl; simp only [loN, iNat_eq]; omega
        have := bounds_run (P := P) (w := w) (isS := true) (len := n) (cap := cap) (bnd_spec hev hlo) (bnd_spec hev hhi) (fun m hm => by have := h1 m hm; exact ⟨this.1, by omega⟩) h2
        refine Yld.mk (v := .slice (some ⟨bb, off + loN lo' * st, none⟩) (hiN n hi' - loN lo') (cap - loN lo')) (run_v ?_) ?_
        · have e9 : (if cap = loN lo' then (some ⟨bb, off, none⟩ : Option Addr) else some ⟨bb, off + loN lo' * st, none⟩) = some ⟨bb, off + loN lo' * st, none⟩ := by
            split
            · rename_i hc
              have : loN lo' = 0 := by omega
              rw [this]; simp
            · rfl
          simp [Instr.sliceAt, Instr.slice, k3, g2, this, k4, add_eq, e9]
        · simp only [V]
          refine .inr ⟨bb, _, g1, rfl, by omega, by omega, arr, el, zz, g5, ?_⟩
          have h5 : loN lo' * st + (cap - loN lo') * st = cap * st := by rw [← Nat.add_mul]; congr 1; omega
          omega
      cases lo' <;> cases hi' <;> simp only [Option.some.injEq, Prod.mk.injEq] at h <;> obtain ⟨rfl, rfl⟩ := h
      · have := fin (fun n hn => by cases hn) (fun n hn => by cases hn) (.inl rfl)
        simpa only [hiN, loN, Nat.sub_zero, Nat.zero_mul, Nat.add_zero] using this
      · have := fin (fun n hn => by cases hn; exact ⟨hs.1, hs.2⟩) (fun n hn => by cases hn) (.inl rfl)
        simpa only [hiN, loN, Nat.sub_zero, Nat.zero_mul, Nat.add_zero] using this
      · exact fin (fun n hn => by cases hn) (fun n hn => by cases hn; exact ⟨hs.1, by simp only [hiN]; omega⟩) (.inr (by simp only [loN, iNat_eq]; omega))
      · exact fin (fun n hn => by cases hn; exact ⟨by omega, hs.2.2.2⟩) (fun n hn => by cases hn; refine ⟨hs.1, ?_⟩; simp only [hiN, iNat_eq]; omega) (.inr (by simp only [loN, iNat_eq]; omega))
    · cases h
  · cases h
/-- The place of an element of what is only read. -/
theorem ro_elem {n : Nat} {l l' : List A} {v : Value} {o : Nat} (h : V f X w (.ro n l) v) (hd : dropO o l = some l') (hne : l' ≠ []) : ∃ q cap, v = .slice (some q) n cap ∧ q.spot = none ∧ V f X w (.rp l') (.pointer (some ⟨q.block, q.off + o, none⟩)) := by
  obtain ⟨rfl, hlen⟩ := dropO_spec hd
  simp only [V] at h
  obtain ⟨a, cap, rfl, h1, h2, h3, h4⟩ := h
  have hl : l ≠ [] := fun e => hne (by rw [e]; simp)
  cases a with
  | none => exact absurd (h3 rfl).2.2 hl
  | some q =>
    rcases h4 q rfl with e | ⟨g1, g2, g3, vs, g4, g5⟩
    · exact absurd e hl
    · refine ⟨q, cap, rfl, g1, ?_⟩
      simp only [V]
      refine ⟨_, rfl, rfl, g2, g3, vs.drop o, g4.drop o, fun j u hu => ?_⟩
      rw [List.getElem?_drop] at hu
      have := g5 _ _ hu
      rw [show q.off + o + j = q.off + (o + j) from by omega]; exact this
theorem y_indexAddr (hT : TOk P L) (hev : ∀ x v, ev x = some v → V f X w v (ρ x)) {t : TypeId} {x i : Operand} (h : vop L (.indexAddr t x i) ev = some (r, s)) (hs : s) : Yld P f X w ρ ⟨dst, .indexAddr t x i, ty, pos, after, guard⟩ r := by
  simp only [vop] at h
  split at h
  · rename_i e a b c z n l k j hl hx hi
    split at h
    · rename_i k2 st a2 b2 c2 hle
      split at h
      · rename_i y ys hd
        simp only [Option.some.injEq, Prod.mk.injEq] at h
        obtain ⟨rfl, rfl⟩ := h
        obtain ⟨u, k1, k2, k3⟩ := look_kind hT hl
        obtain rfl := kindOf_slice k2
        have k4 := TIof.size (hT _ _ hle)
        dsimp only at k4
        have e1 := (hev _ _ hi).val
        obtain ⟨q, cap, e2, e3, e4⟩ := ro_elem (hev _ _ hx) hd (by simp)
        refine Yld.mk (run_v ?_) e4
        simp [Instr.indexAt, asIntOf, e1, k3, e2, hs, k4, addr_add e3, iNat_eq]
      · cases h
    · cases h
  · rename_i e a b c z k p st off n kk j hl hx hi
    split at h
    · rename_i k2 st' a2 b2 c2 hle
      cases hst : Nat.beq st st' with
      | false => rw [hst] at h; cases h
      | true =>
      rw [hst] at h
      obtain rfl := Nat.eq_of_beq_eq_true hst
      simp only [cond_true, Option.some.injEq, Prod.mk.injEq] at h
      obtain ⟨rfl, rfl⟩ := h
      obtain ⟨u, k1, k2, k3⟩ := look_kind hT hl
      obtain rfl := kindOf_slice k2
      have k4 := TIof.size (hT _ _ hle)
      dsimp only at k4
      have e1 := (hev _ _ hi).val
      have e0 := hev _ _ hx
      simp only [V] at e0
      rcases e0 with ⟨g1, rfl, _⟩ | ⟨bb, cap, g1, g2, g3, g4, arr, el, zz, g5, g6⟩
      · have := hs.2; have := hs.1; omega
      refine Yld.mk (v := .pointer (some ⟨bb, off + iNat j * st, none⟩)) (run_v ?_) (by simp only [V]; exact ⟨bb, g1, rfl⟩)
      simp [Instr.indexAt, asIntOf, e1, k3, g2, hs, k4, add_eq, iNat_eq]
    · cases h
  · rename_i n e a b c z k p off kk j hl hx hi
    split at h
    · rename_i k2 st a2 b2 c2 hle
      simp only [Option.some.injEq, Prod.mk.injEq] at h
      obtain ⟨rfl, rfl⟩ := h
      obtain ⟨u, k1, k2, k3⟩ := look_kind hT hl
      obtain rfl := kindOf_array k2
      have k4 := TIof.size (hT _ _ hle)
      dsimp only at k4
      have e1 := (hev _ _ hi).val
      have e0 := hev _ _ hx
      simp only [V] at e0
      obtain ⟨bb, g1, g2⟩ := e0
      refine Yld.mk (v := .pointer (some ⟨bb, off + iNat j * st, none⟩)) (run_v ?_) (by simp only [V]; exact ⟨bb, g1, rfl⟩)
      simp [Instr.indexAt, asIntOf, e1, k3, g2, Instr.sureAddr, hs, k4, add_eq, iNat_eq]
    · cases h
  · cases h
theorem y_index (hT : TOk P L) (hev : ∀ x v, ev x = some v → V f X w v (ρ x)) {t : TypeId} {x i : Operand} (h : vop L (.index t x i) ev = some (r, s)) (hs : s) : Yld P f X w ρ ⟨dst, .index t x i, ty, pos, after, guard⟩ r := by
  simp only [vop] at h
  split at h
  · rename_i a b c z sx k j hl hx hi
    simp only [Option.some.injEq, Prod.mk.injEq] at h
    obtain ⟨rfl, rfl⟩ := h
    obtain ⟨u, k1, k2, k3⟩ := look_kind hT hl
    obtain rfl := kindOf_string k2
    have e1 := (hev _ _ hi).val
    have e2 := (hev _ _ hx).val
    refine Yld.mk (run_v ?_) (V.mkVal _)
    have hj : j.toNat < sx.size := by omega
    have hg : sx[j.toNat]? = some sx[j.toNat] := by simp [hj]
    have hd : sx.data.toList.getD (iNat j) 0 = sx[j.toNat] := by
      rw [iNat_eq, List.getD_eq_getElem?_getD, List.getElem?_eq_getElem (by simpa using hj)]; rfl
    rw [hd]
    simp [Instr.index, asIntOf, e1, k3, e2, hs.1, hg]
  · rename_i n e a b c z l k j hl hx hi
    split at h
    · rename_i k2 st a2 g c2 hle
      split at h
      · rename_i l1 h1
        split at h
        · rename_i l2 h2
          split at h
          · rename_i v h3
            simp only [Option.some.injEq, Prod.mk.injEq] at h
            obtain ⟨rfl, rfl⟩ := h
            obtain ⟨u, k1, k2, k3⟩ := look_kind hT hl
            obtain rfl := kindOf_array k2
            have k4 := TIof.size (hT _ _ hle)
            have k5 := TIof.agg (hT _ _ hle)
            dsimp only at k4 k5
            have e1 := (hev _ _ hi).val
            have e4 := hev _ _ hx
            simp only [V] at e4
            obtain ⟨vs, e5, e6⟩ := e4
            obtain ⟨uu, e7, e8⟩ := part_run (k5 w) (k4 w) e6 h1 h2 h3
            refine Yld.mk (run_v ?_) e8
            rw [iNat_eq] at e7
            simp [Instr.index, asIntOf, e1, k3, e5, hs, k4, e7]
          · cases h
        · cases h
      · cases h
    · cases h
  · cases h
theorem y_call (hT : TOk P L) (hev : ∀ x v, ev x = some v → V f X w v (ρ x)) {c : Call} (h : vop L (.call c) ev = some (r, s)) : Yld P f X w ρ ⟨dst, .call c, ty, pos, after, guard⟩ r := by
  obtain ⟨callee, args, ts⟩ := c
  cases callee <;> try (simp only [vop, reduceCtorEq] at h; done)
  rename_i b
  have go : ∀ {v : Value}, (builtin b ts ty (args.map fun | .const _ => true | _ => false) (args.map ρ)).run P w = .ok (.value v) w → (execOp ρ ⟨dst, .call ⟨.builtin b, args, ts⟩, ty, pos, after, guard⟩).run P w = .ok (.value v) w := by
    intro v hv
    simp only [execOp, resolve, Sem.run_bind, Sem.run_pure, Result.andThen, invoke]
    exact hv
  simp only [vop] at h
  split at h
  · rename_i bb l m x t ha ht
    have e1 : args = #[x] := by rw [← Array.toArray_toList (xs := args), ha]
    have e2 : ts = #[t] := by rw [← Array.toArray_toList (xs := ts), ht]
    subst e1 e2
    split at h
    all_goals first
      | (cases h; done)
      | skip
    · rename_i hl hx
      simp only [Option.some.injEq, Prod.mk.injEq] at h
      obtain ⟨rfl, _⟩ := h
      obtain ⟨u, k1, k2, k3⟩ := look_kind hT hl
      obtain rfl := kindOf_string k2
      refine Yld.mk (go ?_) (V.mkVal _)
      simp [builtin, Builtin.len_, k3, (hev _ _ hx).val, goInt]
    · rename_i hl hx
      simp only [Option.some.injEq, Prod.mk.injEq] at h
      obtain ⟨rfl, _⟩ := h
      obtain ⟨u, k1, k2, k3⟩ := look_kind hT hl
      obtain rfl := kindOf_slice k2
      have e0 := hev _ _ hx
      simp only [V] at e0
      obtain ⟨_, _, g2, _⟩ := e0
      refine Yld.mk (go ?_) (V.mkVal _)
      simp [builtin, Builtin.len_, k3, g2, goInt]
    · rename_i hl hx
      simp only [Option.some.injEq, Prod.mk.injEq] at h
      obtain ⟨rfl, _⟩ := h
      obtain ⟨u, k1, k2, k3⟩ := look_kind hT hl
      obtain rfl := kindOf_slice k2
      have e0 := hev _ _ hx
      simp only [V] at e0
      refine Yld.mk (go ?_) (V.mkVal _)
      rcases e0 with ⟨_, rfl, _, g2⟩ | ⟨_, _, _, g2, _⟩ <;> simp [builtin, Builtin.len_, k3, g2, goInt]
    · rename_i hl hx
      simp only [Option.some.injEq, Prod.mk.injEq] at h
      obtain ⟨rfl, _⟩ := h
      obtain ⟨u, k1, k2, k3⟩ := look_kind hT hl
      obtain rfl := kindOf_slice k2
      refine Yld.mk (go ?_) (V.mkVal _)
      simp [builtin, Builtin.len_, k3, (hev _ _ hx).val, goInt]
    · rename_i n e a b c z hl
      simp only [Option.some.injEq, Prod.mk.injEq] at h
      obtain ⟨rfl, _⟩ := h
      obtain ⟨u, k1, k2, k3⟩ := look_kind hT hl
      obtain rfl := kindOf_array k2
      refine Yld.mk (go ?_) (V.mkVal _)
      cases hρ : ρ x <;> simp [builtin, Builtin.len_, k3, goInt, hρ]
  · rename_i bb l m x y ha
    have e1 : args = #[x, y] := by rw [← Array.toArray_toList (xs := args), ha]
    subst e1
    split at h
    · rename_i k a k' b hx hy
      simp only [Option.some.injEq, Prod.mk.injEq] at h
      obtain ⟨rfl, _⟩ := h
      refine Yld.mk (go ?_) (V.mkVal _)
      simp [builtin, Builtin.min_, Builtin.min2, (hev _ _ hx).val, (hev _ _ hy).val]
    · cases h
  · rename_i bb l m x y ha
    have e1 : args = #[x, y] := by rw [← Array.toArray_toList (xs := args), ha]
    subst e1
    split at h
    · rename_i k a k' b hx hy
      simp only [Option.some.injEq, Prod.mk.injEq] at h
      obtain ⟨rfl, _⟩ := h
      refine Yld.mk (go ?_) (V.mkVal _)
      simp [builtin, Builtin.max_, Builtin.max2, (hev _ _ hx).val, (hev _ _ hy).val]
    · cases h
  · cases h
theorem vop_run (hT : TOk P L) (hev : ∀ x v, ev x = some v → V f X w v (ρ x)) {o : Oper} (h : vop L o.op ev = some (r, s)) (hs : s) : Yld P f X w ρ o r := by
  obtain ⟨dst, op, ty, pos, after, guard⟩ := o
  dsimp only at h
  cases op
  case move x => simp only [vop] at h; exact Yld.opt (x := x) hev (by simp [execOp]) h
  case assign x => simp only [vop] at h; exact Yld.opt (x := x) hev (by simp [execOp]) h
  case pick c a b => exact y_pick hev h
  case build t parts => exact y_build hT hev h
  case nilCheck x => exact y_nilCheck hev h
  case binOp op t x y t2 => exact y_binOp hT hev h hs
  case unOp op t x => exact y_unOp hev h
  case convert a b x => exact y_convert hT hev h
  case makeInterface t x => exact y_makeInterface hT hev h
  case makeFunc g a b => exact y_makeFunc hev h
  case slice t x lo hi mx => exact y_slice hT hev h hs
  case fieldAddr t x i => exact y_fieldAddr hT hev h
  case field t x i => exact y_field hT hev h
  case indexAddr t x i => exact y_indexAddr hT hev h hs
  case index t x i => exact y_index hT hev h hs
  case extract x i => exact y_extract hev h
  case call c => exact y_call hT hev h
  all_goals (simp only [vop, reduceCtorEq] at h)
end
end Go.Abs
namespace Go.Abs
open Go.RowKit
/-! ### How the relation goes on, more -/
section
variable {C : Ctx} {s : St} {fr : Nat → Prop} {f : Pl} {a : Act} {w : World}
/-- One path of what stands under a number has another content. -/
def Reg.set : Reg → List Nat → List A → Reg
  | .one _, [], c => .one c
  | .one c0, _ :: _, _ => .one c0
  | .fam F, p, c => .fam (fun q => if q = p then some c else F q)
  | .gone, _, _ => .gone
theorem Reg.get_set {r : Reg} {p : List Nat} {c c' : List A} (h : r.get p = some c) (q : List Nat) : (r.set p c').get q = if q = p then some c' else r.get q := by
  cases r with
  | one c0 =>
    cases p with
    | cons x p => simp [Reg.get] at h
    | nil => cases q <;> simp [Reg.set, Reg.get]
  | fam F => simp [Reg.set, Reg.get]
  | gone => simp [Reg.get] at h
theorem Rel.live_block (h : Rel C s fr f a w) {b : Nat} (hb : Live s.h f b) : ∃ arr el, w.heap[b]? = some (.cells arr el (0, 0)) := by
  obtain ⟨k, p, h1, h2⟩ := hb
  obtain ⟨c, hc⟩ := Option.ne_none_iff_exists'.1 h1
  rcases h.h k p c hc with ⟨_, h3⟩ | ⟨b', arr, el, h3, h4, _⟩
  · rw [h2] at h3; cases h3
  · rw [h2] at h3
    obtain rfl := Option.some.inj (Option.some.inj h3)
    exact ⟨arr, el, h4⟩
/-- An object has another content. -/
theorem Rel.setObj (h : Rel C s fr f a w) {k : Nat} {p : List Nat} {c c' : List A} (hc : (s.h k).get p = some c) {b : Nat} {arr arr' : Array Value} {el : TypeId} (hf : f k p = some (some b))
    (harr : w.heap[b]? = some (.cells arr el (0, 0))) (hsz : arr'.size = arr.size) (hl : c'.length ≤ arr.size) (hv : VL f (C.X s.h f) w c' (arr'.toList.take c'.length)) :
    Rel C ⟨s.e, hput k ((s.h k).set p c') s.h, s.n⟩ fr f a (w.setRow b arr') := by
  have hlive : Live s.h f b := ⟨k, p, by rw [hc]; simp, hf⟩
  have get : ∀ k' p', (hput k ((s.h k).set p c') s.h k').get p' = if k' = k ∧ p' = p then some c' else (s.h k').get p' := by
    intro k' p'
    by_cases hk : k' = k
    · subst hk
      rw [hput_same, Reg.get_set hc]
      by_cases hp : p' = p <;> simp [hp]
    · rw [hput_ne _ _ hk, if_neg (fun hh => hk hh.1)]
  have get_none : ∀ k' p', (hput k ((s.h k).set p c') s.h k').get p' ≠ none → (s.h k').get p' ≠ none := by
    intro k' p' hh
    rw [get] at hh
    by_cases hk : k' = k ∧ p' = p
    · obtain ⟨rfl, rfl⟩ := hk; rw [hc]; simp
    · rw [if_neg hk] at hh; exact hh
  have hX : ∀ b, C.X (hput k ((s.h k).set p c') s.h) f b → C.X s.h f b := by
    rintro b (hb | hb)
    · exact .inl (Live.mono get_none hb)
    · exact .inr hb
  have hheap : ∀ i, i ≠ b → (w.setRow b arr').heap[i]? = w.heap[i]? := by
    intro i hi
    simp only [World.setRow, Array.getElem?_modify]
    rw [if_neg (fun e => hi e.symm)]
  have hb' : (w.setRow b arr').heap[b]? = some (.cells arr' el (0, 0)) := setRow_heap w b arr arr' el (0, 0) harr
  have hsize : (w.setRow b arr').heap.size = w.heap.size := by simp [World.setRow]
  have hkp : Kp (fun i => i = b) w (w.setRow b arr') := by
    refine ⟨rfl, rfl, rfl, by rw [hsize]; exact Nat.le_refl _, fun i _ hi => hheap i hi, fun i arr0 e0 z0 hh => ?_⟩
    by_cases hi : i = b
    · subst hi
      rw [harr] at hh
      simp only [Option.some.injEq, Obj.cells.injEq] at hh
      obtain ⟨rfl, rfl, rfl⟩ := hh
      exact ⟨arr', hb', hsz⟩
    · exact ⟨arr0, by rw [hheap i hi]; exact hh, rfl⟩
  have hZ : ∀ i, i < w.heap.size → i = b → C.X s.h f i := fun i _ e => .inl (by rw [e]; exact hlive)
  have mono : ∀ x v, V f (C.X s.h f) w x v → V f (C.X (hput k ((s.h k).set p c') s.h) f) (w.setRow b arr') x v := fun x v => V.mono (Ext.refl f) (fun b _ => hX b) hkp hZ x v
  have monoL : ∀ x v, VL f (C.X s.h f) w x v → VL f (C.X (hput k ((s.h k).set p c') s.h) f) (w.setRow b arr') x v := fun x v => VL.mono (Ext.refl f) (fun b _ => hX b) hkp hZ x v
  refine { N := h.N, defers := h.defers, e := fun i x hx => mono _ _ (h.e i x hx), h := fun k' p' c1 hc1 => ?_, inj := ?_, kp := ?_, new := ?_, y := h.y, fr := h.fr, ext := h.ext, dom := h.dom }
  · dsimp only at hc1
    rw [get] at hc1
    by_cases hk : k' = k ∧ p' = p
    · obtain ⟨rfl, rfl⟩ := hk
      rw [if_pos ⟨rfl, rfl⟩] at hc1
      simp only [Option.some.injEq] at hc1
      subst hc1
      exact .inr ⟨b, arr', el, hf, hb', by omega, monoL _ _ hv⟩
    · rw [if_neg hk] at hc1
      rcases h.h k' p' c1 hc1 with h0 | ⟨b1, arr1, el1, h1, h2, h3, h4⟩
      · exact .inl h0
      · have hne : b1 ≠ b := by
          rintro rfl
          exact hk (h.inj k' p' k p b1 (by rw [hc1]; simp) (by rw [hc]; simp) h1 hf)
        exact .inr ⟨b1, arr1, el1, h1, by rw [hheap b1 hne]; exact h2, h3, monoL _ _ h4⟩
  · intro k1 p1 k2 p2 b1 g1 g2 g3 g4
    exact h.inj k1 p1 k2 p2 b1 (get_none _ _ g1) (get_none _ _ g2) g3 g4
  · refine h.kp.trans' hkp (fun i hi e => ?_)
    subst e
    rcases h.new i hlive with hh | hh
    · omega
    · exact hh
  · intro b1 hb1
    exact h.new b1 (Live.mono get_none hb1)
/-- An object is no more. -/
theorem Rel.drop (h : Rel C s fr f a w) (k : Nat) : Rel C ⟨s.e, hput k .gone s.h, s.n⟩ fr f a w := by
  have get_none : ∀ k' p' c, (hput k .gone s.h k').get p' = some c → (s.h k').get p' = some c := by
    intro k' p' c hh
    by_cases hk : k' = k
    · subst hk; rw [hput_same] at hh; simp [Reg.get] at hh
    · rw [hput_ne _ _ hk] at hh; exact hh
  have gn : ∀ k' p', (hput k .gone s.h k').get p' ≠ none → (s.h k').get p' ≠ none := by
    intro k' p' hh
    obtain ⟨c, hc⟩ := Option.ne_none_iff_exists'.1 hh
    rw [get_none _ _ _ hc]; simp
  have hX : ∀ b, b < w.heap.size → C.X (hput k .gone s.h) f b → C.X s.h f b := by
    rintro b _ (hb | hb)
    · exact .inl (Live.mono gn hb)
    · exact .inr hb
  refine { N := h.N, defers := h.defers, e := fun i x hx => (h.e i x hx).mono (Ext.refl f) hX (Kp.refl (fun _ => False) w) (fun _ _ h => h.elim), h := fun k' p' c1 hc1 => ?_, inj := ?_, kp := h.kp, new := fun b hb => h.new b (Live.mono gn hb), y := h.y, fr := h.fr, ext := h.ext, dom := h.dom }
  · rcases h.h k' p' c1 (get_none _ _ _ hc1) with h0 | ⟨b1, arr1, el1, h1, h2, h3, h4⟩
    · exact .inl h0
    · exact .inr ⟨b1, arr1, el1, h1, h2, h3, h4.mono (Ext.refl f) hX (Kp.refl (fun _ => False) w) (fun _ _ h => h.elim)⟩
  · intro k1 p1 k2 p2 b1 g1 g2 g3 g4
    exact h.inj k1 p1 k2 p2 b1 (gn _ _ g1) (gn _ _ g2) g3 g4
/-- A new object that lies nowhere: an empty slice that is nil. -/
theorem Rel.newNil (h : Rel C s fr f a w) {n0 : Nat} (hn : fr n0) :
    Rel C ⟨s.e, hput n0 (.one []) s.h, s.n⟩ (fun k => fr k ∧ k ≠ n0) (newPl f n0 none) a w ∧ Ext f (newPl f n0 none) := by
  have hext : Ext f (newPl f n0 none) := by
    intro k p b hb
    unfold newPl
    rw [if_neg (fun hh => by rw [hh.1, h.fr n0 hn] at hb; cases hb)]
    exact hb
  have hnew : ∀ k p b, newPl f n0 none k p = some (some b) → k ≠ n0 ∧ f k p = some (some b) := by
    intro k p b hb
    unfold newPl at hb
    by_cases hk : k = n0 ∧ p = []
    · rw [if_pos hk] at hb; cases hb
    · rw [if_neg hk] at hb
      refine ⟨fun e => ?_, hb⟩
      subst e
      rw [h.fr k hn] at hb; cases hb
  have hX : ∀ b, b < w.heap.size → C.X (hput n0 (.one []) s.h) (newPl f n0 none) b → C.X s.h f b := by
    rintro b _ (⟨k, p, h1, h2⟩ | hy)
    · obtain ⟨hk, h3⟩ := hnew k p b h2
      rw [hput_ne _ _ hk] at h1
      exact .inl ⟨k, p, h1, h3⟩
    · exact .inr hy
  refine ⟨{ N := h.N, defers := h.defers, e := fun i x hx => (h.e i x hx).mono hext hX (Kp.refl (fun _ => False) w) (fun _ _ h => h.elim), h := fun k p c' hc' => ?_, inj := ?_, kp := h.kp, new := ?_, y := h.y, fr := ?_, ext := h.ext.trans hext, dom := h.dom }, hext⟩
  · dsimp only at hc'
    by_cases hk : k = n0
    · subst hk
      rw [hput_same] at hc'
      cases p with
      | cons x p => simp [Reg.get] at hc'
      | nil =>
        simp only [Reg.get, Option.some.injEq] at hc'
        subst hc'
        exact .inl ⟨rfl, by simp [newPl]⟩
    · rw [hput_ne _ _ hk] at hc'
      rcases h.h k p c' hc' with ⟨h0, h1⟩ | ⟨b, arr', el', h1, h2, h3, h4⟩
      · exact .inl ⟨h0, hext _ _ _ h1⟩
      · exact .inr ⟨b, arr', el', hext _ _ _ h1, h2, h3, h4.mono hext hX (Kp.refl (fun _ => False) w) (fun _ _ h => h.elim)⟩
  · intro k p k' p' b h1 h2 h3 h4
    dsimp only at h1 h2
    obtain ⟨hk, h5⟩ := hnew k p b h3
    obtain ⟨hk', h6⟩ := hnew k' p' b h4
    rw [hput_ne _ _ hk] at h1
    rw [hput_ne _ _ hk'] at h2
    exact h.inj k p k' p' b h1 h2 h5 h6
  · rintro b ⟨k, p, h1, h2⟩
    dsimp only at h1
    obtain ⟨hk, h3⟩ := hnew k p b h2
    rw [hput_ne _ _ hk] at h1
    exact h.new b ⟨k, p, h1, h3⟩
  · intro k hk p
    unfold newPl
    rw [if_neg (fun e => hk.2 e.1)]
    exact h.fr k hk.1 p
end
end Go.Abs
namespace Go.Abs
open Go.RowKit
section
variable {P : Program} {L : List (Nat × TI)} {C : Ctx} {s : St} {fr : Nat → Prop} {f : Pl} {a : Act} {w : World}

/-! ### Loads -/
def ldA (L : List (Nat × TI)) (t : TypeId) (x : A) (h : Nat → Reg) : Option (A × List Nat) := match look L t with
  | some ⟨_, sz, _, g, _⟩ => (match x with
    | .ptr k p off => (match (h k).get p with
      | some c => (match dropO off c with
        | some c1 => (match ldO sz c1 with
          | some l => (match packA g l with
            | some v => some (v, [k])
            | none => none)
          | none => none)
        | none => none)
      | none => none)
    | .rp l0 => (match ldO sz l0 with
      | some l => (match packA g l with
        | some v => some (v, [])
        | none => none)
      | none => none)
    | _ => none)
  | none => none
theorem ldA_congr {t : TypeId} {x v : A} {ks : List Nat} {h h' : Nat → Reg} (hl : ldA L t x h = some (v, ks)) (hh : ∀ k ∈ ks, h' k = h k) : ldA L t x h' = some (v, ks) := by
  unfold ldA at hl ⊢
  split at hl
  · split at hl
    · rename_i k p off
      have : h' k = h k := by
        refine hh k ?_
        split at hl <;> try cases hl
        split at hl <;> try cases hl
        split at hl <;> try cases hl
        split at hl <;> try cases hl
        simp
      rw [this]
      exact hl
    · exact hl
    · cases hl
  · cases hl
theorem take_cells {arr : Array Value} {b : Nat} {el : TypeId} {w : World} {z : Nat × Nat} (hb : w.heap[b]? = some (.cells arr el z)) {off n : Nat} {cs : List Value} (hcs : cs = (arr.toList.drop off).take n) :
    ∀ (j : Nat) (v : Value), cs[j]? = some v → w.cell? ⟨b, off + j, none⟩ = some v := by
  intro j v hj
  subst hcs
  rw [List.getElem?_take] at hj
  split at hj
  · rw [List.getElem?_drop] at hj
    simpa [World.cell?, hb] using hj
  · cases hj
theorem loadVar_run {t : TypeId} {sz : Nat} {g : Bool} (hs : (sizeOf t).run P w = .ok sz w) (hg : (isAgg t).run P w = .ok g w) {q : Addr} (hq : q.spot = none) {l : List A} {X : Nat → Prop} {vs : List Value} {v : A}
    (hl : VL f X w l vs) (hlen : vs.length = sz) (hc : ∀ (j : Nat) (u : Value), vs[j]? = some u → w.cell? ⟨q.block, q.off + j, none⟩ = some u) (hp : packA g l = some v) :
    ∃ u, (loadVar t q).run P w = .ok u w ∧ V f X w v u := by
  obtain ⟨u, h1, h2⟩ := packA_spec hl hp
  refine ⟨u, ?_, h1⟩
  rcases h2 with ⟨rfl, rfl⟩ | ⟨rfl, rfl⟩
  · have := run_loadCells_list (P := P) w q vs (fun j v hj => by rw [addr_add hq]; exact hc j v hj)
    rw [hlen] at this
    simp [loadVar, hg, hs, this]
  · have := hc 0 u (by simp)
    have e : (⟨q.block, q.off + 0, none⟩ : Addr) = q := by obtain ⟨b, o, sp⟩ := q; simp at hq ⊢; exact hq.symm
    rw [e] at this
    simp [loadVar, hg, this]
/-- Cells of an object. -/
theorem Rel.cells (h : Rel C s fr f a w) {k : Nat} {p : List Nat} {c : List A} (hc : (s.h k).get p = some c) {b : Nat} (hf : f k p = some (some b)) :
    ∃ arr el, w.heap[b]? = some (.cells arr el (0, 0)) ∧ c.length ≤ arr.size ∧ VL f (C.X s.h f) w c (arr.toList.take c.length) := by
  rcases h.h k p c hc with ⟨_, h1⟩ | ⟨b', arr, el, h1, h2, h3, h4⟩
  · rw [hf] at h1; cases h1
  · rw [hf] at h1
    obtain rfl := Option.some.inj (Option.some.inj h1)
    exact ⟨arr, el, h2, h3, h4⟩
theorem ldA_run (hT : TOk P L) (h : Rel C s fr f a w) {t : TypeId} {x v : A} {u : Value} {ks : List Nat} (hx : V f (C.X s.h f) w x u) (hl : ldA L t x s.h = some (v, ks)) :
    ∃ z, (Instr.loadAt t u).run P w = .ok z w ∧ V f (C.X s.h f) w v z := by
  unfold ldA at hl
  split at hl
  · rename_i kk sz bb g zz hlk
    have k4 := TIof.size (hT _ _ hlk) w
    have k5 := TIof.agg (hT _ _ hlk) w
    dsimp only at k4 k5
    split at hl
    · rename_i k p off
      split at hl
      · rename_i c hc
        split at hl
        · rename_i c1 hd
          split at hl
          · rename_i l hld
            split at hl
            · rename_i v' hp
              simp only [Option.some.injEq, Prod.mk.injEq] at hl
              obtain ⟨rfl, _⟩ := hl
              simp only [V] at hx
              obtain ⟨b, h1, rfl⟩ := hx
              obtain ⟨arr, el, h2, h3, h4⟩ := h.cells hc h1
              obtain ⟨rfl, h5⟩ := dropO_spec hd
              obtain ⟨rfl, h6⟩ := ldO_spec hld
              rw [List.length_drop] at h6
              have h7 := (h4.drop off).take sz
              have hlen : (((arr.toList.take c.length).drop off).take sz).length = sz := by
                simp only [List.length_take, List.length_drop, Array.length_toList]; omega
              have e : ((arr.toList.take c.length).drop off).take sz = (arr.toList.drop off).take sz := by
                rw [List.drop_take, List.take_take, Nat.min_eq_left (by omega)]
              rw [e] at h7 hlen
              obtain ⟨z, h8, h9⟩ := loadVar_run (q := ⟨b, off, none⟩) k4 k5 rfl h7 hlen (take_cells h2 rfl) hp
              exact ⟨z, by simpa [Instr.loadAt, Instr.sureAddr] using h8, h9⟩
            · cases hl
          · cases hl
        · cases hl
      · cases hl
    · rename_i l0
      split at hl
      · rename_i l hld
        split at hl
        · rename_i v' hp
          simp only [Option.some.injEq, Prod.mk.injEq] at hl
          obtain ⟨rfl, _⟩ := hl
          simp only [V] at hx
          obtain ⟨q, rfl, h1, h2, h3, vs, h4, h5⟩ := hx
          obtain ⟨rfl, h6⟩ := ldO_spec hld
          have h7 := (h4.noPl (f := f)).take sz
          have hlen : (vs.take sz).length = sz := by rw [List.length_take, h4.length]; omega
          obtain ⟨z, h8, h9⟩ := loadVar_run k4 k5 h1 h7 hlen (fun j u hj => by
            rw [List.getElem?_take] at hj
            split at hj
            · exact h5 j u hj
            · cases hj) hp
          exact ⟨z, by simpa [Instr.loadAt, Instr.sureAddr] using h8, h9⟩
        · cases hl
      · cases hl
    · cases hl
  · cases hl

/-! ### New objects -/
/-- What a new object holds, and how it is named: as a variable, or as a slice. -/
inductive NK where
  | ptr
  | sl (st n : Nat)
def NK.val (k : Nat) : NK → A
  | .ptr => .ptr k [] 0
  | .sl st n => .sl k [] st 0 n
def rep : Nat → List A → List A
  | 0, _ => []
  | n + 1, z => z ++ rep n z
def nop (L : List (Nat × TI)) (op : Op) (ev : Operand → Option A) : Option (List A × NK × Prop) := match op with
  | .alloc t => match look L t with
    | some ⟨_, _, _, _, z⟩ => some (z, .ptr, True)
    | none => none
  | .box _ x => match ev x with
    | some v => (match cellsA v with
      | some l => some (l, .ptr, True)
      | none => none)
    | none => none
  | .buildSlice t n parts => match look L t with
    | some ⟨.slice e, _, _, _, _⟩ => (match look L e with
      | some ⟨_, st, _, _, z⟩ => bif Nat.ble (n * st) 16777216 && Nat.beq z.length st && !Nat.beq st 0 then (match fillA (fun i => some (i * st, st)) ev parts.toList (rep n z) with
        | some l => some (l, .sl st n, True)
        | none => none) else none
      | none => none)
    | _ => none
  | .makeSlice t n c => match look L t, ev n, ev c with
    | some ⟨.slice e, _, _, _, _⟩, some (.val (.int _ n)), some (.val (.int _ c)) => (match look L e with
      | some ⟨_, st, by_, _, z⟩ => bif Nat.beq z.length st && !Nat.beq st 0 then some (rep (iNat n) z, .sl st (iNat n), 0 ≤ n ∧ n ≤ c ∧ c ≤ 9223372036854775807 ∧ c * by_ ≤ 140737488355328) else none
      | none => none)
    | _, _, _ => none
  | _ => none
theorem rep_length (n : Nat) (z : List A) : (rep n z).length = n * z.length := by
  induction n with
  | zero => simp [rep]
  | succ n ih => simp [rep, ih, Nat.succ_mul]; omega
theorem rep_vals {X : Nat → Prop} (n : Nat) (vs : List Value) : VL f X w (rep n (vs.map A.val)) (((List.range (n * vs.length)).map (fun i => vs.getD (i % vs.length) default))) := by
  induction n with
  | zero => simp [rep, VL.nil]
  | succ n ih =>
    have e : (List.range ((n + 1) * vs.length)).map (fun i => vs.getD (i % vs.length) default) = vs ++ (List.range (n * vs.length)).map (fun i => vs.getD (i % vs.length) default) := by
      rw [Nat.succ_mul, Nat.add_comm, List.range_add, List.map_append]
      congr 1
      · apply List.ext_getElem (by simp)
        intro i h1 h2
        have : i % vs.length = i := Nat.mod_eq_of_lt h2
        simp [this, List.getD, h2]
      · rw [List.map_map]
        apply List.map_congr_left
        intro i _
        simp
    rw [e]
    simp only [rep]
    exact (VL.vals vs).append ih
/-- The run of an operation that makes an object. -/
def Mk (P : Program) (f : Pl) (X : Nat → Prop) (w : World) (ρ : Operand → Value) (o : Oper) (c : List A) (nk : NK) : Prop :=
  ∃ v w1 arr el, (w1 = w ∨ w1 = w.drew) ∧ (execOp ρ o).run P w = .ok (.value v) (w1.alloc (.cells arr el (0, 0))) ∧ c.length ≤ arr.size ∧ VL f X w c (arr.toList.take c.length) ∧
    (match nk with
    | .ptr => v = .pointer (some ⟨w.heap.size, 0, none⟩)
    | .sl st n => ∃ cap, v = .slice (some ⟨w.heap.size, 0, none⟩) n cap ∧ n ≤ cap ∧ cap ≤ maxLen ∧ cap * st ≤ arr.size)
theorem arr_list {f : Pl} {X : Nat → Prop} {l : List A} {cs : Array Value} (h : VL f X w l cs.toList) : l.length ≤ cs.size ∧ VL f X w l (cs.toList.take l.length) := by
  have := h.length
  rw [Array.length_toList] at this
  refine ⟨by omega, ?_⟩
  rw [List.take_of_length_le (by rw [Array.length_toList]; omega)]
  exact h
theorem range_map_list (n : Nat) (z : Array Value) : (Array.map (fun x => z[x % z.size]!) (Array.range n)).toList = (List.range n).map (fun i => z.toList.getD (i % z.toList.length) default) := by
  rw [Array.toList_map, Array.toList_range]
  apply List.map_congr_left
  intro i _
  by_cases h : i % z.size < z.size
  · simp [List.getD, h]
  · have : z.size = 0 := by
      rcases Nat.eq_zero_or_pos z.size with h0 | h0
      · exact h0
      · exact absurd (Nat.mod_lt _ h0) h
    have hz : z = #[] := by simpa using this
    subst hz
    simp
theorem nop_run (hT : TOk P L) {X : Nat → Prop} {ev : Operand → Option A} {ρ : Operand → Value} (hev : ∀ x v, ev x = some v → V f X w v (ρ x)) {o : Oper} {c : List A} {nk : NK} {sd : Prop} (h : nop L o.op ev = some (c, nk, sd)) (hs : sd) : Mk P f X w ρ o c nk := by
  obtain ⟨dst, op, ty, pos, after, guard⟩ := o
  dsimp only at h
  cases op <;> try (simp only [nop, reduceCtorEq] at h; done)
  case alloc t =>
    simp only [nop] at h
    split at h
    · rename_i k sz by_ g z hl
      simp only [Option.some.injEq, Prod.mk.injEq] at h
      obtain ⟨rfl, rfl, _⟩ := h
      obtain ⟨zv, h1, h2⟩ := TIof.zero (hT _ _ hl) w
      dsimp only at h2
      obtain ⟨h3, h4⟩ := arr_list (l := z) (cs := zv.cells) (f := f) (X := X) (w := w) (by rw [h2]; exact VL.vals _)
      refine ⟨_, w, zv.cells, t, .inl rfl, run_v ?_, h3, h4, rfl⟩
      simp [Instr.alloc, h1, newVar, newRow]
    · cases h
  case box t x =>
    simp only [nop] at h
    split at h
    · rename_i v hx
      split at h
      · rename_i l hl
        simp only [Option.some.injEq, Prod.mk.injEq] at h
        obtain ⟨rfl, rfl, _⟩ := h
        obtain ⟨h1, _⟩ := cellsA_spec (hev _ _ hx) hl
        obtain ⟨h3, h4⟩ := arr_list h1
        refine ⟨_, w, (ρ x).cells, t, .inl rfl, run_v ?_, h3, h4, rfl⟩
        simp [Instr.box, newVar, newRow]
      · cases h
    · cases h
  case buildSlice t n parts =>
    simp only [nop] at h
    split at h
    · rename_i e a0 b0 c0 z0 hl
      split at h
      · rename_i k st by_ g z hle
        cases hb : (Nat.ble (n * st) 16777216 && Nat.beq z.length st && !Nat.beq st 0) with
        | false => rw [hb] at h; cases h
        | true =>
          rw [hb] at h
          simp only [cond_true] at h
          simp only [Bool.and_eq_true, Bool.not_eq_true'] at hb
          obtain ⟨⟨hb1, hb2⟩, hb3⟩ := hb
          have hb1 := Nat.le_of_ble_eq_true hb1
          have hb2 := Nat.eq_of_beq_eq_true hb2
          have hb3 : st ≠ 0 := by rintro rfl; simp at hb3
          split at h
          · rename_i l hf
            simp only [Option.some.injEq, Prod.mk.injEq] at h
            obtain ⟨rfl, rfl, _⟩ := h
            obtain ⟨u, k1, k2, k3⟩ := look_kind hT hl
            obtain rfl := kindOf_slice k2
            have k4 := TIof.size (hT _ _ hle)
            obtain ⟨zv, h1, h2⟩ := TIof.zero (hT _ _ hle) w
            dsimp only at h2 k4
            subst h2
            have hzs : zv.cells.size = st := by simpa using hb2
            have hstart : ∃ Z : Array Value, (if n * st = 0 then (pure #[] : Sem (Array Value)) else do pure (← zeroValue e).cells).run P w = .ok Z w ∧ VL f X w (rep n (zv.cells.toList.map A.val)) (((Array.range (n * st)).map (Z[· % Z.size]!)).toList) := by
              by_cases hn : n * st = 0
              · refine ⟨#[], by rw [if_pos hn]; rfl, ?_⟩
                have : n = 0 := by
                  rcases Nat.mul_eq_zero.1 hn with h | h
                  · exact h
                  · exact absurd h hb3
                subst this
                simp [rep, VL.nil]
              · refine ⟨zv.cells, by rw [if_neg hn]; simp [h1], ?_⟩
                have := rep_vals (f := f) (X := X) (w := w) n zv.cells.toList
                rw [range_map_list]
                rw [Array.length_toList, hzs] at this ⊢
                exact this
            obtain ⟨Z, hz1, hz2⟩ := hstart
            obtain ⟨cells, h11, h12⟩ := fill_spec hev parts.toList _ l _ hz2 hf
            obtain ⟨h3, h4⟩ := arr_list h12
            have hlen : l.length = n * st := by
              have hsize : ∀ (parts : List (Nat × Operand)) (l l' : List A), fillA (fun i => some (i * st, st)) ev parts l = some l' → l'.length = l.length := by
                intro parts
                induction parts with
                | nil => intro l l' h; simp only [fillA, Option.some.injEq] at h; rw [h]
                | cons p ps ih =>
                  intro l l' h
                  obtain ⟨i, x⟩ := p
                  simp only [fillA] at h
                  split at h
                  · split at h
                    · rename_i hh cs hcs
                      cases hbb : Nat.beq cs.length _ with
                      | false => rw [hbb] at h; cases h
                      | true =>
                        rw [hbb] at h
                        simp only [cond_true] at h
                        split at h
                        · rename_i l2 hl2
                          obtain ⟨g1, g2⟩ := stO_spec hl2
                          rw [ih _ _ h, g1]
                          simp; omega
                        · cases h
                    · cases h
                  · cases h
              rw [hsize _ _ _ hf, rep_length, List.length_map, Array.length_toList, hzs]
            refine ⟨.slice (some ⟨w.heap.size, 0, none⟩) n n, w, cells, e, .inl rfl, run_v ?_, h3, h4, n, rfl, Nat.le_refl _, ?_, by omega⟩
            · have e1 : ¬ (n * st > 2 ^ 24) := by omega
              have e2 : Instr.fill (fun i => some (i * st, st)) ((Array.range (n * st)).map (Z[· % Z.size]!)) (parts.map fun (x : Nat × Operand) => (x.1, ρ x.2)).toList = some cells := by
                rw [← h11]; congr 1; simp
              have e3 : n * st = 0 → ∀ g : Nat → Value, (Array.range (n * st)).map g = #[] := fun hn g => by rw [hn]; simp
              have e4 : ((parts.map fun (x : Nat × Operand) => (x.1, ρ x.2)).toList) = parts.toList.map fun (x : Nat × Operand) => (x.1, ρ x.2) := by simp
              rw [e4] at e2
              have e5 : ¬ 16777216 < n * st := by omega
              simp [Instr.buildSlice, k3, k4, e5]
              split
              · rename_i hn
                rw [e3 hn] at e2 ⊢
                rw [e2]
                simp [newRow]
              · rename_i hn
                rw [if_neg hn] at hz1
                simp only [Sem.run_bind, h1, Result.andThen, Sem.run_pure, Result.ok.injEq] at hz1
                obtain ⟨rfl, _⟩ := hz1
                simp only [h1, Result.andThen, e2]
                simp [newRow]
            · have : n ≤ n * st := Nat.le_mul_of_pos_right n (by omega)
              unfold maxLen; omega
          · cases h
      · cases h
    · cases h
  case makeSlice t n c' =>
    simp only [nop] at h
    split at h
    · rename_i e a0 b0 c0 z0 kn nn kc cc hl hn hc
      split at h
      · rename_i k st by_ g z hle
        cases hb : (Nat.beq z.length st && !Nat.beq st 0) with
        | false => rw [hb] at h; cases h
        | true =>
          rw [hb] at h
          simp only [cond_true, Option.some.injEq, Prod.mk.injEq] at h
          obtain ⟨rfl, rfl, rfl⟩ := h
          simp only [Bool.and_eq_true, Bool.not_eq_true'] at hb
          obtain ⟨hb2, hb3⟩ := hb
          have hb2 := Nat.eq_of_beq_eq_true hb2
          have hb3 : st ≠ 0 := by rintro rfl; simp at hb3
          obtain ⟨u, k1, k2, k3⟩ := look_kind hT hl
          obtain rfl := kindOf_slice k2
          have k4 := TIof.size (hT _ _ hle)
          obtain ⟨zv, h1, h2⟩ := TIof.zero (hT _ _ hle) w
          obtain ⟨ie, k6, k7, k8⟩ := TIof.bytes (hT _ _ hle) w
          dsimp only at h2 k4 k7
          subst h2
          have hzs : zv.cells.size = st := by simpa using hb2
          have e1 := (hev _ _ hn).val
          have e2 := (hev _ _ hc).val
          obtain ⟨g1, g2, g3, g4⟩ := hs
          have w1 : IntKind.i64.wrap nn = nn := by
            unfold IntKind.wrap IntKind.signed IntKind.bits; simp; omega
          have w2 : IntKind.i64.wrap cc = cc := by
            unfold IntKind.wrap IntKind.signed IntKind.bits; simp; omega
          have hstart : ∃ Z : Array Value, (if cc.toNat * st = 0 then (pure #[] : Sem (Array Value)) else do pure (← zeroValue e).cells).run P w = .ok Z w ∧ VL f X w (rep cc.toNat (zv.cells.toList.map A.val)) (((Array.range (cc.toNat * st)).map (Z[· % Z.size]!)).toList) := by
            by_cases hn : cc.toNat * st = 0
            · refine ⟨#[], by rw [if_pos hn]; rfl, ?_⟩
              have : cc.toNat = 0 := by
                rcases Nat.mul_eq_zero.1 hn with h | h
                · exact h
                · exact absurd h hb3
              rw [this]
              simp [rep, VL.nil]
            · refine ⟨zv.cells, by rw [if_neg hn]; simp [h1], ?_⟩
              have := rep_vals (f := f) (X := X) (w := w) cc.toNat zv.cells.toList
              rw [range_map_list]
              rw [Array.length_toList, hzs] at this ⊢
              exact this
          obtain ⟨Z, hz1, hz2⟩ := hstart
          have hrep : ∀ (z : List A) (m n : Nat), m ≤ n → rep m z = (rep n z).take (m * z.length) := by
            intro z m n hmn
            induction m generalizing n with
            | zero => simp [rep]
            | succ m ih =>
              cases n with
              | zero => omega
              | succ n =>
                simp only [rep]
                rw [ih n (by omega), Nat.succ_mul, List.take_append, List.take_of_length_le (l := z) (by omega)]
                rw [Nat.add_sub_cancel]
          have hsz : ((Array.range (cc.toNat * st)).map (Z[· % Z.size]!)).size = cc.toNat * st := by simp
          have hle2 : nn.toNat * st ≤ cc.toNat * st := Nat.mul_le_mul_right _ (by omega)
          have hlen : (rep (iNat nn) (zv.cells.toList.map A.val)).length = nn.toNat * st := by rw [rep_length, List.length_map, Array.length_toList, hzs, iNat_eq]
          refine ⟨.slice (some ⟨w.heap.size, 0, none⟩) (iNat nn) cc.toNat, w, (Array.range (cc.toNat * st)).map (Z[· % Z.size]!), e, .inl rfl, run_v ?_, by rw [hlen, hsz]; exact hle2, ?_, cc.toNat, rfl, by rw [iNat_eq]; omega, by unfold maxLen; omega, by rw [hsz]; exact Nat.le_refl _⟩
          · have t1 : ¬ (by_ : Int) * cc > 281474976710656 := by rw [Int.mul_comm]; omega
            have t2 : ¬ cc < 0 := by omega
            have t3 : ¬ nn < 0 := by omega
            have t4 : ¬ nn > cc := by omega
            have t5 : ¬ cc.toNat * by_ > roomBytes := by
              unfold roomBytes
              have : ((cc.toNat * by_ : Nat) : Int) = cc * by_ := by rw [Int.natCast_mul, Int.toNat_of_nonneg (by omega)]
              omega
            subst k7
            have e3 : cc.toNat * st = 0 → ∀ g : Nat → Value, (Array.range (cc.toNat * st)).map g = #[] := fun hn g => by rw [hn]; simp
            simp only [Instr.makeSlice, Sem.run_bind, k3, Result.andThen, e1, e2, asInt, asIntOf, k6, w1, w2, Sem.run_pure]
            simp only [show (2 : Int) ^ 48 = 281474976710656 from by decide, t1, t2, t3, t4, decide_false, Bool.or_self, Bool.false_eq_true, if_false, askRoom, t5]
            simp [newRow, iNat_eq]
            rw [k4 w]
            simp only [Result.andThen]
            split
            · rename_i hn
              rw [e3 hn, e3 hn]
            · rename_i hn
              rw [if_neg hn] at hz1
              simp only [Sem.run_bind, h1, Result.andThen, Sem.run_pure, Result.ok.injEq] at hz1
              obtain ⟨rfl, _⟩ := hz1
              simp only [h1, Result.andThen]
          · rw [hlen, hrep _ (iNat nn) cc.toNat (by rw [iNat_eq]; omega)]
            have := hz2.take (nn.toNat * st)
            rw [List.length_map, Array.length_toList, hzs, iNat_eq]
            exact this
      · cases h
    · cases h
end
end Go.Abs
namespace Go.Abs
open Go.RowKit
section
variable {P : Program} {L : List (Nat × TI)} {C : Ctx} {s : St} {fr : Nat → Prop} {f : Pl} {a : Act} {w : World}
/-- A store: where, and the content then. -/
def stA (L : List (Nat × TI)) (t : TypeId) (x v : A) (h : Nat → Reg) : Option (Nat × List Nat × List A) := match look L t, x, cellsA v with
  | some ⟨_, sz, _, _, _⟩, .ptr k p off, some cs => bif Nat.beq cs.length sz then (match (h k).get p with
    | some c => (match stO c off cs with
      | some c' => some (k, p, c')
      | none => none)
    | none => none) else none
  | _, _, _ => none
theorem stA_congr {t : TypeId} {x v : A} {k : Nat} {p : List Nat} {c' : List A} {h h' : Nat → Reg} (hl : stA L t x v h = some (k, p, c')) (hh : h' k = h k) : stA L t x v h' = some (k, p, c') := by
  unfold stA at hl ⊢
  split at hl
  · rename_i sz b g z k' p' off cs h1 h2
    cases hb : Nat.beq cs.length sz with
    | false => rw [hb] at hl; cases hl
    | true =>
      rw [hb] at hl
      simp only [cond_true] at hl ⊢
      have : k' = k := by
        split at hl
        · split at hl
          · simp only [Option.some.injEq, Prod.mk.injEq] at hl; exact hl.1
          · cases hl
        · cases hl
      subst this
      rw [hh]
      exact hl
  · cases hl
theorem stA_run (hT : TOk P L) (h : Rel C s fr f a w) {t : TypeId} {x v : A} {u z : Value} {k : Nat} {p : List Nat} {c' : List A} (hx : V f (C.X s.h f) w x u) (hv : V f (C.X s.h f) w v z) (hl : stA L t x v s.h = some (k, p, c')) :
    ∃ w', (Instr.storeAt t u z).run P w = .ok () w' ∧ Rel C ⟨s.e, hput k ((s.h k).set p c') s.h, s.n⟩ fr f a w' := by
  unfold stA at hl
  split at hl
  · rename_i kk sz b g zz k' p' off cs hlk hcs
    cases hb : Nat.beq cs.length sz with
    | false => rw [hb] at hl; cases hl
    | true =>
      rw [hb] at hl
      have hsz := Nat.eq_of_beq_eq_true hb
      simp only [cond_true] at hl
      split at hl
      · rename_i c hc
        split at hl
        · rename_i c1 hst
          simp only [Option.some.injEq, Prod.mk.injEq] at hl
          obtain ⟨rfl, rfl, rfl⟩ := hl
          have k4 := TIof.size (hT _ _ hlk) w
          dsimp only at k4
          simp only [V] at hx
          obtain ⟨bb, h1, rfl⟩ := hx
          obtain ⟨arr, el, h2, h3, h4⟩ := h.cells hc h1
          obtain ⟨rfl, h5⟩ := stO_spec hst
          obtain ⟨h6, h7⟩ := cellsA_spec hv hcs
          have h8 : z.cells.toList.length = sz := by rw [h6.length, hsz]
          have hfit : off + 0 + z.cells.toList.length ≤ arr.size := by rw [h8]; omega
          have hrun := run_storeCells_at (P := P) bb off el z.cells.toList 0 arr w h2 hfit h7
          simp only [Nat.add_zero] at hrun
          have hsize : (arr.toList.take off ++ z.cells.toList ++ arr.toList.drop (off + z.cells.toList.length)).toArray.size = arr.size := by
            simp only [List.size_toArray, List.length_append, List.length_take, List.length_drop, Array.length_toList] at h8 ⊢
            omega
          have hlen : (c.take off ++ cs ++ c.drop (off + cs.length)).length = c.length := by
            simp only [List.length_append, List.length_take, List.length_drop]; omega
          refine ⟨_, ?_, h.setObj hc h1 h2 hsize (by rw [hlen]; exact h3) ?_⟩
          · have e1 : z.cells.size = sz := by rw [← Array.length_toList]; exact h8
            simp [Instr.storeAt, Instr.sureAddr, storeVar, k4, e1]
            rw [hrun, h8]
            simp
          · rw [hlen]
            have e2 : (arr.toList.take off ++ z.cells.toList ++ arr.toList.drop (off + z.cells.toList.length)).take c.length = (arr.toList.take c.length).take off ++ z.cells.toList ++ (arr.toList.take c.length).drop (off + cs.length) := by
              rw [h8, ← hsz]
              apply List.ext_getElem?
              intro i
              simp only [List.getElem?_take, List.getElem?_append, List.getElem?_drop, List.length_append, List.length_take, List.length_drop, Array.length_toList] at h8 ⊢
              by_cases g1 : i < c.length
              · rw [if_pos g1]
                by_cases g2 : i < off
                · rw [if_pos (by omega), if_pos (by omega), if_pos (by omega), if_pos (by omega), if_pos (by omega), if_pos (by omega), if_pos (by omega)]
                · by_cases g3 : i < off + cs.length
                  · rw [if_pos (by omega), if_neg (by omega), if_pos (by omega), if_neg (by omega)]
                    congr 1; omega
                  · rw [if_neg (by omega), if_neg (by omega), if_pos (by omega)]
                    congr 1; omega
              · rw [if_neg g1]
                by_cases g2 : i < off
                · omega
                · rw [if_neg (by omega), if_neg (by omega)]
            show VL f _ w _ ((arr.toList.take off ++ z.cells.toList ++ arr.toList.drop (off + z.cells.toList.length)).take c.length)
            rw [e2]
            exact ((h4.take off).append h6).append (h4.drop _)
        · cases hl
      · cases hl
  · cases hl

/-! ### Appends -/
/-- The elements that are appended: how many, and their cells; and which object they lie in. -/
def srcA (x : A) (st : Nat) (h : Nat → Reg) : Option (Nat × List A × List Nat) := match x with
  | .ro m l => some (m, l, [])
  | .val (.slice none 0 0) => some (0, [], [])
  | .sl k p _ off m => match (h k).get p with
    | some c => (match dropO off c with
      | some c1 => some (m, c1.take (m * st), [k])
      | none => none)
    | none => none
  | _ => none
theorem srcA_congr {x : A} {st m : Nat} {l : List A} {ks : List Nat} {h h' : Nat → Reg} (hl : srcA x st h = some (m, l, ks)) (hh : ∀ k ∈ ks, h' k = h k) : srcA x st h' = some (m, l, ks) := by
  unfold srcA at hl ⊢
  split at hl
  · exact hl
  · exact hl
  · rename_i k p st' off m'
    have : h' k = h k := by
      refine hh k ?_
      split at hl <;> try cases hl
      split at hl <;> try cases hl
      simp
    rw [this]
    exact hl
  · cases hl
theorem srcA_run (h : Rel C s fr f a w) {x : A} {st m : Nat} {l : List A} {ks : List Nat} {u : Value} (hx : V f (C.X s.h f) w x u) (hl : srcA x st s.h = some (m, l, ks)) (hlen : l.length = m * st) :
    ∃ vs : List Value, vs.length = m * st ∧ VL f (C.X s.h f) w l vs ∧ (Builtin.lenOf u).run P w = .ok m w ∧ (∀ w', w'.heap = w.heap → (Builtin.firstCells st m u).run P w' = .ok vs.toArray w') ∧ ∃ q cap, u = .slice q m cap := by
  unfold srcA at hl
  split at hl
  · rename_i m' l'
    simp only [Option.some.injEq, Prod.mk.injEq] at hl
    obtain ⟨rfl, rfl, _⟩ := hl
    simp only [V] at hx
    obtain ⟨q, cap, rfl, h1, h2, h3, h4⟩ := hx
    cases q with
    | none =>
      obtain ⟨e1, e2, e3⟩ := h3 rfl
      subst e1 e2 e3
      exact ⟨[], by simp, VL.nil, by simp [Builtin.lenOf], fun w' _ => by simp [Builtin.firstCells], none, _, rfl⟩
    | some q =>
      rcases h4 q rfl with e | ⟨g1, g2, g3, vs, g4, g5⟩
      · subst e
        refine ⟨[], by simpa using hlen, VL.nil, by simp [Builtin.lenOf], fun w' _ => ?_, _, _, rfl⟩
        have : m' * st = 0 := by simpa using hlen.symm
        simp [Builtin.firstCells, this, loadCells, loadCellsFrom]
      · refine ⟨vs, by rw [g4.length, hlen], g4.noPl, by simp [Builtin.lenOf], fun w' hw => ?_, _, _, rfl⟩
        have := run_loadCells_list (P := P) w' q vs (fun j v hj => by
          rw [addr_add g1]
          have := g5 j v hj
          simpa [World.cell?, hw] using this)
        rw [g4.length, hlen] at this
        simp [Builtin.firstCells, this]
  · simp only [Option.some.injEq, Prod.mk.injEq] at hl
    obtain ⟨rfl, rfl, _⟩ := hl
    rw [hx.val]
    exact ⟨[], by simp, VL.nil, by simp [Builtin.lenOf], fun w' _ => by simp [Builtin.firstCells], _, _, rfl⟩
  · rename_i k p st' off m'
    split at hl
    · rename_i c hc
      split at hl
      · rename_i c1 hd
        simp only [Option.some.injEq, Prod.mk.injEq] at hl
        obtain ⟨rfl, rfl, _⟩ := hl
        obtain ⟨rfl, hdl⟩ := dropO_spec hd
        simp only [V] at hx
        rcases hx with ⟨g1, rfl, rfl, rfl⟩ | ⟨bb, cap, g1, rfl, g3, g4, arr', el', zz', g5, g6⟩
        · refine ⟨[], by simp, by simpa using VL.nil, by simp [Builtin.lenOf], fun w' _ => by simp [Builtin.firstCells], _, _, rfl⟩
        · obtain ⟨arr, el, h2, h3, h4⟩ := h.cells hc g1
          have h5 := (h4.drop off).take (m' * st)
          have hl2 := h5.length
          rw [hlen] at hl2
          refine ⟨_, hl2, h5, by simp [Builtin.lenOf], fun w' hw => ?_, _, _, rfl⟩
          have := run_loadCells_list (P := P) w' ⟨bb, off, none⟩ (((arr.toList.take c.length).drop off).take (m' * st)) (fun j v hj => by
            rw [add_eq]
            rw [List.getElem?_take] at hj
            split at hj
            · rw [List.getElem?_drop, List.getElem?_take] at hj
              split at hj
              · simp only [World.cell?, hw, h2]
                simpa using hj
              · cases hj
            · cases hj)
          rw [hl2] at this
          simp [Builtin.firstCells, this]
      · cases hl
    · cases hl
  · cases hl
/-- Into which object is appended. -/
def dstA (x : A) (st : Nat) (h : Nat → Reg) : Option (Nat × List A × List Nat) := match x with
  | .sl k [] st' 0 n => bif Nat.beq st' st then (match h k with
    | .one c => some (n, c, [k])
    | _ => none) else none
  | .val (.slice none 0 0) => some (0, [], [])
  | _ => none
def movPl (f : Pl) (k n0 : Nat) : Pl := fun k' p' => if k' = n0 ∧ p' = [] then f k [] else f k' p'
theorem movPl_at (f : Pl) (k n0 : Nat) : movPl f k n0 n0 [] = f k [] := by simp [movPl]
theorem movPl_ne (f : Pl) {k n0 k' : Nat} (h : k' ≠ n0) (p : List Nat) : movPl f k n0 k' p = f k' p := by simp [movPl, h]
/-- An object under another number. -/
theorem Rel.move (h : Rel C s fr f a w) {k n0 : Nat} {c : List A} (hk : s.h k = .one c) (hn : fr n0) :
    Rel C ⟨s.e, hput n0 (.one c) (hput k .gone s.h), s.n⟩ (fun k => fr k ∧ k ≠ n0) (movPl f k n0) a w ∧ Ext f (movPl f k n0) := by
  have hkn : k ≠ n0 := by
    rintro rfl
    rcases h.h k [] c (by rw [hk]; rfl) with ⟨_, h1⟩ | ⟨b, arr, el, h1, _⟩ <;> (rw [h.fr k hn] at h1; cases h1)
  have hext : Ext f (movPl f k n0) := by
    intro k' p b hb
    rw [movPl_ne _ (fun hh => by rw [hh, h.fr n0 hn] at hb; cases hb)]
    exact hb
  have back : ∀ k' p c', ((hput n0 (.one c) (hput k .gone s.h)) k').get p = some c' → (k' = n0 ∧ p = [] ∧ c' = c) ∨ (k' ≠ n0 ∧ k' ≠ k ∧ (s.h k').get p = some c') := by
    intro k' p c' hh
    by_cases e : k' = n0
    · subst e
      rw [hput_same] at hh
      cases p with
      | cons x p => simp [Reg.get] at hh
      | nil => simp only [Reg.get, Option.some.injEq] at hh; exact .inl ⟨rfl, rfl, hh.symm⟩
    · rw [hput_ne _ _ e] at hh
      by_cases e2 : k' = k
      · subst e2; rw [hput_same] at hh; simp [Reg.get] at hh
      · rw [hput_ne _ _ e2] at hh; exact .inr ⟨e, e2, hh⟩
  have liveB : ∀ b, Live (hput n0 (.one c) (hput k .gone s.h)) (movPl f k n0) b → Live s.h f b := by
    rintro b ⟨k', p, h1, h2⟩
    obtain ⟨c', hc'⟩ := Option.ne_none_iff_exists'.1 h1
    rcases back k' p c' hc' with ⟨rfl, rfl, rfl⟩ | ⟨e1, e2, h3⟩
    · rw [movPl_at] at h2
      exact ⟨k, [], by rw [hk]; simp [Reg.get], h2⟩
    · rw [movPl_ne _ e1] at h2
      exact ⟨k', p, by rw [h3]; simp, h2⟩
  have hX : ∀ b, b < w.heap.size → C.X (hput n0 (.one c) (hput k .gone s.h)) (movPl f k n0) b → C.X s.h f b := by
    rintro b _ (hb | hb)
    · exact .inl (liveB b hb)
    · exact .inr hb
  refine ⟨{ N := h.N, defers := h.defers, e := fun i x hx => (h.e i x hx).mono hext hX (Kp.refl (fun _ => False) w) (fun _ _ h => h.elim), h := fun k' p c' hc' => ?_, inj := ?_, kp := h.kp, new := fun b hb => h.new b (liveB b hb), y := h.y, fr := ?_, ext := h.ext.trans hext, dom := h.dom }, hext⟩
  · rcases back k' p c' hc' with ⟨rfl, rfl, rfl⟩ | ⟨e1, e2, h3⟩
    · rcases h.h k [] c' (by rw [hk]; rfl) with ⟨h0, h1⟩ | ⟨b, arr, el, h1, h2, h3, h4⟩
      · exact .inl ⟨h0, by rw [movPl_at]; exact h1⟩
      · exact .inr ⟨b, arr, el, by rw [movPl_at]; exact h1, h2, h3, h4.mono hext hX (Kp.refl (fun _ => False) w) (fun _ _ h => h.elim)⟩
    · rcases h.h k' p c' h3 with ⟨h0, h1⟩ | ⟨b, arr, el, h1, h2, h3, h4⟩
      · exact .inl ⟨h0, hext _ _ _ h1⟩
      · exact .inr ⟨b, arr, el, hext _ _ _ h1, h2, h3, h4.mono hext hX (Kp.refl (fun _ => False) w) (fun _ _ h => h.elim)⟩
  · intro k1 p1 k2 p2 b g1 g2 g3 g4
    obtain ⟨c1, hc1⟩ := Option.ne_none_iff_exists'.1 g1
    obtain ⟨c2, hc2⟩ := Option.ne_none_iff_exists'.1 g2
    rcases back k1 p1 c1 hc1 with ⟨rfl, rfl, rfl⟩ | ⟨e1, e2, h3⟩ <;> rcases back k2 p2 c2 hc2 with ⟨rfl, rfl, h5⟩ | ⟨e3, e4, h6⟩
    · exact ⟨rfl, rfl⟩
    · rw [movPl_at] at g3
      rw [movPl_ne _ e3] at g4
      have := h.inj k [] k2 p2 b (by rw [hk]; simp [Reg.get]) (by rw [h6]; simp) g3 g4
      exact absurd this.1.symm e4
    · rw [movPl_at] at g4
      rw [movPl_ne _ e1] at g3
      have := h.inj k1 p1 k [] b (by rw [h3]; simp) (by rw [hk]; simp [Reg.get]) g3 g4
      exact absurd this.1 e2
    · rw [movPl_ne _ e1] at g3
      rw [movPl_ne _ e3] at g4
      exact h.inj k1 p1 k2 p2 b (by rw [h3]; simp) (by rw [h6]; simp) g3 g4
  · intro k' hk' p
    rw [movPl_ne _ hk'.2]
    exact h.fr k' hk'.1 p
theorem zeroCells_size (z : Array Value) (n : Nat) : (Builtin.zeroCells z n).size = n * z.size := by simp [Builtin.zeroCells]
/-- An append. -/
theorem append_run (hT : TOk P L) (h : Rel C s fr f a w) {n0 : Nat} (hn : fr n0) {t t2 ty : TypeId} {e e2 : Nat} {a1 b1 a2 b2 : Nat} {c1 c2 : Bool} {z1 z2 : List A} (ht : look L t = some ⟨.slice e, a1, b1, c1, z1⟩) (ht2 : look L t2 = some ⟨.slice e2, a2, b2, c2, z2⟩)
    {k3 : TK} {st by_ : Nat} {g3 : Bool} {z3 : List A} (hte : look L e = some ⟨k3, st, by_, g3, z3⟩) (hzl : z3.length = st) (hst : st ≠ 0) {x y : A} {u v : Value} (hx : V f (C.X s.h f) w x u) (hy : V f (C.X s.h f) w y v)
    {n m : Nat} {c l : List A} {ks ks' : List Nat} (hd : dstA x st s.h = some (n, c, ks)) (hs : srcA y st s.h = some (m, l, ks')) (hlen : l.length = m * st) (hc : n * st ≤ c.length) (hcell : l.all A.cell = true)
    (hsz : (n + m) * by_ ≤ 140737488355328) (hml : n + m ≤ 9223372036854775807) :
    ∃ v' w' f', (Builtin.append_ #[t, t2] ty #[u, v]).run P w = .ok v' w' ∧ Ext f f' ∧
      Rel C ⟨s.e, hput n0 (.one (c.take (n * st) ++ l)) (puts (ks.map fun k => (k, Reg.gone)) s.h), s.n⟩ (fun k => fr k ∧ k ≠ n0) f' a w' ∧ V f' (C.X (hput n0 (.one (c.take (n * st) ++ l)) (puts (ks.map fun k => (k, Reg.gone)) s.h)) f') w' (.sl n0 [] st 0 (n + m)) v' := by
  obtain ⟨d1, q1, q2, q3⟩ := look_kind hT ht
  obtain rfl := kindOf_slice q2
  obtain ⟨d2, q4, q5, q6⟩ := look_kind hT ht2
  obtain rfl := kindOf_slice q5
  have k4 := TIof.size (hT _ _ hte)
  dsimp only at k4
  obtain ⟨ie, k6, k7, k8⟩ := TIof.bytes (hT _ _ hte) w
  have k6' : ∀ w, (typeInfo e).run P w = .ok ie w := by
    intro w'
    obtain ⟨i, u, z, h1, _⟩ := TIof.spec (hT _ _ hte)
    have : (typeInfo e).run P w = .ok i w := by simp [typeInfo, h1]
    rw [this] at k6
    simp only [Result.ok.injEq] at k6
    rw [← k6.1]
    simp [typeInfo, h1]
  dsimp only at k7
  obtain ⟨vs, s1, s2, s3, s4, qa, qc, s5⟩ := srcA_run h hy hs hlen
  have s6 : ∀ v ∈ vs, v.oneCell' = true := s2.cell hcell
  have zz : ∀ w, ∃ zv, (zeroValue e).run P w = .ok zv w ∧ zv.cells.size = st := by
    intro w
    obtain ⟨zv, h1, h2⟩ := TIof.zero (hT _ _ hte) w
    dsimp only at h2
    exact ⟨zv, h1, by rw [← hzl, h2]; simp⟩
  have nml : n + m ≤ maxLen := by unfold maxLen; omega
  have grow : ∀ (olds : List Value) (w1 : World) (f1 : Pl) (s1' : St) (base : Option Addr) (cap : Nat), w1 = w → u = .slice base n cap → cap < n + m → olds.length = n * st →
      VL f (C.X s.h f) w (c.take (n * st)) olds → (∀ w', w'.heap = w.heap → (Builtin.firstCells st n u).run P w' = .ok olds.toArray w') →
      s1' = ⟨s.e, puts (ks.map fun k => (k, Reg.gone)) s.h, s.n⟩ → Rel C s1' fr f a w →
      ∃ v' w' f', (Builtin.append_ #[t, t2] ty #[u, v]).run P w = .ok v' w' ∧ Ext f f' ∧
      Rel C ⟨s.e, hput n0 (.one (c.take (n * st) ++ l)) (puts (ks.map fun k => (k, Reg.gone)) s.h), s.n⟩ (fun k => fr k ∧ k ≠ n0) f' a w' ∧ V f' (C.X (hput n0 (.one (c.take (n * st) ++ l)) (puts (ks.map fun k => (k, Reg.gone)) s.h)) f') w' (.sl n0 [] st 0 (n + m)) v' := by
    intro olds w1 f1 s1' base cap _ hu hcap holds hv1 hf1 hs1 hr1
    subst hs1
    obtain ⟨zv, h1, h2⟩ := zz w.drew
    have hnc : n + m ≤ grownCap w (n + m) cap e := grownCap_ge _ _ _ _
    have hncm : grownCap w (n + m) cap e ≤ maxLen := grownCap_le_maxLen _ _ _ _ nml
    have hfit := growslice_fits (need := n + m) (old := cap) (bytes := by_) hcap hsz
    generalize hG : grownCap w (n + m) cap e = G at hnc hncm
    have hXd : VL f (C.X (puts (ks.map fun k => (k, Reg.gone)) s.h) f) w.drew (c.take (n * st) ++ l) (olds ++ vs) := by
      have hX : ∀ b, b < w.heap.size → C.X (puts (ks.map fun k => (k, Reg.gone)) s.h) f b → C.X s.h f b := by
        rintro b _ (hb | hb)
        · refine .inl (Live.mono ?_ hb)
          intro k p hkp
          have : ∀ (ks : List Nat), ((puts (ks.map fun k => (k, Reg.gone)) s.h) k).get p ≠ none → (s.h k).get p ≠ none := by
            intro ks
            induction ks with
            | nil => exact id
            | cons k0 ks ih =>
              intro hh
              simp only [List.map_cons, puts] at hh
              by_cases e0 : k = k0
              · subst e0; rw [hput_same] at hh; exact absurd rfl hh
              · rw [hput_ne _ _ e0] at hh; exact ih hh
          exact this ks hkp
        · exact .inr hb
      exact (hv1.append s2).mono (Ext.refl f) hX (Kp.drew (fun _ => False) w) (fun _ _ h => h.elim)
    have hasz : (c.take (n * st) ++ l).length = (n + m) * st := by
      rw [List.length_append, List.length_take, Nat.min_eq_left hc, hlen, Nat.add_mul]
    have harr : ((olds.toArray ++ vs.toArray ++ Builtin.zeroCells zv.cells (G - (n + m))).size) = G * st := by
      simp only [Array.size_append, List.size_toArray, holds, s1, zeroCells_size, h2]
      rw [← Nat.add_mul, ← Nat.add_mul]; congr 1; omega
    obtain ⟨r1, r2⟩ := hr1.drew.newOne hn (c.take (n * st) ++ l) (olds.toArray ++ vs.toArray ++ Builtin.zeroCells zv.cells (G - (n + m))) e (by
        rw [harr, hasz]; exact Nat.mul_le_mul_right _ hnc) (by
        have e1 : ((olds.toArray ++ vs.toArray ++ Builtin.zeroCells zv.cells (G - (n + m))).toList).take (c.take (n * st) ++ l).length = olds ++ vs := by
          simp only [Array.toList_append]
          rw [List.take_append_of_le_length (by rw [hasz]; simp [holds, s1, Nat.add_mul]), List.take_of_length_le (by rw [hasz]; simp [holds, s1, Nat.add_mul])]
        rw [e1]; exact hXd)
    refine ⟨.slice (some ⟨w.heap.size, 0, none⟩) (n + m) G, _, _, ?_, r2, r1, ?_⟩
    · have e1 : ¬ (n + m ≤ cap) := by omega
      have e2 : ¬ (9223372036854775807 < ((n : Int) + (m : Int))) := by omega
      have e3 : ¬ (281474976710656 < Builtin.nextslicecap (n + m) cap * ie.bytes) := by rw [k7]; omega
      have e4 := s4 w.drew rfl
      have e5 := hf1 w.drew rfl
      subst s5 hu
      have hask : (askRoom (G * ie.bytes) : Sem Unit).run P w.drew = .ok () w.drew := by
        unfold askRoom
        split <;> rfl
      unfold grownCap at hG
      simp [Builtin.append_, q3, q6, k4, k6', Builtin.lenOf, e1, e2, e3, Question.forced, hG, hask, e5, newRow]
      rw [e4]
      simp only [Result.andThen]
      rw [h1]
      simp only [Array.append_assoc]
      simp
      rw [← Array.append_assoc]
      simp
    · simp only [V]
      refine .inr ⟨w.heap.size, G, by simp [newPl], rfl, hnc, hncm, olds.toArray ++ vs.toArray ++ Builtin.zeroCells zv.cells (G - (n + m)), e, (0, 0), ?_, ?_⟩
      · show (w.heap.push _)[w.heap.size]? = _
        simp
      · rw [harr]; omega
  unfold dstA at hd
  split at hd
  · rename_i k st' n'
    cases hbst : Nat.beq st' st with
    | false => rw [hbst] at hd; cases hd
    | true =>
    rw [hbst] at hd
    have hst' := Nat.eq_of_beq_eq_true hbst
    simp only [cond_true] at hd
    split at hd
    · rename_i c' hk
      simp only [Option.some.injEq, Prod.mk.injEq] at hd
      obtain ⟨rfl, rfl, rfl⟩ := hd
      simp only [V] at hx
      rcases hx with ⟨g1, rfl, _, rfl⟩ | ⟨bb, cap, g1, rfl, g3, g4, arr', el', zz', g5, g6⟩
      · -- nil
        by_cases hm : m = 0
        · subst hm
          have hl0 : l = [] := by simpa using hlen
          subst hl0
          obtain ⟨r1, r2⟩ := (h.drop k).newNil hn
          refine ⟨.slice none 0 0, w, _, ?_, r2, by simpa [puts] using r1, by simp [V, newPl]⟩
          subst s5
          have e4 := s4 w rfl
          have hv0 : vs = [] := by simpa using s1
          subst hv0
          simp [Builtin.append_, q3, q6, k4, Builtin.lenOf]
          rw [e4]
          rfl
        · refine grow [] w f _ none 0 rfl rfl (by omega) (by simp) (by simpa using VL.nil) (fun w' _ => by simp [Builtin.firstCells]) rfl (h.drop k)
      · obtain ⟨arr, el, h2, h3, h4⟩ := h.cells (k := k) (p := []) (by rw [hk]; rfl) g1
        have olds : VL f (C.X s.h f) w (c'.take (n' * st)) (arr.toList.take (n' * st)) := by
          have := h4.take (n' * st)
          rwa [List.take_take, Nat.min_eq_left hc] at this
        have oldl : (arr.toList.take (n' * st)).length = n' * st := by rw [List.length_take, Array.length_toList]; omega
        by_cases hroom : n' + m ≤ cap
        · -- in place
          rw [h2] at g5
          simp only [Option.some.injEq, Obj.cells.injEq] at g5
          obtain ⟨rfl, rfl, rfl⟩ := g5
          subst hst'
          have hmul : (n' + m) * st' ≤ cap * st' := Nat.mul_le_mul_right _ hroom
          rw [Nat.add_mul] at hmul
          have hfit : n' * st' + 0 + vs.length ≤ arr.size := by rw [s1]; omega
          have hrun := run_storeCells_at (P := P) bb (n' * st') el vs 0 arr w h2 hfit s6
          simp only [Nat.add_zero] at hrun
          have hsize : (arr.toList.take (n' * st') ++ vs ++ arr.toList.drop (n' * st' + vs.length)).toArray.size = arr.size := by
            simp only [List.size_toArray, List.length_append, List.length_take, List.length_drop, Array.length_toList]
            omega
          have hnl : (c'.take (n' * st') ++ l).length = n' * st' + m * st' := by rw [List.length_append, List.length_take, Nat.min_eq_left hc, hlen]
          have hnew : VL f (C.X s.h f) w (c'.take (n' * st') ++ l) ((arr.toList.take (n' * st') ++ vs ++ arr.toList.drop (n' * st' + vs.length)).toArray.toList.take (c'.take (n' * st') ++ l).length) := by
            rw [hnl]
            show VL f (C.X s.h f) w _ ((arr.toList.take (n' * st') ++ vs ++ arr.toList.drop (n' * st' + vs.length)).take _)
            have e9 : (arr.toList.take (n' * st') ++ vs).length = n' * st' + m * st' := by rw [List.length_append, oldl, s1]
            rw [List.take_append_of_le_length (by omega), List.take_of_length_le (l := arr.toList.take (n' * st') ++ vs) (by omega)]
            exact olds.append s2
          have r1 := h.setObj (k := k) (p := []) (by rw [hk]; rfl) g1 h2 hsize (by rw [hnl]; omega) hnew
          rw [hk] at r1
          have hk1 : (hput k ((Reg.one c').set [] (c'.take (n' * st') ++ l)) s.h) k = .one (c'.take (n' * st') ++ l) := by rw [hput_same]; rfl
          obtain ⟨r2, r3⟩ := r1.move hk1 hn
          have hh : hput k .gone (hput k ((Reg.one c').set [] (c'.take (n' * st') ++ l)) s.h) = hput k .gone s.h := by
            funext j
            by_cases e : j = k
            · subst e; rw [hput_same, hput_same]
            · rw [hput_ne _ _ e, hput_ne _ _ e, hput_ne _ _ e]
          dsimp only at r2
          rw [hh] at r2
          refine ⟨.slice (some ⟨bb, 0, none⟩) (n' + m) cap, _, _, ?_, r3, r2, ?_⟩
          · subst s5
            have e4 := s4 w rfl
            simp [Builtin.append_, q3, q6, k4, Builtin.lenOf, hroom]
            rw [e4]
            simp only [Result.andThen]
            rw [add_eq, Nat.zero_add, hrun]
            simp
          · simp only [V]
            refine .inr ⟨bb, cap, by rw [movPl_at]; exact g1, rfl, hroom, g4, (arr.toList.take (n' * st') ++ vs ++ arr.toList.drop (n' * st' + vs.length)).toArray, el, (0, 0), setRow_heap w bb arr _ el (0, 0) h2, ?_⟩
            rw [hsize]; omega
        · exact grow (arr.toList.take (n' * st)) w f _ (some ⟨bb, 0, none⟩) cap rfl rfl (by omega) oldl olds (fun w' hw => by
            have := run_loadCells_list (P := P) w' ⟨bb, 0, none⟩ (arr.toList.take (n' * st)) (fun j v hj => by
              rw [add_eq, Nat.zero_add]
              rw [List.getElem?_take] at hj
              split at hj
              · simp only [World.cell?, hw, h2]
                simpa using hj
              · cases hj)
            rw [oldl] at this
            simp [Builtin.firstCells, this]) rfl (h.drop k)
    · cases hd
  · simp only [Option.some.injEq, Prod.mk.injEq] at hd
    obtain ⟨rfl, rfl, rfl⟩ := hd
    have := hx.val
    subst this
    by_cases hm : m = 0
    · subst hm
      have hl0 : l = [] := by simpa using hlen
      subst hl0
      obtain ⟨r1, r2⟩ := h.newNil hn
      refine ⟨.slice none 0 0, w, _, ?_, r2, by simpa [puts] using r1, by simp [V, newPl]⟩
      subst s5
      have e4 := s4 w rfl
      have hv0 : vs = [] := by simpa using s1
      subst hv0
      simp [Builtin.append_, q3, q6, k4, Builtin.lenOf]
      rw [e4]
      rfl
    · refine grow [] w f _ none 0 rfl rfl (by omega) (by simp) (by simpa using VL.nil) (fun w' _ => by simp [Builtin.firstCells]) rfl h
  · cases hd
end
end Go.Abs
namespace Go.Abs
open Go.RowKit
section
variable {P : Program} {L : List (Nat × TI)} {C : Ctx} {ops : Array Oper} {Qp : List PanicEntry → Prop}
theorem fillA_congr {place : Nat → Option (Nat × Nat)} {ev ev' : Operand → Option A} : ∀ (parts : List (Nat × Operand)) (l : List A), (∀ x ∈ parts.map (·.2), ev x = ev' x) → fillA place ev parts l = fillA place ev' parts l
  | [], l, _ => rfl
  | (i, x) :: rest, l, h => by
    simp only [fillA]
    rw [h x (by simp)]
    have ih := fun l => fillA_congr (place := place) rest l (fun y hy => h y (by simp at hy ⊢; exact .inr hy))
    simp only [ih]
theorem mapEv_congr {ev ev' : Operand → Option A} : ∀ (xs : List Operand), (∀ x ∈ xs, ev x = ev' x) → mapEv ev xs = mapEv ev' xs
  | [], _ => rfl
  | x :: xs, h => by simp only [mapEv]; rw [h x (by simp), mapEv_congr xs (fun y hy => h y (by simp [hy]))]
theorem bnd_congr {ev ev' : Operand → Option A} {o : Option Operand} (h : ∀ x ∈ o.toArray, ev x = ev' x) : bnd ev o = bnd ev' o := by
  cases o with
  | none => rfl
  | some x => simp only [bnd]; rw [h x (by simp)]
theorem vop_congr {op : Op} {ev ev' : Operand → Option A} (h : ∀ x ∈ op.operands, ev x = ev' x) : vop L op ev = vop L op ev' := by
  cases op <;> try rfl
  case build t parts =>
    have hp : ∀ (place : Nat → Option (Nat × Nat)) (l : List A), fillA place ev parts.toList l = fillA place ev' parts.toList l := fun place l => fillA_congr _ l (fun x hx => h x (by simpa [Op.operands] using hx))
    simp only [vop, hp]
  case binOp op t x y t2 => simp only [vop]; rw [h x (by simp [Op.operands]), h y (by simp [Op.operands])]
  case pick c a b => simp only [vop]; rw [h c (by simp [Op.operands]), h a (by simp [Op.operands]), h b (by simp [Op.operands])]
  case makeFunc g first caps =>
    have h1 := mapEv_congr (ev := ev) (ev' := ev') first.toList (fun x hx => h x (by simp [Op.operands] at hx ⊢; exact .inl hx))
    have h2 := mapEv_congr (ev := ev) (ev' := ev') caps.toList (fun x hx => h x (by simp [Op.operands] at hx ⊢; exact .inr hx))
    cases g <;> simp only [vop]
    rw [h1, h2]
  case slice t x lo hi mx =>
    have h1 := bnd_congr (ev := ev) (ev' := ev') (o := lo) (fun y hy => h y (by simp only [Op.operands, Array.mem_append]; exact .inl (.inl (.inr hy))))
    have h2 := bnd_congr (ev := ev) (ev' := ev') (o := hi) (fun y hy => h y (by simp only [Op.operands, Array.mem_append]; exact .inl (.inr hy)))
    have h3 := h x (by simp [Op.operands])
    cases mx <;> simp only [vop]
    rw [h1, h2, h3]
  case indexAddr t x i => simp only [vop]; rw [h x (by simp [Op.operands]), h i (by simp [Op.operands])]
  case index t x i => simp only [vop]; rw [h x (by simp [Op.operands]), h i (by simp [Op.operands])]
  case call c =>
    obtain ⟨callee, args, ts⟩ := c
    cases callee <;> try rfl
    rename_i b
    have h1 : ∀ x ∈ args.toList, ev x = ev' x := fun x hx => h x (by simp [Op.operands, Call.operands] at hx ⊢; exact hx)
    simp only [vop]
    generalize args.toList = l at h1
    generalize ts.toList = m
    rcases l with _ | ⟨x, _ | ⟨y, _ | ⟨z, l⟩⟩⟩ <;> rcases m with _ | ⟨t, _ | ⟨t2, m⟩⟩ <;> cases b <;> first
      | rfl
      | (simp only; rw [h1 x (by simp), h1 y (by simp)])
      | (simp only; rw [h1 x (by simp)])
  case move x => simp only [vop]; rw [h x (by simp [Op.operands])]
  case assign x => simp only [vop]; rw [h x (by simp [Op.operands])]
  case nilCheck x => simp only [vop]; rw [h x (by simp [Op.operands])]
  case unOp op t x => simp only [vop]; rw [h x (by simp [Op.operands])]
  case convert a b x => simp only [vop]; rw [h x (by simp [Op.operands])]
  case makeInterface t x => simp only [vop]; rw [h x (by simp [Op.operands])]
  case fieldAddr t x i => simp only [vop]; rw [h x (by simp [Op.operands])]
  case field t x i => simp only [vop]; rw [h x (by simp [Op.operands])]
  case extract x i => simp only [vop]; rw [h x (by simp [Op.operands])]

/-- Whether an operation is wanted. -/
def wantA (ops : Array Oper) (g : Option (Nat × Bool)) (e : Nat → Option A) : Option Bool := match g with
  | none => some true
  | some (j, want) => match ops[j]? with
    | some oj => (match oj.dst with
      | some d => (match e d with
        | some (.val (.bool b)) => some (b == want)
        | some (.val (.tuple _)) => some false
        | _ => none)
      | none => none)
    | none => none
def gslot (ops : Array Oper) (g : Option (Nat × Bool)) : List Nat := match g with
  | none => []
  | some (j, _) => match ops[j]? with
    | some oj => oj.dst.toList
    | none => []
theorem wanted_of {s : St} {fr : Nat → Prop} {f : Pl} {a : Act} {w : World} (h : Rel C s fr f a w) {o : Oper} {b : Bool} (hw : wantA ops o.guard s.e = some b) : Region.wanted o (yielded ops a.tmps) = b := by
  unfold wantA at hw
  unfold Region.wanted
  split at hw
  · rename_i hg
    rw [hg]
    simpa using hw
  · rename_i j want hg
    rw [hg]
    split at hw
    · rename_i oj hj
      split at hw
      · rename_i d hd
        split at hw
        · rename_i b' he
          simp only [Option.some.injEq] at hw
          have h1 := (h.e d _ he).val
          have h2 : a.tmps[d]? = some (.bool b') := by
            rw [Array.getD_eq_getD_getElem?] at h1
            cases hh : a.tmps[d]? with
            | none => rw [hh] at h1; simp [undef] at h1
            | some v => rw [hh] at h1; simp at h1; rw [h1]
          have h3 : yielded ops a.tmps j = some b' := by simp [yielded, hj, hd, h2]
          simp only [h3]
          rw [← hw]
          cases b' <;> cases want <;> rfl
        · rename_i vs he
          simp only [Option.some.injEq] at hw
          subst hw
          have h1 := (h.e d _ he).val
          have h3 : yielded ops a.tmps j = none := by
            rw [Array.getD_eq_getD_getElem?] at h1
            cases hh : a.tmps[d]? with
            | none => simp [yielded, hj, hd, hh]
            | some v => rw [hh] at h1; simp at h1; subst h1; simp [yielded, hj, hd, hh]
          simp only [h3]
          cases want <;> rfl
        · cases hw
      · cases hw
    · cases hw
theorem wantA_congr {g : Option (Nat × Bool)} {e e' : Nat → Option A} (h : ∀ i ∈ gslot ops g, e' i = e i) : wantA ops g e' = wantA ops g e := by
  unfold wantA
  split
  · rfl
  · rename_i j want
    split
    · rename_i oj hj
      split
      · rename_i d hd
        rw [h d (by simp [gslot, hj, hd])]
      · rfl
    · rfl
def oslots (o : Op) : List Nat := o.operands.toList.filterMap fun | .tmp t => some t | _ => none
theorem ev_agree {o : Op} {e e' : Nat → Option A} (h : ∀ i ∈ oslots o, e' i = e i) : ∀ x ∈ o.operands, evE e' x = evE e x := by
  intro x hx
  cases x with
  | tmp t => exact h t (List.mem_filterMap.2 ⟨.tmp t, by simpa using hx, rfl⟩)
  | _ => rfl
/-- What an operation looks at. -/
def fpOf (ops : Array Oper) (o : Oper) (hs : List Nat) : FP := ⟨gslot ops o.guard ++ oslots o.op, hs, []⟩
theorem Agree.parts {o : Oper} {hs : List Nat} {s s0 : St} (h : Agree (fpOf ops o hs) s s0) : (∀ i ∈ gslot ops o.guard, s.e i = s0.e i) ∧ (∀ x ∈ o.op.operands, evE s.e x = evE s0.e x) ∧ ∀ k ∈ hs, s.h k = s0.h k :=
  ⟨fun i hi => h.1 i (by simp [fpOf, hi]), ev_agree (fun i hi => h.1 i (by simp [fpOf, hi])), fun k hk => h.2 k hk⟩

/-- A region from here on: after the operations of tr the state is s. -/
def RG (P : Program) (C : Ctx) (ops : Array Oper) (draw : Bool) (Q : AQ) (s0 : St) (tr : List TE) (s : St) : Prop :=
  Tr P C ops Q.p s0 tr s → ∀ id, AW P C (.region id ops draw) Q s0
section
variable {draw : Bool} {Q : AQ} {s0 : St} {tr : List TE} {e : Nat → Option A} {h : Nat → Reg} {n : Nat}
theorem AW.region {id : Nat} {s : St} (hr : RG P C ops draw Q s [] s) : AW P C (.region id ops draw) Q s := hr .nil id
theorem RG.done {s : St} (hl : Nat.beq tr.length ops.size = true) (hq : Q.q .normal s) : RG P C ops false Q s0 tr s := by
  intro hT id f a w hr
  refine wp_region (text_order hT (Nat.eq_of_beq_eq_true hl) (Q := QL C Q) (fun ch a w h => h) (fun f a w hr => ⟨s, f, hq, hr⟩) hr)
theorem RG.doneD {s : St} (hm : P.follows .mixedOrders = true) (hl : Nat.beq tr.length ops.size = true) (hc : cfree ops tr.reverse = true) (hq : Q.q .normal s) : RG P C ops true Q s0 tr s := by
  intro hT id f a w hr
  exact wp_region_any hm (any_order hT (Nat.eq_of_beq_eq_true hl) hc (Q := QL C Q) (fun ch a w h => h) (fun f a w hr => ⟨s, f, hq, hr⟩) hr.drew)
theorem RG.doneS {s : St} (hm : P.follows .mixedOrders = true) (hl : Nat.beq tr.length ops.size = true) (hc : cfreeS ops tr.reverse = true) (hs : SoftU ops tr.reverse s0 0 tr.reverse) (hq : Q.q .normal s) : RG P C ops true Q s0 tr s := by
  intro hT id f a w hr
  exact wp_region_any hm (any_orderS hT (Nat.eq_of_beq_eq_true hl) hc hs (Q := QL C Q) (fun ch a w h => h) (fun f a w hr => ⟨s, f, hq, hr⟩) hr.drew)
theorem RG.step {s : St} (t : TE) (hn : t.n0 = s.n) (hw : WStep P C ops Q.p tr.length t s) (hr : RG P C ops draw Q s0 (t :: tr) (t.app s)) : RG P C ops draw Q s0 tr s :=
  fun hT id => hr (.snoc tr s t hT hn hw) id
/-- A step of an operation that is wanted and carried out so. -/
theorem wstep_of {i : Nat} {o : Oper} {t : TE} {hs : List Nat} {s0 : St} (ho : ops[i]? = some o) (hfp : t.fp = fpOf ops o hs) (hg : wantA ops o.guard s0.e = some true)
    (hrun : ∀ s fr f a w, Agree t.fp s s0 → (∀ k, t.rng k → fr k) → Rel C s fr f a w → ∀ next Q, (∀ ch a w, Pan C Qp ch a w → Q (.panic ch) a w) →
      (∀ a' w' f', Rel C (t.app s) (fun k => fr k ∧ ¬ t.rng k) f' a' w' → next a' w') → o.wp P a w next Q) : WStep P C ops Qp i t s0 := by
  refine ⟨fun x hx => (by rw [hfp] at hx; cases hx), ?_⟩
  intro s fr f a w ha _ hfr hr Q hQ
  have hp : ∀ i ∈ gslot ops o.guard, s.e i = s0.e i := by rw [hfp] at ha; exact ha.parts.1
  have hw := wanted_of (ops := ops) hr (o := o) (b := true) (by rw [wantA_congr hp]; exact hg)
  unfold wpOp
  rw [ho]
  simp only [hw, if_true]
  exact .inl (hrun s fr f a w ha hfr hr _ Q hQ (fun a' w' f' h => ⟨f', h⟩))
/-- An operation that is not wanted. -/
theorem RG.skip {d : Option Tmp} {op : Op} {ty : TypeId} {pos : String} {af : Array Edge} {g : Option (Nat × Bool)} (ho : ops[tr.length]? = some ⟨d, op, ty, pos, af, g⟩) (hg : wantA ops g e = some false) (hd : dOk C d = true)
    (hr : RG P C ops draw Q s0 (⟨⟨gslot ops g, [], []⟩, d, ⟨some (.val undef), [], 0⟩, n⟩ :: tr) ⟨putd d (some (.val undef)) e, h, n⟩) : RG P C ops draw Q s0 tr ⟨e, h, n⟩ := by
  refine RG.step (s := ⟨e, h, n⟩) ⟨⟨gslot ops g, [], []⟩, d, ⟨some (.val undef), [], 0⟩, n⟩ rfl ?_ hr
  refine ⟨fun x hx => (by cases hx), ?_⟩
  intro s fr f a w ha _ hfr hrel Q' hQ'
  have hp : ∀ i ∈ gslot ops g, s.e i = e i := fun i hi => ha.1 i hi
  have hw := wanted_of (ops := ops) hrel (o := ⟨d, op, ty, pos, af, g⟩) (b := false) (by dsimp only; rw [wantA_congr hp]; exact hg)
  unfold wpOp
  rw [ho]
  simp only [hw, Bool.false_eq_true, if_false]
  refine ⟨f, ?_⟩
  exact { hrel.put hd (o := some (.val undef)) (v := undef) (fun x hx => by simp only [Option.some.injEq] at hx; subst hx; simp only [V]) with fr := fun k hk => hrel.fr k hk.1 }
/-- An operation that only computes. -/
theorem RG.val (hT : TOk P L) {d : Option Tmp} {op : Op} {ty : TypeId} {pos : String} {af : Array Edge} {g : Option (Nat × Bool)} {r r' : Option A} {sd : Prop} (ho : ops[tr.length]? = some ⟨d, op, ty, pos, af, g⟩) (hg : wantA ops g e = some true)
    (hv : vop L op (evE e) = some (r, sd)) (hsd : sd) (hd : dOk C d = true) (hr' : r = r')
    (hr : RG P C ops draw Q s0 (⟨fpOf ops ⟨d, op, ty, pos, af, g⟩ [], d, ⟨r', [], 0⟩, n⟩ :: tr) ⟨putd d r' e, h, n⟩) : RG P C ops draw Q s0 tr ⟨e, h, n⟩ := by
  subst hr'
  refine RG.step (s := ⟨e, h, n⟩) ⟨fpOf ops ⟨d, op, ty, pos, af, g⟩ [], d, ⟨r, [], 0⟩, n⟩ rfl (wstep_of ho rfl hg ?_) hr
  intro s fr f a w ha hfr hrel next Q' hQ' hnext
  obtain ⟨_, h1, _⟩ := ha.parts
  obtain ⟨v, h2, h3⟩ := vop_run (P := P) (w := w) (ρ := a.eval) (o := ⟨d, op, ty, pos, af, g⟩) hT (fun x v hx => hrel.ev hx) (by dsimp only at h1 ⊢; rw [vop_congr h1]; exact hv) hsd
  unfold Oper.wp
  rw [h2]
  refine hnext _ _ f ?_
  exact { hrel.put hd h3 with fr := fun k hk => hrel.fr k hk.1 }
/-- A load. -/
theorem RG.load (hT : TOk P L) {d : Option Tmp} {t : TypeId} {x : Operand} {ty : TypeId} {pos : String} {af : Array Edge} {g : Option (Nat × Bool)} {a0 v v' : A} {ks : List Nat} (ho : ops[tr.length]? = some ⟨d, .load t x, ty, pos, af, g⟩) (hg : wantA ops g e = some true)
    (hx : evE e x = some a0) (hl : ldA L t a0 h = some (v, ks)) (hd : dOk C d = true) (hv' : v = v')
    (hr : RG P C ops draw Q s0 (⟨fpOf ops ⟨d, .load t x, ty, pos, af, g⟩ ks, d, ⟨some v', [], 0⟩, n⟩ :: tr) ⟨putd d (some v') e, h, n⟩) : RG P C ops draw Q s0 tr ⟨e, h, n⟩ := by
  subst hv'
  refine RG.step (s := ⟨e, h, n⟩) ⟨fpOf ops ⟨d, .load t x, ty, pos, af, g⟩ ks, d, ⟨some v, [], 0⟩, n⟩ rfl (wstep_of ho rfl hg ?_) hr
  intro s fr f a w ha hfr hrel next Q' hQ' hnext
  obtain ⟨_, h1, h2⟩ := ha.parts
  have hx' : evE s.e x = some a0 := (h1 x (by simp [Op.operands])).trans hx
  obtain ⟨z, h3, h4⟩ := ldA_run hT hrel (hrel.ev hx') (ldA_congr hl h2)
  unfold Oper.wp
  rw [show (execOp a.eval ⟨d, .load t x, ty, pos, af, g⟩).run P w = .ok (.value z) w from run_v h3]
  refine hnext _ _ f ?_
  exact { hrel.put hd (o := some v) (fun y hy => by simp only [Option.some.injEq] at hy; subst hy; exact h4) with fr := fun k hk => hrel.fr k hk.1 }
/-- A load of which the value alone is needed to stay as it is. -/
theorem RG.loadS (hT : TOk P L) {d : Option Tmp} {t : TypeId} {x : Operand} {ty : TypeId} {pos : String} {af : Array Edge} {g : Option (Nat × Bool)} {a0 v v' : A} {k : Nat} (ho : ops[tr.length]? = some ⟨d, .load t x, ty, pos, af, g⟩) (hg : wantA ops g e = some true)
    (hx : evE e x = some a0) (hl : ldA L t a0 h = some (v, [k])) (hd : dOk C d = true) (hv' : v = v')
    (hr : RG P C ops draw Q s0 (⟨⟨gslot ops g ++ oslots (.load t x), [], [(k, fun reg => ldA L t a0 (fun _ => reg) = some (v', [k]))]⟩, d, ⟨some v', [], 0⟩, n⟩ :: tr) ⟨putd d (some v') e, h, n⟩) : RG P C ops draw Q s0 tr ⟨e, h, n⟩ := by
  subst hv'
  refine RG.step (s := ⟨e, h, n⟩) ⟨⟨gslot ops g ++ oslots (.load t x), [], [(k, fun reg => ldA L t a0 (fun _ => reg) = some (v, [k]))]⟩, d, ⟨some v, [], 0⟩, n⟩ rfl ⟨?_, ?_⟩ hr
  · intro y hy
    simp only [List.mem_singleton] at hy
    subst hy
    exact ldA_congr hl (fun j hj => by simp only [List.mem_singleton] at hj; subst hj; rfl)
  intro s fr f a w ha hsf hfr hrel Q' hQ'
  have hp : ∀ i ∈ gslot ops g, s.e i = e i := fun i hi => ha.1 i (by simp [hi])
  have hw := wanted_of (ops := ops) hrel (o := ⟨d, .load t x, ty, pos, af, g⟩) (b := true) (by dsimp only; rw [wantA_congr hp]; exact hg)
  have h1 := ev_agree (o := .load t x) (e := e) (e' := s.e) (fun i hi => ha.1 i (by simp [hi]))
  have hx' : evE s.e x = some a0 := (h1 x (by simp [Op.operands])).trans hx
  have hl' : ldA L t a0 s.h = some (v, [k]) := ldA_congr (hsf (k, fun reg => ldA L t a0 (fun _ => reg) = some (v, [k])) (List.mem_singleton.2 rfl)) (fun j hj => by simp only [List.mem_singleton] at hj; subst hj; rfl)
  obtain ⟨z, h3, h4⟩ := ldA_run hT hrel (hrel.ev hx') hl'
  unfold wpOp
  rw [ho]
  simp only [hw, if_true]
  refine .inl ?_
  unfold Oper.wp
  rw [show (execOp a.eval ⟨d, .load t x, ty, pos, af, g⟩).run P w = .ok (.value z) w from run_v h3]
  refine ⟨f, ?_⟩
  exact { hrel.put hd (o := some v) (fun y hy => by simp only [Option.some.injEq] at hy; subst hy; exact h4) with fr := fun k hk => hrel.fr k hk.1 }
theorem fr_one {n k : Nat} {fr : Nat → Prop} (h : fr k ∧ ¬ (n ≤ k ∧ k < n + 1)) : fr k ∧ k ≠ n := ⟨h.1, fun e => h.2 ⟨by omega, by omega⟩⟩
/-- A new object. -/
theorem RG.new (hT : TOk P L) {d : Option Tmp} {op : Op} {ty : TypeId} {pos : String} {af : Array Edge} {g : Option (Nat × Bool)} {c c' : List A} {nk : NK} {sd : Prop} (ho : ops[tr.length]? = some ⟨d, op, ty, pos, af, g⟩) (hg : wantA ops g e = some true)
    (hv : nop L op (evE e) = some (c, nk, sd)) (hsd : sd) (hd : dOk C d = true) (hc : c = c')
    (hr : RG P C ops draw Q s0 (⟨fpOf ops ⟨d, op, ty, pos, af, g⟩ [], d, ⟨some (nk.val n), [(n, .one c')], 1⟩, n⟩ :: tr) ⟨putd d (some (nk.val n)) e, hput n (.one c') h, n + 1⟩) : RG P C ops draw Q s0 tr ⟨e, h, n⟩ := by
  subst hc
  have hcongr : ∀ ev', (∀ x ∈ op.operands, ev' x = evE e x) → nop L op ev' = nop L op (evE e) := by
    intro ev' h1
    cases op <;> try rfl
    case box t x => simp only [nop]; rw [h1 x (by simp [Op.operands])]
    case buildSlice t m parts =>
      have hp : ∀ (place : Nat → Option (Nat × Nat)) (l : List A), fillA place ev' parts.toList l = fillA place (evE e) parts.toList l := fun place l => fillA_congr _ l (fun x hx => h1 x (by simpa [Op.operands] using hx))
      simp only [nop, hp]
    case makeSlice t a b => simp only [nop]; rw [h1 a (by simp [Op.operands]), h1 b (by simp [Op.operands])]
  refine RG.step (s := ⟨e, h, n⟩) ⟨fpOf ops ⟨d, op, ty, pos, af, g⟩ [], d, ⟨some (nk.val n), [(n, .one c)], 1⟩, n⟩ rfl (wstep_of ho rfl hg ?_) hr
  intro s fr f a w ha hfr hrel next Q' hQ' hnext
  obtain ⟨_, h1, _⟩ := ha.parts
  obtain ⟨v, w1, arr, el, hw1, h2, h3, h4, h5⟩ := nop_run (P := P) (w := w) (ρ := a.eval) (o := ⟨d, op, ty, pos, af, g⟩) hT (fun x v hx => hrel.ev hx) (by dsimp only at h1 ⊢; rw [hcongr _ h1]; exact hv) hsd
  have hrel1 : Rel C s fr f a w1 := by rcases hw1 with rfl | rfl; exact hrel; exact hrel.drew
  have hsz : w1.heap.size = w.heap.size := by rcases hw1 with rfl | rfl <;> rfl
  have h4' : VL f (C.X s.h f) w1 c (arr.toList.take c.length) := by
    rcases hw1 with rfl | rfl
    · exact h4
    · exact h4.mono (Ext.refl f) (fun _ _ h => h) (Kp.drew (fun _ => False) w) (fun _ _ h => h.elim)
  have hn : fr n := hfr n ⟨Nat.le_refl _, by simp⟩
  obtain ⟨r1, r2⟩ := hrel1.newOne hn c arr el h3 h4'
  unfold Oper.wp
  rw [h2]
  refine hnext _ _ _ { r1.put hd (o := some (nk.val n)) (v := v) (fun y hy => ?_) with fr := fun k hk => r1.fr k (fr_one hk) }
  simp only [Option.some.injEq] at hy
  subst hy
  cases nk with
  | ptr => subst h5; simp only [NK.val, V]; exact ⟨w1.heap.size, by simp [newPl], by rw [hsz]⟩
  | sl st m =>
    obtain ⟨cap, rfl, g1, g2, g3⟩ := h5
    simp only [NK.val, V]
    refine .inr ⟨w1.heap.size, cap, by simp [newPl], by rw [hsz], g1, g2, arr, el, (0, 0), ?_, by omega⟩
    show (w1.heap.push _)[w1.heap.size]? = _
    simp
/-- A store. -/
theorem RG.store (hT : TOk P L) {d : Option Tmp} {t : TypeId} {x y : Operand} {ty : TypeId} {pos : String} {af : Array Edge} {g : Option (Nat × Bool)} {a0 v : A} {k : Nat} {p : List Nat} {c' c'' : List A} {rg : Reg} (ho : ops[tr.length]? = some ⟨d, .store t x y, ty, pos, af, g⟩) (hg : wantA ops g e = some true)
    (hx : evE e x = some a0) (hy : evE e y = some v) (hl : stA L t a0 v h = some (k, p, c')) (hd : d = none) (hc : c' = c'') (hrg : (h k).set p c'' = rg)
    (hr : RG P C ops draw Q s0 (⟨fpOf ops ⟨d, .store t x y, ty, pos, af, g⟩ [k], none, ⟨none, [(k, rg)], 0⟩, n⟩ :: tr) ⟨e, hput k rg h, n⟩) : RG P C ops draw Q s0 tr ⟨e, h, n⟩ := by
  subst hc hd hrg
  refine RG.step (s := ⟨e, h, n⟩) ⟨fpOf ops ⟨none, .store t x y, ty, pos, af, g⟩ [k], none, ⟨none, [(k, (h k).set p c')], 0⟩, n⟩ rfl (wstep_of ho rfl hg ?_) hr
  intro s fr f a w ha hfr hrel next Q' hQ' hnext
  obtain ⟨_, h1, h2⟩ := ha.parts
  have hx' : evE s.e x = some a0 := (h1 x (by simp [Op.operands])).trans hx
  have hy' : evE s.e y = some v := (h1 y (by simp [Op.operands])).trans hy
  have hk : s.h k = h k := h2 k (by simp)
  obtain ⟨w', h3, h4⟩ := stA_run hT hrel (hrel.ev hx') (hrel.ev hy') (stA_congr hl hk)
  unfold Oper.wp
  have h5 : (execOp a.eval ⟨none, .store t x y, ty, pos, af, g⟩).run P w = .ok .skip w' := by
    simp only [execOp, Sem.run_bind, h3, Result.andThen]; rfl
  rw [h5]
  rw [hk] at h4
  exact hnext _ _ f { h4 with fr := fun k hk => hrel.fr k hk.1 }
end
end
end Go.Abs
