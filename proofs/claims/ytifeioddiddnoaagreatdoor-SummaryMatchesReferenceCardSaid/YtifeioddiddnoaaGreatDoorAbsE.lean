/- The rules of regions, their premises shown by computing: short names. No conditions. -/
import Derived.Test.YtifeioddiddnoaaGreatDoorAbsD
import Derived.LoopN
import Derived.Lib.AppendZeros
import Derived.Laws.CopyRow
set_option linter.unusedVariables false
set_option linter.unusedSimpArgs false
namespace Go.Abs
open Go.RowKit
section
variable {P : Program} {L : List (Nat × TI)} {C : Ctx} {ops : Array Oper} {draw : Bool} {Q : AQ} {s0 : St} {tr : List TE} {e : Nat → Option A} {h : Nat → Reg} {n : Nat}
theorem RG.k {d : Option Tmp} {op : Op} {ty : TypeId} {pos : String} {af : Array Edge} {g : Option (Nat × Bool)} 
    (hr : RG P C ops draw Q s0 (⟨⟨gslot ops g, [], []⟩, d, ⟨some (.val undef), [], 0⟩, n⟩ :: tr) ⟨putd d (some (.val undef)) e, h, n⟩) (ho : ops[tr.length]? = some ⟨d, op, ty, pos, af, g⟩ := by exact rfl) (hg : wantA ops g e = some false := by exact rfl) (hd : dOk C d = true := by exact rfl) : RG P C ops draw Q s0 tr ⟨e, h, n⟩ := RG.skip ho hg hd hr
theorem RG.i (hT : TOk P L) {d : Option Tmp} {op : Op} {ty : TypeId} {pos : String} {af : Array Edge} {g : Option (Nat × Bool)} {r r' : Option A} {sd : Prop}
    (hr : RG P C ops draw Q s0 (⟨fpOf ops ⟨d, op, ty, pos, af, g⟩ [], d, ⟨r', [], 0⟩, n⟩ :: tr) ⟨putd d r' e, h, n⟩) (ho : ops[tr.length]? = some ⟨d, op, ty, pos, af, g⟩ := by exact rfl) (hg : wantA ops g e = some true := by exact rfl)
    (hv : vop L op (evE e) = some (r, sd) := by exact rfl) (hsd : sd := by exact trivial) (hd : dOk C d = true := by exact rfl) (hr' : r = r' := by exact iv_i64 (by omega)) : RG P C ops draw Q s0 tr ⟨e, h, n⟩ := RG.val hT ho hg hv hsd hd hr' hr
theorem RG.v (hT : TOk P L) {d : Option Tmp} {op : Op} {ty : TypeId} {pos : String} {af : Array Edge} {g : Option (Nat × Bool)} {r r' : Option A} {sd : Prop}
    (hr : RG P C ops draw Q s0 (⟨fpOf ops ⟨d, op, ty, pos, af, g⟩ [], d, ⟨r', [], 0⟩, n⟩ :: tr) ⟨putd d r' e, h, n⟩) (ho : ops[tr.length]? = some ⟨d, op, ty, pos, af, g⟩ := by exact rfl) (hg : wantA ops g e = some true := by exact rfl)
    (hv : vop L op (evE e) = some (r, sd) := by exact rfl) (hsd : sd := by exact trivial) (hd : dOk C d = true := by exact rfl) (hr' : r = r' := by exact rfl) : RG P C ops draw Q s0 tr ⟨e, h, n⟩ := RG.val hT ho hg hv hsd hd hr' hr
theorem RG.l (hT : TOk P L) {d : Option Tmp} {t : TypeId} {x : Operand} {ty : TypeId} {pos : String} {af : Array Edge} {g : Option (Nat × Bool)} {a0 v v' : A} {ks : List Nat}
    (hr : RG P C ops draw Q s0 (⟨fpOf ops ⟨d, .load t x, ty, pos, af, g⟩ ks, d, ⟨some v', [], 0⟩, n⟩ :: tr) ⟨putd d (some v') e, h, n⟩) (ho : ops[tr.length]? = some ⟨d, .load t x, ty, pos, af, g⟩ := by exact rfl) (hg : wantA ops g e = some true := by exact rfl)
    (hx : evE e x = some a0 := by exact rfl) (hl : ldA L t a0 h = some (v, ks) := by exact rfl) (hd : dOk C d = true := by exact rfl) (hv' : v = v' := by exact rfl) : RG P C ops draw Q s0 tr ⟨e, h, n⟩ := RG.load hT ho hg hx hl hd hv' hr
theorem RG.w (hT : TOk P L) {d : Option Tmp} {op : Op} {ty : TypeId} {pos : String} {af : Array Edge} {g : Option (Nat × Bool)} {c c' : List A} {nk : NK} {sd : Prop}
    (hr : RG P C ops draw Q s0 (⟨fpOf ops ⟨d, op, ty, pos, af, g⟩ [], d, ⟨some (nk.val n), [(n, .one c')], 1⟩, n⟩ :: tr) ⟨putd d (some (nk.val n)) e, hput n (.one c') h, n + 1⟩) (ho : ops[tr.length]? = some ⟨d, op, ty, pos, af, g⟩ := by exact rfl) (hg : wantA ops g e = some true := by exact rfl)
    (hv : nop L op (evE e) = some (c, nk, sd) := by exact rfl) (hsd : sd := by exact trivial) (hd : dOk C d = true := by exact rfl) (hc : c = c' := by exact rfl) : RG P C ops draw Q s0 tr ⟨e, h, n⟩ := RG.new hT ho hg hv hsd hd hc hr
theorem RG.s (hT : TOk P L) {d : Option Tmp} {t : TypeId} {x y : Operand} {ty : TypeId} {pos : String} {af : Array Edge} {g : Option (Nat × Bool)} {a0 v : A} {k : Nat} {p : List Nat} {c' c'' : List A} {rg : Reg}
    (hr : RG P C ops draw Q s0 (⟨fpOf ops ⟨d, .store t x y, ty, pos, af, g⟩ [k], none, ⟨none, [(k, rg)], 0⟩, n⟩ :: tr) ⟨e, hput k rg h, n⟩) (ho : ops[tr.length]? = some ⟨d, .store t x y, ty, pos, af, g⟩ := by exact rfl) (hg : wantA ops g e = some true := by exact rfl)
    (hx : evE e x = some a0 := by exact rfl) (hy : evE e y = some v := by exact rfl) (hl : stA L t a0 v h = some (k, p, c') := by exact rfl) (hd : d = none := by exact rfl) (hc : c' = c'' := by exact rfl) (hrg : (h k).set p c'' = rg := by exact rfl) : RG P C ops draw Q s0 tr ⟨e, h, n⟩ := RG.store hT ho hg hx hy hl hd hc hrg hr
theorem RG.d {s : St} (hq : Q.q .normal s) (hl : Nat.beq tr.length ops.size = true := by exact rfl) : RG P C ops false Q s0 tr s := RG.done hl hq
theorem RG.dd {s : St} (hq : Q.q .normal s) (hm : P.follows .mixedOrders = true := by kernel_rfl) (hl : Nat.beq tr.length ops.size = true := by exact rfl) (hc : cfree ops tr.reverse = true := by kernel_rfl) : RG P C ops true Q s0 tr s := RG.doneD hm hl hc hq
/-! ### All premises by default -/
section
variable {s : St} {c c2 : Code}
theorem K1 {d : Option Tmp} {op : Op} {ty : TypeId} {pos : String} {af : Array Edge} {g : Option (Nat × Bool)} 
    (hr : RG P C ops draw Q s0 (⟨⟨gslot ops g, [], []⟩, d, ⟨some (.val undef), [], 0⟩, n⟩ :: tr) ⟨putd d (some (.val undef)) e, h, n⟩) (ho : ops[tr.length]? = some ⟨d, op, ty, pos, af, g⟩ := by exact rfl) (hg : wantA ops g e = some false := by exact rfl) (hd : dOk C d = true := by exact rfl) : RG P C ops draw Q s0 tr ⟨e, h, n⟩ := RG.skip ho hg hd hr
theorem K2 {d : Option Tmp} {op : Op} {ty : TypeId} {pos : String} {af : Array Edge} {g : Option (Nat × Bool)} {r r' : Option A} {sd : Prop}
    (hr : RG P C ops draw Q s0 (⟨fpOf ops ⟨d, op, ty, pos, af, g⟩ [], d, ⟨r', [], 0⟩, n⟩ :: tr) ⟨putd d r' e, h, n⟩) (hT : TOk P L := by exact tok) (ho : ops[tr.length]? = some ⟨d, op, ty, pos, af, g⟩ := by exact rfl) (hg : wantA ops g e = some true := by exact rfl)
    (hv : vop L op (evE e) = some (r, sd) := by exact rfl) (hsd : sd := by exact trivial) (hd : dOk C d = true := by exact rfl) (hr' : r = r' := by exact iv_i64 (by omega)) : RG P C ops draw Q s0 tr ⟨e, h, n⟩ := RG.val hT ho hg hv hsd hd hr' hr
theorem K3 {d : Option Tmp} {op : Op} {ty : TypeId} {pos : String} {af : Array Edge} {g : Option (Nat × Bool)} {r r' : Option A} {sd : Prop}
    (hr : RG P C ops draw Q s0 (⟨fpOf ops ⟨d, op, ty, pos, af, g⟩ [], d, ⟨r', [], 0⟩, n⟩ :: tr) ⟨putd d r' e, h, n⟩) (hT : TOk P L := by exact tok) (ho : ops[tr.length]? = some ⟨d, op, ty, pos, af, g⟩ := by exact rfl) (hg : wantA ops g e = some true := by exact rfl)
    (hv : vop L op (evE e) = some (r, sd) := by exact rfl) (hsd : sd := by exact trivial) (hd : dOk C d = true := by exact rfl) (hr' : r = r' := by exact iv_u64 (by omega)) : RG P C ops draw Q s0 tr ⟨e, h, n⟩ := RG.val hT ho hg hv hsd hd hr' hr
theorem K4 {d : Option Tmp} {op : Op} {ty : TypeId} {pos : String} {af : Array Edge} {g : Option (Nat × Bool)} {r r' : Option A} {sd : Prop}
    (hr : RG P C ops draw Q s0 (⟨fpOf ops ⟨d, op, ty, pos, af, g⟩ [], d, ⟨r', [], 0⟩, n⟩ :: tr) ⟨putd d r' e, h, n⟩) (hT : TOk P L := by exact tok) (ho : ops[tr.length]? = some ⟨d, op, ty, pos, af, g⟩ := by exact rfl) (hg : wantA ops g e = some true := by exact rfl)
    (hv : vop L op (evE e) = some (r, sd) := by exact rfl) (hsd : sd := by exact trivial) (hd : dOk C d = true := by exact rfl) (hr' : r = r' := by exact rfl) : RG P C ops draw Q s0 tr ⟨e, h, n⟩ := RG.val hT ho hg hv hsd hd hr' hr
theorem K5 {d : Option Tmp} {op : Op} {ty : TypeId} {pos : String} {af : Array Edge} {g : Option (Nat × Bool)} {r r' : Option A} {sd : Prop}
    (hr : RG P C ops draw Q s0 (⟨fpOf ops ⟨d, op, ty, pos, af, g⟩ [], d, ⟨r', [], 0⟩, n⟩ :: tr) ⟨putd d r' e, h, n⟩) (hT : TOk P L := by exact tok) (ho : ops[tr.length]? = some ⟨d, op, ty, pos, af, g⟩ := by exact rfl) (hg : wantA ops g e = some true := by exact rfl)
    (hv : vop L op (evE e) = some (r, sd) := by exact rfl) (hsd : sd := by omega) (hd : dOk C d = true := by exact rfl) (hr' : r = r' := by exact rfl) : RG P C ops draw Q s0 tr ⟨e, h, n⟩ := RG.val hT ho hg hv hsd hd hr' hr
theorem K6 {d : Option Tmp} {t : TypeId} {x i : Operand} {ty : TypeId} {pos : String} {af : Array Edge} {g : Option (Nat × Bool)} {n1 : Nat} {l l' : List A} {kk : IntKind} {j : Int} {el a1 b1 st b2 : Nat} {c1 c2 : Bool} {z1 z2 : List A} {k2 : TK} {a0 : A}
    (hr : RG P C ops draw Q s0 (⟨fpOf ops ⟨d, .indexAddr t x i, ty, pos, af, g⟩ [], d, ⟨some (.rp (a0 :: l')), [], 0⟩, n⟩ :: tr) ⟨putd d (some (.rp (a0 :: l'))) e, h, n⟩) (hT : TOk P L := by exact tok)
    (ho : ops[tr.length]? = some ⟨d, .indexAddr t x i, ty, pos, af, g⟩ := by exact rfl) (hg : wantA ops g e = some true := by exact rfl) (hx : evE e x = some (.ro n1 l) := by exact rfl) (hi : evE e i = some (.val (.int kk j)) := by exact rfl) (ht : look L t = some ⟨.slice el, a1, b1, c1, z1⟩ := by exact rfl) (hte : look L el = some ⟨k2, st, b2, c2, z2⟩ := by exact rfl)
    (hl : dropO (iNat j * st) l = some (a0 :: l') := by exact Go.Abs.ints_at (by omega)) (hb : 0 ≤ j ∧ j < n1 := by exact ⟨by omega, by omega⟩) (hd : dOk C d = true := by exact rfl) : RG P C ops draw Q s0 tr ⟨e, h, n⟩ := RG.idx hT ho hg hx hi ht hte hl hb hd hr
theorem K7 {d : Option Tmp} {t : TypeId} {x i : Operand} {ty : TypeId} {pos : String} {af : Array Edge} {g : Option (Nat × Bool)} {n1 : Nat} {l l' : List A} {kk : IntKind} {j : Int} {el a1 b1 st b2 : Nat} {c1 c2 : Bool} {z1 z2 : List A} {k2 : TK} {a0 : A}
    (hr : RG P C ops draw Q s0 (⟨fpOf ops ⟨d, .indexAddr t x i, ty, pos, af, g⟩ [], d, ⟨some (.rp (a0 :: l')), [], 0⟩, n⟩ :: tr) ⟨putd d (some (.rp (a0 :: l'))) e, h, n⟩) (hT : TOk P L := by exact tok)
    (ho : ops[tr.length]? = some ⟨d, .indexAddr t x i, ty, pos, af, g⟩ := by exact rfl) (hg : wantA ops g e = some true := by exact rfl) (hx : evE e x = some (.ro n1 l) := by exact rfl) (hi : evE e i = some (.val (.int kk j)) := by exact rfl) (ht : look L t = some ⟨.slice el, a1, b1, c1, z1⟩ := by exact rfl) (hte : look L el = some ⟨k2, st, b2, c2, z2⟩ := by exact rfl)
    (hl : dropO (iNat j * st) l = some (a0 :: l') := by exact Go.Abs.rows_at (by omega)) (hb : 0 ≤ j ∧ j < n1 := by exact ⟨by omega, by omega⟩) (hd : dOk C d = true := by exact rfl) : RG P C ops draw Q s0 tr ⟨e, h, n⟩ := RG.idx hT ho hg hx hi ht hte hl hb hd hr
theorem L1 {d : Option Tmp} {t : TypeId} {x : Operand} {ty : TypeId} {pos : String} {af : Array Edge} {g : Option (Nat × Bool)} {a0 v v' : A} {ks : List Nat}
    (hr : RG P C ops draw Q s0 (⟨fpOf ops ⟨d, .load t x, ty, pos, af, g⟩ ks, d, ⟨some v', [], 0⟩, n⟩ :: tr) ⟨putd d (some v') e, h, n⟩) (hT : TOk P L := by exact tok) (ho : ops[tr.length]? = some ⟨d, .load t x, ty, pos, af, g⟩ := by exact rfl) (hg : wantA ops g e = some true := by exact rfl)
    (hx : evE e x = some a0 := by exact rfl) (hl : ldA L t a0 h = some (v, ks) := by exact rfl) (hd : dOk C d = true := by exact rfl) (hv' : v = v' := by exact rfl) : RG P C ops draw Q s0 tr ⟨e, h, n⟩ := RG.load hT ho hg hx hl hd hv' hr
theorem L2 {d : Option Tmp} {op : Op} {ty : TypeId} {pos : String} {af : Array Edge} {g : Option (Nat × Bool)} {c c' : List A} {nk : NK} {sd : Prop}
    (hr : RG P C ops draw Q s0 (⟨fpOf ops ⟨d, op, ty, pos, af, g⟩ [], d, ⟨some (nk.val n), [(n, .one c')], 1⟩, n⟩ :: tr) ⟨putd d (some (nk.val n)) e, hput n (.one c') h, n + 1⟩) (hT : TOk P L := by exact tok) (ho : ops[tr.length]? = some ⟨d, op, ty, pos, af, g⟩ := by exact rfl) (hg : wantA ops g e = some true := by exact rfl)
    (hv : nop L op (evE e) = some (c, nk, sd) := by exact rfl) (hsd : sd := by exact trivial) (hd : dOk C d = true := by exact rfl) (hc : c = c' := by exact rfl) : RG P C ops draw Q s0 tr ⟨e, h, n⟩ := RG.new hT ho hg hv hsd hd hc hr
theorem L3 {d : Option Tmp} {t : TypeId} {x y : Operand} {ty : TypeId} {pos : String} {af : Array Edge} {g : Option (Nat × Bool)} {a0 v : A} {k : Nat} {p : List Nat} {c' c'' : List A} {rg : Reg}
    (hr : RG P C ops draw Q s0 (⟨fpOf ops ⟨d, .store t x y, ty, pos, af, g⟩ [k], none, ⟨none, [(k, rg)], 0⟩, n⟩ :: tr) ⟨e, hput k rg h, n⟩) (hT : TOk P L := by exact tok) (ho : ops[tr.length]? = some ⟨d, .store t x y, ty, pos, af, g⟩ := by exact rfl) (hg : wantA ops g e = some true := by exact rfl)
    (hx : evE e x = some a0 := by exact rfl) (hy : evE e y = some v := by exact rfl) (hl : stA L t a0 v h = some (k, p, c') := by exact rfl) (hd : d = none := by exact rfl) (hc : c' = c'' := by exact rfl) (hrg : (h k).set p c'' = rg := by exact rfl) : RG P C ops draw Q s0 tr ⟨e, h, n⟩ := RG.store hT ho hg hx hy hl hd hc hrg hr
theorem S1 (h : AW P C c (Q.then (fun s => AW P C c2 Q s)) s) : AW P C (.seq c c2) Q s := AW.seq h
theorem S2 {id : Nat} (hr : RG P C ops draw Q s [] s) : AW P C (.region id ops draw) Q s := AW.region hr
theorem S3 (h : Q.q .normal s) : AW P C .skip Q s := AW.skip h
theorem S4 {id : Nat} (h : AW P C c (Q.inBlock id) s) : AW P C (.block id c) Q s := AW.block h
theorem S5 {id : Nat} (h : Q.q (.exit id) s) : AW P C (.exit id) Q s := AW.exit h
theorem S6 (h : Q.q .ret s) : AW P C .ret Q s := AW.ret h
theorem S7 {c : Operand} {x y : Code} (ht : AW P C x Q s) (hc : evE s.e c = some (.val (.bool true)) := by exact rfl) : AW P C (.cond c x y) Q s := AW.condT hc ht
theorem S8 {c : Operand} {x y : Code} (hf : AW P C y Q s) (hc : evE s.e c = some (.val (.bool false)) := by exact rfl) : AW P C (.cond c x y) Q s := AW.condF hc hf
end
end
end Go.Abs
namespace Go.Abs
open Go.RowKit
theorem Sub.nilH {C : Ctx} {s : St} (k i st : Nat) {c c' : List A} (hk : s.h k = .one c) (hi : c[i]? = some (.val (.slice none 0 0))) (hkn : Nat.beq k s.n = false) (hc : c.set i (.sl s.n [] st 0 0) = c') :
    Sub C s ⟨s.e, hput k (.one c') (hput s.n (.one []) s.h), s.n + 1⟩ := by
  subst hc
  intro f a w hr
  obtain ⟨r1, r2⟩ := hr.newNil (n0 := s.n) (Nat.le_refl _)
  have hne : k ≠ s.n := fun e => by subst e; simp at hkn
  have hk1 : (hput s.n (.one []) s.h) k = .one c := by rw [hput_ne _ _ hne]; exact hk
  have live : ∀ b, Live (hput k (.one (c.set i (.sl s.n [] st 0 0))) (hput s.n (.one []) s.h)) (newPl f s.n none) b → Live (hput s.n (.one []) s.h) (newPl f s.n none) b := by
    rintro b ⟨k', p, h1, h2⟩
    refine ⟨k', p, ?_, h2⟩
    by_cases e : k' = k
    · subst e
      rw [hput_same] at h1
      rw [hk1]
      cases p with
      | nil => simp [Reg.get]
      | cons _ _ => simp [Reg.get] at h1
    · rw [hput_ne _ _ e] at h1; exact h1
  have hX : ∀ b, b < w.heap.size → C.X (hput k (.one (c.set i (.sl s.n [] st 0 0))) (hput s.n (.one []) s.h)) (newPl f s.n none) b → C.X (hput s.n (.one []) s.h) (newPl f s.n none) b := by
    rintro b _ (hb | hb)
    · exact .inl (live b hb)
    · exact .inr hb
  have m1 : ∀ {x : List A} {vs : List Value}, VL (newPl f s.n none) (C.X (hput s.n (.one []) s.h) (newPl f s.n none)) w x vs → VL (newPl f s.n none) (C.X (hput k (.one (c.set i (.sl s.n [] st 0 0))) (hput s.n (.one []) s.h)) (newPl f s.n none)) w x vs := fun h => h.mono (Ext.refl _) hX (Kp.refl (fun _ => False) w) (fun _ _ h => h.elim)
  refine ⟨newPl f s.n none, { N := r1.N, defers := r1.defers, e := fun j v hv => (r1.e j v hv).mono (Ext.refl _) hX (Kp.refl (fun _ => False) w) (fun _ _ h => h.elim), h := fun k' p c1 hc => ?_, inj := fun k1 p1 k2 p2 b h1 h2 h3 h4 => ?_, kp := r1.kp, new := fun b hb => r1.new b (live b hb), y := r1.y, fr := fun k hk => r1.fr k ⟨Nat.le_of_succ_le hk, by have : s.n + 1 ≤ k := hk; omega⟩, ext := r1.ext, dom := r1.dom }⟩
  · dsimp only at hc
    by_cases e : k' = k
    · subst e
      rw [hput_same] at hc
      cases p with
      | cons _ _ => simp [Reg.get] at hc
      | nil =>
        simp only [Reg.get, Option.some.injEq] at hc
        subst hc
        rcases r1.h k' [] c (by show (hput s.n (Reg.one []) s.h k').get [] = some c; rw [hk1]; rfl) with ⟨h1, h2⟩ | ⟨b, arr, el, h1, h2, h3, h4⟩
        · subst h1; simp at hi
        · refine .inr ⟨b, arr, el, h1, h2, by rw [List.length_set]; exact h3, ?_⟩
          rw [List.length_set]
          refine m1 ?_
          obtain ⟨v, g1, g2⟩ := h4.get hi
          have hv := g2.val
          subst hv
          have hset := h4.set i (x := .sl s.n [] st 0 0) (v := .slice none 0 0) (by simp only [V]; exact .inl ⟨by simp [newPl], by simp⟩)
          have : (arr.toList.take c.length).set i (.slice none 0 0) = arr.toList.take c.length := by
            apply List.ext_getElem?
            intro j
            by_cases hj : i = j
            · subst hj
              rw [List.getElem?_set_self (List.getElem?_eq_some_iff.1 g1).1, g1]
            · rw [List.getElem?_set_ne hj]
          rw [this] at hset
          exact hset
    · rw [hput_ne _ _ e] at hc
      rcases r1.h k' p c1 hc with h1 | ⟨b, arr, el, h1, h2, h3, h4⟩
      · exact .inl h1
      · exact .inr ⟨b, arr, el, h1, h2, h3, m1 h4⟩
  · have back : ∀ k' p, (hput k (.one (c.set i (.sl s.n [] st 0 0))) (hput s.n (.one []) s.h) k').get p ≠ none → (hput s.n (.one []) s.h k').get p ≠ none := by
      intro k' p h
      by_cases e : k' = k
      · subst e
        rw [hput_same] at h
        rw [hk1]
        cases p with
        | nil => simp [Reg.get]
        | cons _ _ => simp [Reg.get] at h
      · rw [hput_ne _ _ e] at h; exact h
    exact r1.inj k1 p1 k2 p2 b (back _ _ h1) (back _ _ h2) h3 h4
end Go.Abs
namespace Go.Abs
open Go.RowKit
section
variable {P : Program} {L : List (Nat × TI)} {C : Ctx} {ops : Array Oper} {draw : Bool} {Q : AQ} {s0 : St} {tr : List TE} {e : Nat → Option A} {h : Nat → Reg} {n : Nat}
theorem L4 {d : Option Tmp} {t : TypeId} {x : Operand} {ty : TypeId} {pos : String} {af : Array Edge} {g : Option (Nat × Bool)} {a0 v v' : A} {k : Nat}
    (hr : RG P C ops draw Q s0 (⟨⟨gslot ops g ++ oslots (.load t x), [], [(k, fun reg => ldA L t a0 (fun _ => reg) = some (v', [k]))]⟩, d, ⟨some v', [], 0⟩, n⟩ :: tr) ⟨putd d (some v') e, h, n⟩) (hT : TOk P L := by exact tok) (ho : ops[tr.length]? = some ⟨d, .load t x, ty, pos, af, g⟩ := by exact rfl) (hg : wantA ops g e = some true := by exact rfl)
    (hx : evE e x = some a0 := by exact rfl) (hl : ldA L t a0 h = some (v, [k]) := by exact rfl) (hd : dOk C d = true := by exact rfl) (hv' : v = v' := by exact rfl) : RG P C ops draw Q s0 tr ⟨e, h, n⟩ := RG.loadS hT ho hg hx hl hd hv' hr
theorem SoftT.skip {ops : Array Oper} {j : Nat} {x : Nat × (Reg → Prop)} : ∀ {i : Nat} {l : List TE}, l.all (fun t => t.E.hs.all (fun kr => !Nat.beq kr.1 x.1)) = true → SoftT ops j x i l
  | i, [], _ => .nil i
  | i, t :: l, h => by
    rw [List.all_cons, Bool.and_eq_true] at h
    refine .cons ?_ (SoftT.skip h.2)
    have h1 := h.1
    generalize t.E.hs = q at h1
    induction q with
    | nil => exact .nil
    | cons y q ih =>
      rw [List.all_cons, Bool.and_eq_true] at h1
      exact .ne (by simpa using h1.1) (ih h1.2)
theorem RG.dS {s : St} (hq : Q.q .normal s) (hl : Nat.beq tr.length ops.size = true := by exact rfl) (hm : P.follows .mixedOrders = true := by kernel_rfl) (hc : cfreeS ops tr.reverse = true := by kernel_rfl)
    (hs : SoftU ops tr.reverse s0 0 tr.reverse := by repeat (first | exact SoftU.nil _ | refine SoftU.cons ?_ ?_ | exact SoftX.nil | refine SoftX.cons (by exact rfl) ?_ ?_ | exact SoftT.nil _ | exact SoftT.skip (by exact rfl) | refine SoftT.cons (by repeat (first | exact SoftE.nil | refine SoftE.ne rfl ?_ | refine SoftE.eq (by exact rfl) ?_)) ?_ | refine SoftT.late (by kernel_rfl) ?_)) : RG P C ops true Q s0 tr s := RG.doneS hm hl hc hs hq
end
end Go.Abs
namespace Go.Abs
open Go.RowKit
/-- What is left, where some objects may be gone. -/
inductive PostOk (σ : Nat → Nat) (h : Nat → Reg) (q : Nat) : Nat → List Reg → Prop
  | nil (i : Nat) : PostOk σ h q i []
  | cons {i : Nat} {r r' : Reg} {rs : List Reg} : h (σ i) = r' → Same σ r r' → r.lt q → PostOk σ h q (i + 1) rs → PostOk σ h q i (r :: rs)
  | gone {i : Nat} {rs : List Reg} : PostOk σ h q (i + 1) rs → PostOk σ h q i (.gone :: rs)
theorem PostOk.get {σ : Nat → Nat} {h : Nat → Reg} {q : Nat} : ∀ {i : Nat} {rs : List Reg}, PostOk σ h q i rs → ∀ j r, rs[j]? = some r → r ≠ .gone → Same σ r (h (σ (i + j))) ∧ r.lt q
  | _, _, .nil i, j, r, hj, _ => by simp at hj
  | _, _, .cons (i := i) h1 h2 h3 h4, j, r, hj, hn => by
    cases j with
    | zero => simp at hj; subst hj; rw [Nat.add_zero, h1]; exact ⟨h2, h3⟩
    | succ j => simp at hj; have := h4.get j r hj hn; rw [show i + (j + 1) = i + 1 + j from by omega]; exact this
  | _, _, .gone (i := i) h4, j, r, hj, hn => by
    cases j with
    | zero => simp at hj; subst hj; exact absurd rfl hn
    | succ j => simp at hj; have := h4.get j r hj hn; rw [show i + (j + 1) = i + 1 + j from by omega]; exact this
section
variable {P : Program} {L : List (Nat × TI)}
structure RetOkG (L : List (Nat × TI)) (rs : List ResultVar) (σ : Nat → Nat) (r : A) (post : List Reg) (s : St) : Prop where
  res : ∃ l, resA L s.e s.h rs = some l ∧ resV l = r.ren σ
  lt : r.lt post.length = true
  post : PostOk σ s.h post.length 0 post
def retQG (L : List (Nat × TI)) (rs : List ResultVar) (σ : Nat → Nat) (r : A) (post : List Reg) (Pp : List PanicEntry → Prop) : AQ :=
  ⟨fun e s => match e with
    | .normal => RetOkG L rs σ r post s
    | .ret => RetOkG L rs σ r post s
    | _ => False, Pp⟩
theorem FC.of_AWG {I : GI} (hT : TOk P L) {g : FuncId} {fn : Func} {c : Code} {N : Nat} (hfn : P.funcs[g]? = some fn) (hname : (fn.name == "runtime.NumGoroutine") = false) (hb : fn.body = some c) (hN : fn.ntmps = N)
    {args : List A} {pre post : List Reg} {r : A} {Pp : List PanicEntry → Prop} (sg : List Nat) (hla : Nat.ble args.length N = true) (hsg : Nat.beq (pre.length + sg.length) post.length = true) (hok : sgOk pre.length sg = true)
    (aw : ∀ w0 X0 Y f0 hI hX, AW P ⟨w0, X0, Y, N, f0, pre.length, I, hI, hX, [], fun _ => none⟩ c (retQG L fn.results.toList (bodySig pre.length sg) r post Pp) ⟨argE args, regs pre, pre.length⟩) : FC P I g args pre r post Pp := by
  have hsg := Nat.eq_of_beq_eq_true hsg
  have hla := Nat.le_of_ble_eq_true hla
  let σ := bodySig pre.length sg
  have σlt : ∀ k, k < pre.length → σ k = k := by
    intro k hk
    show (bif Nat.blt k pre.length then k else _) = k
    rw [show Nat.blt k pre.length = true from Nat.ble_eq_true_of_le hk]; rfl
  have σge : ∀ k, pre.length ≤ k → σ k = sg.getD (k - pre.length) 0 := by
    intro k hk
    show (bif Nat.blt k pre.length then k else _) = _
    have : Nat.blt k pre.length = false := by
      cases hb : Nat.blt k pre.length with
      | false => rfl
      | true => have : k < pre.length := Nat.le_of_ble_eq_true hb; omega
    rw [this]; rfl
  have σinj : ∀ i j, i < post.length → j < post.length → σ i = σ j → i = j := by
    intro i j hi hj e
    by_cases h1 : i < pre.length <;> by_cases h2 : j < pre.length
    · rw [σlt i h1, σlt j h2] at e; exact e
    · rw [σlt i h1, σge j (by omega)] at e
      have := sgOk_get hok (j - pre.length) (by omega); omega
    · rw [σge i (by omega), σlt j h2] at e
      have := sgOk_get hok (i - pre.length) (by omega); omega
    · rw [σge i (by omega), σge j (by omega)] at e
      have := sgOk_inj hok _ _ (by omega) (by omega) e; omega
  refine ⟨fun as w => ?_, by omega, ?_⟩
  · have hname' : ¬ fn.name = "runtime.NumGoroutine" := by simpa using hname
    simp [callFunc, hfn, hname', hb]
  · intro f0 Y w vs hgi hlow hfr hY hHR hInj hargs
    have hvl := hargs.length
    refine calls_of_wp hfn hb ?_
    let C : Ctx := ⟨w, Live (regs pre) f0, Y, N, f0, pre.length, I, hgi, hlow, [], fun _ => none⟩
    have tget : ∀ i v, argE args i = some v → V f0 (XOf (regs pre) f0 Y) w v ((vs.toArray ++ Array.replicate (fn.ntmps - vs.toArray.size) undef).getD i undef) := by
      intro i v hi
      rw [show argE args i = args[i]? from getO_eq args i] at hi
      obtain ⟨u, h1, h2⟩ := hargs.get hi
      have hlt := (List.getElem?_eq_some_iff.1 h1).1
      rw [Array.getD_eq_getD_getElem?, Array.getElem?_append_left (by simpa using hlt)]
      simpa [h1] using h2
    have hrel : Rel C ⟨argE args, regs pre, pre.length⟩ (From pre.length) f0 { tmps := vs.toArray ++ Array.replicate (fn.ntmps - vs.toArray.size) undef, defers := [] } w :=
      { N := by simp only [Array.size_append, List.size_toArray, Array.size_replicate, hN]; show vs.length + (N - vs.length) = N; omega
        defers := ⟨rfl, fun _ _ h => by cases h⟩
        e := tget
        h := hHR
        inj := hInj
        kp := Kp.refl _ w
        new := fun b hb => .inr hb
        y := hY
        fr := fun k hk p => hfr k hk p
        ext := Ext.refl f0
        dom := hfr }
    have fin : ∀ (s : St) (f : Pl) (a : Act) (w' : World), RetOkG L fn.results.toList σ r post s → Rel C s (From s.n) f a w' → a.defers = [] ∧ ∃ v, (results fn a.tmps).run P w' = .ok v w' ∧ FCPost f0 pre Y w r post Pp (.returned v) w' := by
      rintro s f a w' ⟨⟨l, hl, hlr⟩, hlt, hpost⟩ hr
      obtain ⟨v, h1, h2⟩ := results_run hT hr hl
      refine ⟨hr.defers.1, v, h1, ?_⟩
      let f1 : Pl := fun k p => if k < post.length then f (σ k) p else none
      have hf1 : ∀ k, k < post.length → f1 k = f (σ k) := by
        intro k hk
        funext p
        show (if k < post.length then f (σ k) p else none) = _
        rw [if_pos hk]
      have there : ∀ k p c, (regs post k).get p = some c → k < post.length ∧ (s.h (σ k)).get p = some (renL σ c) ∧ ltL post.length c = true := by
        intro k p c hk
        obtain ⟨r0, g1, g2, g3⟩ := regs_get hk
        obtain ⟨g4, g5⟩ := hpost.get k r0 g1 (fun e => by rw [e] at g2; cases g2)
        rw [Nat.zero_add] at g4
        exact ⟨g3, by rw [g4 p, g2]; rfl, g5 p c g2⟩
      have liveB : ∀ b, Live (regs post) f1 b → Live s.h f b := by
        rintro b ⟨k, p, g1, g2⟩
        obtain ⟨c, hc⟩ := Option.ne_none_iff_exists'.1 g1
        obtain ⟨g3, g4, _⟩ := there k p c hc
        rw [hf1 k g3] at g2
        exact ⟨_, p, by rw [g4]; simp, g2⟩
      have hX : ∀ b, b < w'.heap.size → XOf (regs post) f1 Y b → C.X s.h f b := by
        rintro b _ (hb | hb)
        · exact .inl (liveB b hb)
        · exact .inr hb
      refine ⟨f1, ?_, ?_, ?_, ?_, ?_, hr.kp, fun b hb => hr.new b (liveB b hb)⟩
      · intro k p b hb
        have hk : k < pre.length := by
          rcases Nat.lt_or_ge k pre.length with h | h
          · exact h
          · rw [hfr k h p] at hb; cases hb
        rw [hf1 k (by omega), σlt k hk]
        exact hr.ext k p b hb
      · intro k hk p
        show (if k < post.length then f (σ k) p else none) = none
        rw [if_neg (by omega)]
      · rw [hlr] at h2
        exact (V.unren r f f1 hf1 hlt v h2).mono (Ext.refl _) hX (Kp.refl (fun _ => False) w') (fun _ _ h => h.elim)
      · intro k p c hk
        obtain ⟨g3, g4, g5⟩ := there k p c hk
        rcases hr.h _ p _ g4 with ⟨g6, g7⟩ | ⟨b, arr, el, g6, g7, g8, g9⟩
        · refine .inl ⟨?_, by rw [hf1 k g3]; exact g7⟩
          have := congrArg List.length g6
          rw [renL_length] at this
          simpa using this
        · refine .inr ⟨b, arr, el, by rw [hf1 k g3]; exact g6, g7, by rw [renL_length] at g8; exact g8, ?_⟩
          rw [renL_length] at g9
          exact (VL.unren c f f1 hf1 g5 _ g9).mono (Ext.refl _) hX (Kp.refl (fun _ => False) w') (fun _ _ h => h.elim)
      · intro k p k' p' b g1 g2 g3 g4
        obtain ⟨c, hc⟩ := Option.ne_none_iff_exists'.1 g1
        obtain ⟨c', hc'⟩ := Option.ne_none_iff_exists'.1 g2
        obtain ⟨q1, q2, _⟩ := there k p c hc
        obtain ⟨q3, q4, _⟩ := there k' p' c' hc'
        rw [hf1 k q1] at g3
        rw [hf1 k' q3] at g4
        have := hr.inj _ p _ p' b (by rw [q2]; simp) (by rw [q4]; simp) g3 g4
        exact ⟨σinj k k' q1 q3 this.1, this.2⟩
    refine wp_mono (aw w (Live (regs pre) f0) Y f0 hgi hlow f0 _ w hrel) ?_
    intro en a w' hen
    cases en with
    | normal => obtain ⟨s, f, h1, h2⟩ := hen; exact fin s f a w' h1 h2
    | ret => obtain ⟨s, f, h1, h2⟩ := hen; exact fin s f a w' h1 h2
    | exit id => obtain ⟨s, f, h1, h2⟩ := hen; exact h1.elim
    | goto l => obtain ⟨s, f, h1, h2⟩ := hen; exact h1.elim
    | panic ch => exact ⟨hen.2.2.1, hen.1, hen.2.1⟩
    | outgrown => exact hen.elim
end
end Go.Abs
namespace Go.Abs
open Go.RowKit
/-- A package variable that holds a number. -/
def GI.int (P : Program) (name : String) (g : Nat) (hg : P.globalNamed name = some g) : GI where
  G := g + 1
  p := fun w => ∃ v, w.var? P name = some #[.int .i64 v]
  st := fun w w' h hp => by
    obtain ⟨v, hp⟩ := hp
    refine ⟨v, ?_⟩
    unfold World.var? at hp ⊢
    rw [hg] at hp ⊢
    simp only [Option.bind_some] at hp ⊢
    rw [h g (Nat.lt_succ_self g)]; exact hp
  low := fun w hp => by
    obtain ⟨v, hp⟩ := hp
    unfold World.var? at hp
    rw [hg] at hp
    simp only [Option.bind_some] at hp
    split at hp
    · rename_i cs' a b hh
      exact (Array.getElem?_eq_some_iff.1 hh).1
    · cases hp
end Go.Abs
namespace Go.Abs
open Go.RowKit
section
variable {P : Program} {C : Ctx} {Q : AQ} {s : St}
/-- At most n rounds, each walked. -/
def AWR (P : Program) (C : Ctx) (c : Code) (Q : AQ) : Nat → St → Prop
  | 0, _ => False
  | n + 1, s => AW P C c (Q.then (AWR P C c Q n)) s
theorem AWR.rounds {c : Code} : ∀ (n : Nat) (s : St), AWR P C c Q n s → ∀ f a w, Rel C s (From s.n) f a w → Code.rounds P c (QL C Q) n a w
  | 0, _, h, _, _, _, _ => h
  | n + 1, s, h, f, a, w, hr => by
    rw [rounds_succ]
    refine wp_mono (h f a w hr) ?_
    intro e a w hh
    cases e with
    | normal => obtain ⟨s, f, h1, h2⟩ := hh; exact AWR.rounds n s h1 f a w h2
    | exit id => exact hh
    | goto l => exact hh
    | ret => exact hh
    | panic ch => exact hh
    | outgrown => exact hh
theorem AW.rounds {c : Code} (n : Nat) (h : AWR P C c Q n s) : AW P C (.loop c) Q s := fun f a w hr => wp_loop_rounds n (AWR.rounds n s h f a w hr)
theorem AWR.step {c : Code} {n : Nat} (h : AW P C c (Q.then (AWR P C c Q n)) s) : AWR P C c Q (n + 1) s := h
end
end Go.Abs
namespace Go.Abs
open Go.RowKit
section
variable {P : Program} {L : List (Nat × TI)} {C : Ctx} {ops : Array Oper} {draw : Bool} {Q : AQ} {s0 : St} {tr : List TE} {e : Nat → Option A} {h : Nat → Reg} {n : Nat}
theorem RG.appendZ (hT : TOk P L) {d : Option Tmp} {x y : Operand} {t t2 : TypeId} {ty : TypeId} {pos : String} {af : Array Edge} {g : Option (Nat × Bool)} {el s1 b1 s2 b2 : Nat} {c1 c2 : Bool} {z1 z2 : List A} {k3 : TK} {st by_ : Nat} {g3 : Bool} {z3 : List A} {kn : IntKind} {kk : IntKind} {m : Nat}
    (ho : ops[tr.length]? = some ⟨d, .call ⟨.builtin .append, #[x, y], #[t, t2]⟩, ty, pos, af, g⟩) (hg : wantA ops g e = some true) (hx : evE e x = some (.val (.slice none 0 0))) (hy : evE e y = some (.val (.int kk (m : Int))))
    (ht : look L t = some ⟨.slice el, s1, b1, c1, z1⟩) (ht2 : look L t2 = some ⟨.int kn, s2, b2, c2, z2⟩) (hte : look L el = some ⟨k3, st, by_, g3, z3⟩) (hz : (Nat.beq z3.length st && !Nat.beq st 0) = true)
    (hm : 0 < m) (hsz : m * by_ ≤ 140737488355328) (hml : m ≤ 9223372036854775807) (hd : dOk C d = true)
    (hr : RG P C ops draw Q s0 (⟨fpOf ops ⟨d, .call ⟨.builtin .append, #[x, y], #[t, t2]⟩, ty, pos, af, g⟩ [], d, ⟨some (.sl n [] st 0 m), [(n, .one [])], 1⟩, n⟩ :: tr)
      ⟨putd d (some (.sl n [] st 0 m)) e, hput n (.one []) h, n + 1⟩) : RG P C ops draw Q s0 tr ⟨e, h, n⟩ := by
  simp only [Bool.and_eq_true, Bool.not_eq_true'] at hz
  have hz1 := Nat.eq_of_beq_eq_true hz.1
  have hz2 : st ≠ 0 := by rintro rfl; simp at hz
  refine RG.step (s := ⟨e, h, n⟩) ⟨fpOf ops ⟨d, .call ⟨.builtin .append, #[x, y], #[t, t2]⟩, ty, pos, af, g⟩ [], d, ⟨some (.sl n [] st 0 m), [(n, .one [])], 1⟩, n⟩ rfl (wstep_of ho rfl hg ?_) hr
  intro s fr f a w ha hfr hrel next Q' hQ' hnext
  obtain ⟨_, h1, h2⟩ := ha.parts
  have hx' : evE s.e x = some (.val (.slice none 0 0)) := (h1 x (by simp [Op.operands, Call.operands])).trans hx
  have hy' : evE s.e y = some (.val (.int kk (m : Int))) := (h1 y (by simp [Op.operands, Call.operands])).trans hy
  have hn : fr n := hfr n ⟨Nat.le_refl _, by simp⟩
  obtain ⟨d1, q1, q2, q3⟩ := look_kind hT ht
  obtain rfl := kindOf_slice q2
  obtain ⟨d2, q4, q5, q6⟩ := look_kind hT ht2
  obtain rfl := kindOf_int q5
  obtain ⟨i, u, z, i1, i2, i3, i4, i5, i6, i7, i8⟩ := TIof.spec (hT _ _ hte)
  dsimp only at i5 i6 i8
  have hcs : z.cells.size = st := by rw [← hz1, i8]; simp
  have hrun := Lib.run_append_nil_zeros (P := P) w t t2 ty el i z kk kn q1 q4 i1 i3 m hm (by omega) (by omega) (by rw [← i6]; omega)
  have v1 := (hrel.ev hx').val
  have v2 := (hrel.ev hy').val
  have hge := grownCap_ge w m 0 el
  have hle := grownCap_le_maxLen w m 0 el (by unfold maxLen; omega)
  generalize hG : grownCap w m 0 el = G at hrun hge hle
  have hsize : (Builtin.zeroCells z.cells m ++ Builtin.zeroCells z.cells (G - m)).size = G * st := by
    simp only [Array.size_append, zeroCells_size, hcs]
    rw [← Nat.add_mul]; congr 1; omega
  obtain ⟨r1, r2⟩ := hrel.drew.newOne hn [] (Builtin.zeroCells z.cells m ++ Builtin.zeroCells z.cells (G - m)) el (Nat.zero_le _) VL.nil
  unfold Oper.wp
  have hrun' : (execOp a.eval ⟨d, .call ⟨.builtin .append, #[x, y], #[t, t2]⟩, ty, pos, af, g⟩).run P w = .ok (.value (.slice (some ⟨w.heap.size, 0, none⟩) m G)) (w.drew.alloc (.cells (Builtin.zeroCells z.cells m ++ Builtin.zeroCells z.cells (G - m)) el)) := by
    simp only [execOp, resolve, Sem.run_bind, Sem.run_pure, Result.andThen, invoke, builtin, List.map_toArray, List.map_cons, List.map_nil]
    rw [v1, v2, hrun]
  rw [hrun']
  refine hnext _ _ _ { r1.put hd (o := some (.sl n [] st 0 m)) (v := .slice (some ⟨w.heap.size, 0, none⟩) m G) (fun y hy => by
    simp only [Option.some.injEq] at hy
    subst hy
    unfold V
    refine .inr ⟨w.heap.size, G, by simp [newPl], rfl, hge, hle, _, el, (0, 0), ?_, by rw [Nat.zero_add, hsize]; exact Nat.le_refl _⟩
    show (w.heap.push _)[w.heap.size]? = _
    simp) with fr := fun k hk => r1.fr k (fr_one hk) }
theorem zero_cells {z : Array Value} (hz : ∀ v ∈ z.toList, v.oneCell' = true) (m : Nat) : ∀ v ∈ (Builtin.zeroCells z m).toList, v.oneCell' = true := by
  intro v hv
  unfold Builtin.zeroCells at hv
  simp only [Array.toList_map, List.mem_map, Array.toList_range, List.mem_range] at hv
  obtain ⟨i, h1, rfl⟩ := hv
  have hp : 0 < z.size := by
    rcases Nat.eq_zero_or_pos z.size with h | h
    · rw [h] at h1; simp at h1
    · exact h
  have hlt : i % z.size < z.size := Nat.mod_lt _ hp
  rw [getElem!_pos z _ hlt]
  exact hz _ (by simp)
theorem RG.clear (hT : TOk P L) {x : Operand} {t : TypeId} {ty : TypeId} {pos : String} {af : Array Edge} {g : Option (Nat × Bool)} {el s1 b1 : Nat} {c1 : Bool} {z1 : List A} {k3 : TK} {st by_ : Nat} {g3 : Bool} {z3 : List A} {k off m : Nat} {c : List A} {rg : Reg}
    (ho : ops[tr.length]? = some ⟨none, .call ⟨.builtin .clear, #[x], #[t]⟩, ty, pos, af, g⟩) (hg : wantA ops g e = some true) (hx : evE e x = some (.sl k [] st off m))
    (ht : look L t = some ⟨.slice el, s1, b1, c1, z1⟩) (hte : look L el = some ⟨k3, st, by_, g3, z3⟩) (hz : z3.all A.cell = true) (hzl : Nat.beq z3.length st = true)
    (hm : 0 < m) (hk : h k = .one c) (hrg : Reg.one (c.take off) = rg)
    (hr : RG P C ops draw Q s0 (⟨fpOf ops ⟨none, .call ⟨.builtin .clear, #[x], #[t]⟩, ty, pos, af, g⟩ [k], none, ⟨none, [(k, rg)], 0⟩, n⟩ :: tr) ⟨e, hput k rg h, n⟩) : RG P C ops draw Q s0 tr ⟨e, h, n⟩ := by
  subst hrg
  have hz1 := Nat.eq_of_beq_eq_true hzl
  refine RG.step (s := ⟨e, h, n⟩) ⟨fpOf ops ⟨none, .call ⟨.builtin .clear, #[x], #[t]⟩, ty, pos, af, g⟩ [k], none, ⟨none, [(k, .one (c.take off))], 0⟩, n⟩ rfl (wstep_of ho rfl hg ?_) hr
  intro s fr f a w ha hfr hrel next Q' hQ' hnext
  obtain ⟨_, h1, h2⟩ := ha.parts
  have hx' : evE s.e x = some (.sl k [] st off m) := (h1 x (by simp [Op.operands, Call.operands])).trans hx
  have hk' : s.h k = .one c := (h2 k (by simp)).trans hk
  obtain ⟨d1, q1, q2, q3⟩ := look_kind hT ht
  obtain rfl := kindOf_slice q2
  obtain ⟨i, u, z, i1, i2, i3, i4, i5, i6, i7, i8⟩ := TIof.spec (hT _ _ hte)
  dsimp only at i5 i6 i8
  have hcs : z.cells.size = st := by rw [← hz1, i8]; simp
  have hone : ∀ v ∈ z.cells.toList, v.oneCell' = true := by
    intro v hv
    rw [i8, List.all_eq_true] at hz
    exact hz (.val v) (List.mem_map.2 ⟨v, hv, rfl⟩)
  have hzv : (zeroValue el).run P w = .ok z w := by simp [zeroValue, typeInfo, program, Sem.run, bind, Sem.bind, i1, i3, pure]
  have hv := hrel.ev hx'
  unfold V at hv
  rcases hv with ⟨_, h0, _⟩ | ⟨bb, cap, g1, g2, g3, g4, arr0, e0, z0, g5, g6⟩
  · omega
  obtain ⟨arr, el', j2, j3, j4⟩ := hrel.cells (k := k) (p := []) (c := c) (by rw [hk']; rfl) g1
  rw [j2] at g5
  simp only [Option.some.injEq, Obj.cells.injEq] at g5
  obtain ⟨rfl, rfl, rfl⟩ := g5
  obtain ⟨zs, hzs⟩ : ∃ zs, zs = (Builtin.zeroCells z.cells m).toList := ⟨_, rfl⟩
  have hzlen : zs.length = m * st := by rw [hzs, Array.length_toList, zeroCells_size, hcs]
  have hle : m * st ≤ cap * st := Nat.mul_le_mul_right _ g3
  have hfit : off + 0 + zs.length ≤ arr.size := by omega
  have hrun := run_storeCells_at (P := P) bb off el' zs 0 arr w j2 hfit (by rw [hzs]; exact zero_cells hone m)
  simp only [Nat.add_zero] at hrun
  have hsize : (arr.toList.take off ++ zs ++ arr.toList.drop (off + zs.length)).toArray.size = arr.size := by
    simp only [List.size_toArray, List.length_append, List.length_take, List.length_drop, Array.length_toList]
    omega
  have r1 := hrel.setObj (k := k) (p := []) (c := c) (c' := c.take off) (by rw [hk']; rfl) g1 j2 hsize (by rw [List.length_take]; omega) (by
    have e1 : (arr.toList.take off ++ zs ++ arr.toList.drop (off + zs.length)).take (c.take off).length = (arr.toList.take c.length).take off := by
      have hlt : (c.take off).length ≤ (arr.toList.take off).length := by
        simp only [List.length_take, Array.length_toList]; omega
      rw [List.append_assoc, List.take_append_of_le_length hlt, List.take_take, List.take_take, List.length_take]
      congr 1
      omega
    show VL f _ w _ ((arr.toList.take off ++ zs ++ arr.toList.drop (off + zs.length)).take (c.take off).length)
    rw [e1]
    exact j4.take off)
  have hput1 : (s.h k).set [] (c.take off) = .one (c.take off) := by rw [hk']; rfl
  rw [hput1] at r1
  unfold Oper.wp
  have hrun' : (execOp a.eval ⟨none, .call ⟨.builtin .clear, #[x], #[t]⟩, ty, pos, af, g⟩).run P w = .ok (.value (.tuple #[])) (w.setRow bb (arr.toList.take off ++ zs ++ arr.toList.drop (off + zs.length)).toArray) := by
    simp only [execOp, resolve, Sem.run_bind, Sem.run_pure, Result.andThen, invoke, builtin, List.map_toArray, List.map_cons, List.map_nil]
    rw [g2]
    obtain ⟨m', rfl⟩ : ∃ m', m = m' + 1 := ⟨m - 1, by omega⟩
    simp [Builtin.clear_, run_underlying q1, hzv, ← hzs, hrun]
  rw [hrun']
  exact hnext _ _ f { r1 with fr := fun k hk => hrel.fr k hk.1 }
end
end Go.Abs
namespace Go.Abs
open Go.RowKit
section
variable {P : Program} {L : List (Nat × TI)} {C : Ctx} {ops : Array Oper} {draw : Bool} {Q : AQ} {s0 : St} {tr : List TE} {e : Nat → Option A} {h : Nat → Reg} {n : Nat}
theorem RG.capNil (hT : TOk P L) {d : Option Tmp} {x : Operand} {t el s1 b1 : Nat} {c1 : Bool} {z1 : List A} {ty : TypeId} {pos : String} {af : Array Edge} {g : Option (Nat × Bool)}
    (ho : ops[tr.length]? = some ⟨d, .call ⟨.builtin .cap, #[x], #[t]⟩, ty, pos, af, g⟩) (hg : wantA ops g e = some true) (hx : evE e x = some (.val (.slice none 0 0))) (ht : look L t = some ⟨.slice el, s1, b1, c1, z1⟩) (hd : dOk C d = true)
    (hr : RG P C ops draw Q s0 (⟨fpOf ops ⟨d, .call ⟨.builtin .cap, #[x], #[t]⟩, ty, pos, af, g⟩ [], d, ⟨some (.val (.int .i64 0)), [], 0⟩, n⟩ :: tr) ⟨putd d (some (.val (.int .i64 0))) e, h, n⟩) : RG P C ops draw Q s0 tr ⟨e, h, n⟩ := by
  refine RG.yld (r := some (.val (.int .i64 0))) ho hg (fun ev hev f X w ρ hρ => ?_) hd rfl hr
  obtain ⟨d1, q1, q2, q3⟩ := look_kind hT ht
  obtain rfl := kindOf_slice q2
  have h1 := (hρ x _ ((hev x (by simp [Op.operands, Call.operands])).trans hx)).val
  refine Yld.mk (v := .int .i64 0) ?_ (by unfold V; rfl)
  simp only [execOp, resolve, Sem.run_bind, Sem.run_pure, Result.andThen, invoke, builtin, List.map_toArray, List.map_cons, List.map_nil]
  simp [Builtin.cap_, h1, run_underlying q1, goInt]
theorem RG.sliceNil (hT : TOk P L) {d : Option Tmp} {x hi : Operand} {t el s1 b1 s2 b2 : Nat} {c1 c2 : Bool} {z1 z2 : List A} {k2 : TK} {kk : IntKind} {ty : TypeId} {pos : String} {af : Array Edge} {g : Option (Nat × Bool)}
    (ho : ops[tr.length]? = some ⟨d, .slice t x none (some hi) none, ty, pos, af, g⟩) (hg : wantA ops g e = some true) (hx : evE e x = some (.val (.slice none 0 0))) (hh : evE e hi = some (.val (.int kk 0))) (ht : look L t = some ⟨.slice el, s1, b1, c1, z1⟩) (hte : look L el = some ⟨k2, s2, b2, c2, z2⟩) (hd : dOk C d = true)
    (hr : RG P C ops draw Q s0 (⟨fpOf ops ⟨d, .slice t x none (some hi) none, ty, pos, af, g⟩ [], d, ⟨some (.val (.slice none 0 0)), [], 0⟩, n⟩ :: tr) ⟨putd d (some (.val (.slice none 0 0))) e, h, n⟩) : RG P C ops draw Q s0 tr ⟨e, h, n⟩ := by
  refine RG.yld (r := some (.val (.slice none 0 0))) ho hg (fun ev hev f X w ρ hρ => ?_) hd rfl hr
  obtain ⟨d1, q1, q2, q3⟩ := look_kind hT ht
  obtain rfl := kindOf_slice q2
  have k4 := TIof.size (hT _ _ hte)
  dsimp only at k4
  have h1 := (hρ x _ ((hev x (by simp [Op.operands])).trans hx)).val
  have h2 : ev hi = some (.val (.int kk 0)) := (hev hi (by simp [Op.operands])).trans hh
  have hb : bnd ev (some hi) = some (some 0) := by simp only [bnd, h2]
  have hb0 : bnd ev none = some none := rfl
  refine Yld.mk (run_v ?_) (V.mkVal _)
  have := bounds_run (P := P) (w := w) (isS := true) (len := 0) (cap := 0) (bnd_spec hρ hb0) (bnd_spec hρ hb) (fun m hm => by cases hm; exact ⟨Int.le_refl _, Int.le_refl _⟩) (fun m hm => by cases hm)
  simp only [Option.map_none, Option.map_some] at this
  simp [Instr.sliceAt, Instr.slice, q3, h1, this, k4, hiN, loN, iNat]
end
end Go.Abs
namespace Go.Abs
open Go.RowKit
theorem kindOf_ifaceE {P : Program} {u : TypeDesc} (h : kindOf P u = .iface) : ∃ ms, u = .interface ms := by
  cases u <;> simp only [kindOf, reduceCtorEq] at h <;> first | exact ⟨_, rfl⟩ | (split at h <;> cases h)
section
variable {P : Program} {L : List (Nat × TI)} {C : Ctx} {ops : Array Oper} {draw : Bool} {Q : AQ} {s0 : St} {tr : List TE} {e : Nat → Option A} {h : Nat → Reg} {n : Nat}
theorem RG.nilT (hT : TOk P L) {d : Option Tmp} {x : Operand} {t t2 s1 b1 : Nat} {c1 : Bool} {z1 : List A} {ty : TypeId} {pos : String} {af : Array Edge} {g : Option (Nat × Bool)}
    (ho : ops[tr.length]? = some ⟨d, .binOp .eql t x (.const .nilIface) t2, ty, pos, af, g⟩) (hg : wantA ops g e = some true) (hx : evE e x = some (.val .nilIface)) (ht : look L t = some ⟨.iface, s1, b1, c1, z1⟩) (hd : dOk C d = true)
    (hr : RG P C ops draw Q s0 (⟨fpOf ops ⟨d, .binOp .eql t x (.const .nilIface) t2, ty, pos, af, g⟩ [], d, ⟨some (.val (.bool true)), [], 0⟩, n⟩ :: tr) ⟨putd d (some (.val (.bool true))) e, h, n⟩) : RG P C ops draw Q s0 tr ⟨e, h, n⟩ := by
  refine RG.yld (r := some (.val (.bool true))) ho hg (fun ev hev f X w ρ hρ => ?_) hd rfl hr
  obtain ⟨d1, q1, q2, q3⟩ := look_kind hT ht
  obtain ⟨ms, rfl⟩ := kindOf_ifaceE q2
  have h1 := (hρ x _ ((hev x (by simp [Op.operands])).trans hx)).val
  have h2 := (hρ (.const .nilIface) (.val .nilIface) (hev _ (by simp [Op.operands]))).val
  refine Yld.mk (v := .bool true) (run_v ?_) (by unfold V; rfl)
  have e1 : (eqGuard .eql t x (.const .nilIface) (ρ x) (ρ (.const .nilIface))).run P w = .ok () w := by
    rw [h1, h2]; cases x <;> simp [eqGuard]
  have e2 : (binOp .eql t (ρ x) (ρ (.const .nilIface))).run P w = .ok (.bool true) w := by
    have hh : ∀ d : Nat, (Op.equalIn (d + 1) t .nilIface .nilIface).run P w = .ok true w := fun d => by simp [Op.equalIn, run_underlying q1]
    rw [h1, h2]; simp only [binOp]; simp [Op.equal, Op.maxDepth, hh 9999]
  simp only [Sem.run_bind, e1, Result.andThen, e2]
theorem RG.nilF (hT : TOk P L) {d : Option Tmp} {x : Operand} {t t2 s1 b1 tt : Nat} {c1 : Bool} {z1 : List A} {a : A} {ty : TypeId} {pos : String} {af : Array Edge} {g : Option (Nat × Bool)}
    (ho : ops[tr.length]? = some ⟨d, .binOp .eql t x (.const .nilIface) t2, ty, pos, af, g⟩) (hg : wantA ops g e = some true) (hx : evE e x = some (.ifc tt a)) (ht : look L t = some ⟨.iface, s1, b1, c1, z1⟩) (hd : dOk C d = true)
    (hr : RG P C ops draw Q s0 (⟨fpOf ops ⟨d, .binOp .eql t x (.const .nilIface) t2, ty, pos, af, g⟩ [], d, ⟨some (.val (.bool false)), [], 0⟩, n⟩ :: tr) ⟨putd d (some (.val (.bool false))) e, h, n⟩) : RG P C ops draw Q s0 tr ⟨e, h, n⟩ := by
  refine RG.yld (r := some (.val (.bool false))) ho hg (fun ev hev f X w ρ hρ => ?_) hd rfl hr
  obtain ⟨d1, q1, q2, q3⟩ := look_kind hT ht
  obtain ⟨ms, rfl⟩ := kindOf_ifaceE q2
  have h1 := hρ x _ ((hev x (by simp [Op.operands])).trans hx)
  unfold V at h1
  obtain ⟨u, h1, _⟩ := h1
  have h2 := (hρ (.const .nilIface) (.val .nilIface) (hev _ (by simp [Op.operands]))).val
  refine Yld.mk (v := .bool false) (run_v ?_) (by unfold V; rfl)
  have e1 : (eqGuard .eql t x (.const .nilIface) (ρ x) (ρ (.const .nilIface))).run P w = .ok () w := by
    rw [h1, h2]; simp [eqGuard]
  have e2 : (binOp .eql t (ρ x) (ρ (.const .nilIface))).run P w = .ok (.bool false) w := by
    have hh : ∀ d : Nat, (Op.equalIn (d + 1) t (.iface tt u) .nilIface).run P w = .ok false w := fun d => by simp [Op.equalIn, run_underlying q1]
    rw [h1, h2]; simp only [binOp]; simp [Op.equal, Op.maxDepth, hh 9999]
  simp only [Sem.run_bind, e1, Result.andThen, e2]
end
end Go.Abs
namespace Go.Abs
open Go.RowKit
theorem SubHr.put2 {σ : Nat → Nat} {k : Nat} {c : List A} {h h' : Nat → Reg} (h1 : h' (σ k) = .one (renPL (fun k p => (σ k, p)) c)) (h2 : SubHr σ h h') : SubHr σ (hput k (.one c) h) h' := by
  intro j p c' hc
  by_cases hj : j = k
  · subst hj
    rw [hput_same] at hc
    cases p with
    | cons _ _ => simp [Reg.get] at hc
    | nil =>
      simp only [Reg.get, Option.some.injEq] at hc
      subst hc
      rw [h1]; rfl
  · rw [hput_ne _ _ hj] at hc; exact h2 j p c' hc
end Go.Abs
namespace Go.Abs
open Go.RowKit
/-- A package variable whose first cell is a number. -/
def GI.num1 (g : Nat) : GI where
  G := g + 1
  p := fun w => ∃ v, w.cell? ⟨g, 0, Option.none⟩ = some (.int .i64 v)
  st := fun w w' h hp => by
    obtain ⟨v, hp⟩ := hp
    exact ⟨v, (World.cell?_of_block (a := ⟨g, 0, Option.none⟩) (h g (Nat.lt_succ_self g))).trans hp⟩
  low := fun w hp => by
    obtain ⟨v, hp⟩ := hp
    rcases Nat.lt_or_ge g w.heap.size with h | h
    · exact h
    · simp [World.cell?, Array.getElem?_eq_none h] at hp
end Go.Abs
