/- The rules of regions, their premises shown by computing: short names. No conditions. -/
import Derived.Test.YtbhahgbdkgjliaaGreatDoorAbsD
set_option linter.unusedVariables false
set_option linter.unusedSimpArgs false
namespace Go.Abs
open Go.RowKit
section
variable {P : Program} {L : List (Nat × TI)} {C : Ctx} {ops : Array Oper} {draw : Bool} {Q : AQ} {s0 : St} {tr : List TE} {e : Nat → Option A} {h : Nat → Reg} {n : Nat}
theorem RG.k {d : Option Tmp} {op : Op} {ty : TypeId} {pos : String} {af : Array Edge} {g : Option (Nat × Bool)} 
    (hr : RG P C ops draw Q s0 (⟨⟨gslot ops g, [], []⟩, d, ⟨some (.val undef), [], 0⟩, n⟩ :: tr) ⟨putd d (some (.val undef)) e, h, n⟩) (ho : ops[tr.length]? = some ⟨d, op, ty, pos, af, g⟩ := by exact rfl) (hg : wantA ops g e = some false := by exact rfl) (hd : dOk C d = true := by exact rfl) : RG P C ops draw Q s0 tr ⟨e, h, n⟩ := RG.skip ho hg hd hr
theorem RG.i (hT : TOk P L) {d : Option Tmp} {op : Op} {ty : TypeId} {pos : String} {af : Array Edge} {g : Option (Nat × Bool)} {r r' : Option A} {sd : Prop}
    (hr : RG P C ops draw Q s0 (⟨fpOf ops ⟨d, op, ty, pos, af, g⟩ [], d, ⟨r', [], 0⟩, n⟩ :: tr) ⟨putd d r' e, h, n⟩) (ho : ops[tr.length]? = some ⟨d, op, ty, pos, af, g⟩ := by exact rfl) (hg : wantA ops g e = some true := by exact rfl)
    (hv : vop L op (evE e) = some (r, sd) := by exact rfl) (hsd : sd := by exact trivial) (hd : dOk C d = true := by exact rfl) (hr' : r = r' := by exact iv_i64 (by omega)) : RG P C ops draw Q s0 tr ⟨e, h, n⟩ := RG.val hT ho hg hv hsd hd hr' hr
theorem RG.v (hT : TOk P L) {d : Option Tmp} {op : Op} {ty : TypeId} {pos : String} {af : Array Edge} {g : Option (Nat × Bool)} {r r' : Option A} {sd : Prop}
    (hr : RG P C ops draw Q s0 (⟨fpOf ops ⟨d, op, ty, pos, af, g⟩ [], d, ⟨r', [], 0⟩, n⟩ :: tr) ⟨putd d r' e, h, n⟩) (ho : ops[tr.length]? = some ⟨d, op, ty, pos, af, g⟩ := by exact rfl) (hg : wantA ops g e = some true := by exact rfl)
    (hv : vop L op (evE e) = some (r, sd) := by exact rfl) (hsd : sd := by exact trivial) (hd : dOk C d = true := by exact rfl) (hr' : r = r' := by exact rfl) : RG P C ops draw Q s0 tr ⟨e, h, n⟩ := RG.val hT ho hg hv hsd hd hr' hr
theorem RG.l (hT : TOk P L) {d : Option Tmp} {t : TypeId} {x : Operand} {ty : TypeId} {pos : String} {af : Array Edge} {g : Option (Nat × Bool)} {a0 v v' : A} {ks : List Nat}
    (hr : RG P C ops draw Q s0 (⟨fpOf ops ⟨d, .load t x, ty, pos, af, g⟩ ks, d, ⟨some v', [], 0⟩, n⟩ :: tr) ⟨putd d (some v') e, h, n⟩) (ho : ops[tr.length]? = some ⟨d, .load t x, ty, pos, af, g⟩ := by exact rfl) (hg : wantA ops g e = some true := by exact rfl)
    (hx : evE e x = some a0 := by exact rfl) (hl : ldA L t a0 h = some (v, ks) := by exact rfl) (hd : dOk C d = true := by exact rfl) (hv' : v = v' := by exact rfl) : RG P C ops draw Q s0 tr ⟨e, h, n⟩ := RG.load hT ho hg hx hl hd hv' hr
theorem RG.w (hT : TOk P L) {d : Option Tmp} {op : Op} {ty : TypeId} {pos : String} {af : Array Edge} {g : Option (Nat × Bool)} {c c' : List A} {nk : NK} {sd : Prop}
    (hr : RG P C ops draw Q s0 (⟨fpOf ops ⟨d, op, ty, pos, af, g⟩ [], d, ⟨some (nk.val n), [(n, .one c')], 1⟩, n⟩ :: tr) ⟨putd d (some (nk.val n)) e, hput n (.one c') h, n + 1⟩) (ho : ops[tr.length]? = some ⟨d, op, ty, pos, af, g⟩ := by exact rfl) (hg : wantA ops g e = some true := by exact rfl)
    (hv : nop L op (evE e) = some (c, nk, sd) := by exact rfl) (hsd : sd := by exact trivial) (hd : dOk C d = true := by exact rfl) (hc : c = c' := by exact rfl) : RG P C ops draw Q s0 tr ⟨e, h, n⟩ := RG.new hT ho hg hv hsd hd hc hr
theorem RG.s (hT : TOk P L) {d : Option Tmp} {t : TypeId} {x y : Operand} {ty : TypeId} {pos : String} {af : Array Edge} {g : Option (Nat × Bool)} {a0 v : A} {k : Nat} {p : List Nat} {c' c'' : List A} {rg : Reg}
    (hr : RG P C ops draw Q s0 (⟨fpOf ops ⟨d, .store t x y, ty, pos, af, g⟩ [k], none, ⟨none, [(k, rg)], 0⟩, n⟩ :: tr) ⟨e, hput k rg h, n⟩) (ho : ops[tr.length]? = some ⟨d, .store t x y, ty, pos, af, g⟩ := by exact rfl) (hg : wantA ops g e = some true := by exact rfl)
    (hx : evE e x = some a0 := by exact rfl) (hy : evE e y = some v := by exact rfl) (hl : stA L t a0 v h = some (k, p, c') := by exact rfl) (hd : d = none := by exact rfl) (hc : c' = c'' := by exact rfl) (hrg : (h k).set p c'' = rg := by exact rfl) : RG P C ops draw Q s0 tr ⟨e, h, n⟩ := RG.store hT ho hg hx hy hl hd hc hrg hr
theorem RG.d {s : St} (hq : Q.q .normal s) (hl : Nat.beq tr.length ops.size = true := by exact rfl) : RG P C ops false Q s0 tr s := RG.done hl hq
theorem RG.dd {s : St} (hq : Q.q .normal s) (hm : P.follows .mixedOrders = true := by kernel_rfl) (hl : Nat.beq tr.length ops.size = true := by exact rfl) (hc : cfree ops tr.reverse = true := by kernel_rfl) : RG P C ops true Q s0 tr s := RG.doneD hm hl hc hq
/-! ### All premises by default -/
section
variable {s : St} {c c2 : Code}
theorem K1 {d : Option Tmp} {op : Op} {ty : TypeId} {pos : String} {af : Array Edge} {g : Option (Nat × Bool)} 
    (hr : RG P C ops draw Q s0 (⟨⟨gslot ops g, [], []⟩, d, ⟨some (.val undef), [], 0⟩, n⟩ :: tr) ⟨putd d (some (.val undef)) e, h, n⟩) (ho : ops[tr.length]? = some ⟨d, op, ty, pos, af, g⟩ := by exact rfl) (hg : wantA ops g e = some false := by exact rfl) (hd : dOk C d = true := by exact rfl) : RG P C ops draw Q s0 tr ⟨e, h, n⟩ := RG.skip ho hg hd hr
theorem K2 {d : Option Tmp} {op : Op} {ty : TypeId} {pos : String} {af : Array Edge} {g : Option (Nat × Bool)} {r r' : Option A} {sd : Prop}
    (hr : RG P C ops draw Q s0 (⟨fpOf ops ⟨d, op, ty, pos, af, g⟩ [], d, ⟨r', [], 0⟩, n⟩ :: tr) ⟨putd d r' e, h, n⟩) (hT : TOk P L := by exact tok) (ho : ops[tr.length]? = some ⟨d, op, ty, pos, af, g⟩ := by exact rfl) (hg : wantA ops g e = some true := by exact rfl)
    (hv : vop L op (evE e) = some (r, sd) := by exact rfl) (hsd : sd := by exact trivial) (hd : dOk C d = true := by exact rfl) (hr' : r = r' := by exact iv_i64 (by omega)) : RG P C ops draw Q s0 tr ⟨e, h, n⟩ := RG.val hT ho hg hv hsd hd hr' hr
theorem K3 {d : Option Tmp} {op : Op} {ty : TypeId} {pos : String} {af : Array Edge} {g : Option (Nat × Bool)} {r r' : Option A} {sd : Prop}
    (hr : RG P C ops draw Q s0 (⟨fpOf ops ⟨d, op, ty, pos, af, g⟩ [], d, ⟨r', [], 0⟩, n⟩ :: tr) ⟨putd d r' e, h, n⟩) (hT : TOk P L := by exact tok) (ho : ops[tr.length]? = some ⟨d, op, ty, pos, af, g⟩ := by exact rfl) (hg : wantA ops g e = some true := by exact rfl)
    (hv : vop L op (evE e) = some (r, sd) := by exact rfl) (hsd : sd := by exact trivial) (hd : dOk C d = true := by exact rfl) (hr' : r = r' := by exact iv_u64 (by omega)) : RG P C ops draw Q s0 tr ⟨e, h, n⟩ := RG.val hT ho hg hv hsd hd hr' hr
theorem K4 {d : Option Tmp} {op : Op} {ty : TypeId} {pos : String} {af : Array Edge} {g : Option (Nat × Bool)} {r r' : Option A} {sd : Prop}
    (hr : RG P C ops draw Q s0 (⟨fpOf ops ⟨d, op, ty, pos, af, g⟩ [], d, ⟨r', [], 0⟩, n⟩ :: tr) ⟨putd d r' e, h, n⟩) (hT : TOk P L := by exact tok) (ho : ops[tr.length]? = some ⟨d, op, ty, pos, af, g⟩ := by exact rfl) (hg : wantA ops g e = some true := by exact rfl)
    (hv : vop L op (evE e) = some (r, sd) := by exact rfl) (hsd : sd := by exact trivial) (hd : dOk C d = true := by exact rfl) (hr' : r = r' := by exact rfl) : RG P C ops draw Q s0 tr ⟨e, h, n⟩ := RG.val hT ho hg hv hsd hd hr' hr
theorem K5 {d : Option Tmp} {op : Op} {ty : TypeId} {pos : String} {af : Array Edge} {g : Option (Nat × Bool)} {r r' : Option A} {sd : Prop}
    (hr : RG P C ops draw Q s0 (⟨fpOf ops ⟨d, op, ty, pos, af, g⟩ [], d, ⟨r', [], 0⟩, n⟩ :: tr) ⟨putd d r' e, h, n⟩) (hT : TOk P L := by exact tok) (ho : ops[tr.length]? = some ⟨d, op, ty, pos, af, g⟩ := by exact rfl) (hg : wantA ops g e = some true := by exact rfl)
    (hv : vop L op (evE e) = some (r, sd) := by exact rfl) (hsd : sd := by omega) (hd : dOk C d = true := by exact rfl) (hr' : r = r' := by exact rfl) : RG P C ops draw Q s0 tr ⟨e, h, n⟩ := RG.val hT ho hg hv hsd hd hr' hr
theorem K6 {d : Option Tmp} {t : TypeId} {x i : Operand} {ty : TypeId} {pos : String} {af : Array Edge} {g : Option (Nat × Bool)} {n1 : Nat} {l l' : List A} {kk : IntKind} {j : Int} {el a1 b1 st b2 : Nat} {c1 c2 : Bool} {z1 z2 : List A} {k2 : TK} {a0 : A}
    (hr : RG P C ops draw Q s0 (⟨fpOf ops ⟨d, .indexAddr t x i, ty, pos, af, g⟩ [], d, ⟨some (.rp (a0 :: l')), [], 0⟩, n⟩ :: tr) ⟨putd d (some (.rp (a0 :: l'))) e, h, n⟩) (hT : TOk P L := by exact tok)
    (ho : ops[tr.length]? = some ⟨d, .indexAddr t x i, ty, pos, af, g⟩ := by exact rfl) (hg : wantA ops g e = some true := by exact rfl) (hx : evE e x = some (.ro n1 l) := by exact rfl) (hi : evE e i = some (.val (.int kk j)) := by exact rfl) (ht : look L t = some ⟨.slice el, a1, b1, c1, z1⟩ := by exact rfl) (hte : look L el = some ⟨k2, st, b2, c2, z2⟩ := by exact rfl)
    (hl : dropO (iNat j * st) l = some (a0 :: l') := by exact Go.Abs.ints_at (by omega)) (hb : 0 ≤ j ∧ j < n1 := by exact ⟨by omega, by omega⟩) (hd : dOk C d = true := by exact rfl) : RG P C ops draw Q s0 tr ⟨e, h, n⟩ := RG.idx hT ho hg hx hi ht hte hl hb hd hr
theorem K7 {d : Option Tmp} {t : TypeId} {x i : Operand} {ty : TypeId} {pos : String} {af : Array Edge} {g : Option (Nat × Bool)} {n1 : Nat} {l l' : List A} {kk : IntKind} {j : Int} {el a1 b1 st b2 : Nat} {c1 c2 : Bool} {z1 z2 : List A} {k2 : TK} {a0 : A}
    (hr : RG P C ops draw Q s0 (⟨fpOf ops ⟨d, .indexAddr t x i, ty, pos, af, g⟩ [], d, ⟨some (.rp (a0 :: l')), [], 0⟩, n⟩ :: tr) ⟨putd d (some (.rp (a0 :: l'))) e, h, n⟩) (hT : TOk P L := by exact tok)
    (ho : ops[tr.length]? = some ⟨d, .indexAddr t x i, ty, pos, af, g⟩ := by exact rfl) (hg : wantA ops g e = some true := by exact rfl) (hx : evE e x = some (.ro n1 l) := by exact rfl) (hi : evE e i = some (.val (.int kk j)) := by exact rfl) (ht : look L t = some ⟨.slice el, a1, b1, c1, z1⟩ := by exact rfl) (hte : look L el = some ⟨k2, st, b2, c2, z2⟩ := by exact rfl)
    (hl : dropO (iNat j * st) l = some (a0 :: l') := by exact Go.Abs.rows_at (by omega)) (hb : 0 ≤ j ∧ j < n1 := by exact ⟨by omega, by omega⟩) (hd : dOk C d = true := by exact rfl) : RG P C ops draw Q s0 tr ⟨e, h, n⟩ := RG.idx hT ho hg hx hi ht hte hl hb hd hr
theorem L1 {d : Option Tmp} {t : TypeId} {x : Operand} {ty : TypeId} {pos : String} {af : Array Edge} {g : Option (Nat × Bool)} {a0 v v' : A} {ks : List Nat}
    (hr : RG P C ops draw Q s0 (⟨fpOf ops ⟨d, .load t x, ty, pos, af, g⟩ ks, d, ⟨some v', [], 0⟩, n⟩ :: tr) ⟨putd d (some v') e, h, n⟩) (hT : TOk P L := by exact tok) (ho : ops[tr.length]? = some ⟨d, .load t x, ty, pos, af, g⟩ := by exact rfl) (hg : wantA ops g e = some true := by exact rfl)
    (hx : evE e x = some a0 := by exact rfl) (hl : ldA L t a0 h = some (v, ks) := by exact rfl) (hd : dOk C d = true := by exact rfl) (hv' : v = v' := by exact rfl) : RG P C ops draw Q s0 tr ⟨e, h, n⟩ := RG.load hT ho hg hx hl hd hv' hr
theorem L2 {d : Option Tmp} {op : Op} {ty : TypeId} {pos : String} {af : Array Edge} {g : Option (Nat × Bool)} {c c' : List A} {nk : NK} {sd : Prop}
    (hr : RG P C ops draw Q s0 (⟨fpOf ops ⟨d, op, ty, pos, af, g⟩ [], d, ⟨some (nk.val n), [(n, .one c')], 1⟩, n⟩ :: tr) ⟨putd d (some (nk.val n)) e, hput n (.one c') h, n + 1⟩) (hT : TOk P L := by exact tok) (ho : ops[tr.length]? = some ⟨d, op, ty, pos, af, g⟩ := by exact rfl) (hg : wantA ops g e = some true := by exact rfl)
    (hv : nop L op (evE e) = some (c, nk, sd) := by exact rfl) (hsd : sd := by exact trivial) (hd : dOk C d = true := by exact rfl) (hc : c = c' := by exact rfl) : RG P C ops draw Q s0 tr ⟨e, h, n⟩ := RG.new hT ho hg hv hsd hd hc hr
theorem L3 {d : Option Tmp} {t : TypeId} {x y : Operand} {ty : TypeId} {pos : String} {af : Array Edge} {g : Option (Nat × Bool)} {a0 v : A} {k : Nat} {p : List Nat} {c' c'' : List A} {rg : Reg}
    (hr : RG P C ops draw Q s0 (⟨fpOf ops ⟨d, .store t x y, ty, pos, af, g⟩ [k], none, ⟨none, [(k, rg)], 0⟩, n⟩ :: tr) ⟨e, hput k rg h, n⟩) (hT : TOk P L := by exact tok) (ho : ops[tr.length]? = some ⟨d, .store t x y, ty, pos, af, g⟩ := by exact rfl) (hg : wantA ops g e = some true := by exact rfl)
    (hx : evE e x = some a0 := by exact rfl) (hy : evE e y = some v := by exact rfl) (hl : stA L t a0 v h = some (k, p, c') := by exact rfl) (hd : d = none := by exact rfl) (hc : c' = c'' := by exact rfl) (hrg : (h k).set p c'' = rg := by exact rfl) : RG P C ops draw Q s0 tr ⟨e, h, n⟩ := RG.store hT ho hg hx hy hl hd hc hrg hr
theorem S1 (h : AW P C c (Q.then (fun s => AW P C c2 Q s)) s) : AW P C (.seq c c2) Q s := AW.seq h
theorem S2 {id : Nat} (hr : RG P C ops draw Q s [] s) : AW P C (.region id ops draw) Q s := AW.region hr
theorem S3 (h : Q.q .normal s) : AW P C .skip Q s := AW.skip h
theorem S4 {id : Nat} (h : AW P C c (Q.inBlock id) s) : AW P C (.block id c) Q s := AW.block h
theorem S5 {id : Nat} (h : Q.q (.exit id) s) : AW P C (.exit id) Q s := AW.exit h
theorem S6 (h : Q.q .ret s) : AW P C .ret Q s := AW.ret h
theorem S7 {c : Operand} {x y : Code} (ht : AW P C x Q s) (hc : evE s.e c = some (.val (.bool true)) := by exact rfl) : AW P C (.cond c x y) Q s := AW.condT hc ht
theorem S8 {c : Operand} {x y : Code} (hf : AW P C y Q s) (hc : evE s.e c = some (.val (.bool false)) := by exact rfl) : AW P C (.cond c x y) Q s := AW.condF hc hf
end
end
end Go.Abs
