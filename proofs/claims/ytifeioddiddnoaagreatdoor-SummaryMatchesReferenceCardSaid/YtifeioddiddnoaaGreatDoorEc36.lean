/- The maker of programs: small functions. No conditions. -/
import Derived.Test.YtifeioddiddnoaaGreatDoorEcB
import Derived.Test.YtifeioddiddnoaaGreatDoorEpB
import Derived.Test.YtifeioddiddnoaaGreatDoorAbsE
set_option linter.unusedVariables false
set_option linter.unusedSimpArgs false
namespace Go.Proofs.YtifeioddiddnoaaGreatDoor
open Go.Abs Go Go.RowKit
set_option maxRecDepth 20000
def Hd.cl (h : Hd) : List A := [i64 h.id, i64 h.firm, i64 h.part, .ro h.params.length (flC Rg.cl h.params), .ro h.given.length (flC Rg.cl h.given)]
theorem Hd.cl_len (h : Hd) : h.cl.length = 5 := rfl
theorem Hd.cl_free (h : Hd) : ltL 0 h.cl = true := rfl
/-- The declarations of what is made. -/
def gA1 : A := .ro 2 [i64 0, i64 20, i64 1, i64 (-5), i64 5, i64 0]
def gA2 : A := .ro 2 [i64 0, i64 9, i64 1, i64 0, i64 100, i64 2]
def gA3 : A := .ro 1 [i64 2, i64 0, i64 15, i64 1]
def gA4 : A := .ro 3 [i64 0, i64 1, i64 3]
/-- The maker's cells. -/
def mX (E : Ev) (h1 d1 t1 pa ar : A) (s : Ms) : List A := [.ro E.L.length (ints .u8 E.L), i64 (s.a : Int), gA1, gA2, gA3, gA4, i64 3, i64 3, i64 2, h1, d1, t1,
  i64 E.D.id, i64 E.D.site, strA (unb E.D.name), i64 E.D.firm, i64 E.D.part, pa, .ro E.D.given.length (flC Rg.cl E.D.given), i64 E.D.vars, i64 E.D.refs, ar, i64 E.D.budget, .val (.slice none 0 0),
  i64 (s.site : Int), i64 (s.left : Int), i64 (s.loop : Int), i64 (s.done : Int), .val (.bool false)]
abbrev nilA : A := .val (.slice none 0 0)
abbrev hsA (E : Ev) : A := .sl 1 [] 5 0 E.hs.length
abbrev dsA (E : Ev) : A := .sl 2 [] 12 0 E.ds.length
abbrev paA (E : Ev) : A := .ro E.D.params.length (flC Rg.cl E.D.params)
abbrev arA (E : Ev) : A := .ro E.D.arrays.length (flC Ar.cl E.D.arrays)
abbrev mC (E : Ev) (s : Ms) : List A := mX E (hsA E) (dsA E) nilA (paA E) (arA E) s
abbrev hsC (E : Ev) : List A := flC Hd.cl E.hs
abbrev dsC (E : Ev) : List A := flC Df.cl E.ds
theorem hsC_free (E : Ev) : ltL 0 (hsC E) = true := flC_free Hd.cl_free _
theorem dsC_free (E : Ev) : ltL 0 (dsC E) = true := flC_free (fun d => by cases d; rfl) _
theorem rWk {g : FuncId} {args : List A} {pre post : List Reg} {r r' : A} (c : FC Tryz.prog ge g args pre r post NoP) (h : Wk r r') : FC Tryz.prog ge g args pre r' post NoP := c.wkR h

section
variable {C : Ctx} {ops : Array Oper} {draw : Bool} {Q : AQ} {s0 : St} {tr : List TE} {e : Nat → Option A} {h : Nat → Reg} {n : Nat}
/-- A call that is given the maker. -/
theorem KM {d : Option Tmp} {fo : Operand} {xs : Array Operand} {ts : Array TypeId} {ty : TypeId} {pos : String} {af : Array Edge} {g : Option (Nat × Bool)} {gid : FuncId} {first az caps args : List A} {E : Ev} {m m' : List A} {r r' : A}
    (hc : FC Tryz.prog C.I gid args [.one m, .one (hsC E), .one (dsC E)] r [.one m', .one (hsC E), .one (dsC E)] NoP)
    (hr : RG Tryz.prog C ops draw Q s0 (⟨fpOf ops ⟨d, .call ⟨.value fo, xs, ts⟩, ty, pos, af, g⟩ [0, 1, 2], d, ⟨some r', [(0, .one m'), (1, .one (hsC E)), (2, .one (dsC E))], 0⟩, n⟩ :: tr) ⟨putd d (some r') e, hput 0 (.one m') (hput 1 (.one (hsC E)) (hput 2 (.one (dsC E)) h)), n⟩)
    (ho : ops[tr.length]? = some ⟨d, .call ⟨.value fo, xs, ts⟩, ty, pos, af, g⟩ := by exact rfl) (hg : wantA ops g e = some true := by exact rfl) (hf : evE e fo = some (.fn gid first caps) := by exact rfl) (hx : mapEv (evE e) xs.toList = some az := by exact rfl)
    (hok : ksOk n [0, 1, 2] = true := by exact rfl) (hargs : first ++ az ++ caps = renL (sig [0, 1, 2] n) args := by exact rfl) (hlt : ltL 3 args = true := by exact rfl)
    (h0 : h 0 = .one m := by exact rfl) (h1 : h 1 = .one (hsC E) := by exact rfl) (h2 : h 2 = .one (dsC E) := by exact rfl) (hm : ltL 3 m = true := by exact rfl) (hm2 : renL (sig [0, 1, 2] n) m = m := by exact rfl) (hm3 : renL (sig [0, 1, 2] n) m' = m' := by exact rfl)
    (hd : dOk C d = true := by exact rfl) (hr' : r.ren (sig [0, 1, 2] n) = r' := by exact rfl) : RG Tryz.prog C ops draw Q s0 tr ⟨e, h, n⟩ := by
  refine RG.call ho hg hf hx hc [0, 1, 2] rfl hok hargs hlt (es := [(0, .one m'), (1, .one (hsC E)), (2, .one (dsC E))]) (.cons h0 ?_ (Reg.lt_one hm) ⟨[], _, rfl⟩ (.one h1 (hsC_free _) (.one h2 (dsC_free _) (.nil _)))) (.cons ?_ (.one (hsC_free _) (.one (dsC_free _) (.nil _)))) (fun _ h => False.elim h) hd hr' rfl ?_
  · exact Same.one hm2
  · exact Same.one hm3
  · exact hr
end
theorem num_fc (v : Int) : FC Tryz.prog ge 168 [i64 v] [] (.agg (numE v).cl) [] NoP := by
  refine rWk (r := .agg [i64 1, i64 0, i64 v, nilA]) ?_ (Wk.agg (by repeat (first | exact WkL.nil | refine WkL.cons (Wk.refl _) ?_ | refine WkL.cons Wk.nil ?_)))
  refine FC.of_AW tok Tryz.func168 (by kernel_rfl) rfl Tryz.ntmps168 [] rfl rfl rfl ?_; intro w0 X0 Y f0 hI0 hX0
  (repeat (first | refine K4 ?_ | refine L2 ?_ | refine L3 ?_ | refine RG.d ?_ | refine S1 ?_ | refine S2 ?_ | refine S6 ?_))
  exact ⟨⟨_, rfl, rfl⟩, rfl, .nil _⟩
theorem var_fc (v : Int) : FC Tryz.prog ge 169 [i64 v] [] (.agg (Ex.mk 2 v 0 []).cl) [] NoP := by
  refine rWk (r := .agg [i64 2, i64 v, i64 0, nilA]) ?_ (Wk.agg (by repeat (first | exact WkL.nil | refine WkL.cons (Wk.refl _) ?_ | refine WkL.cons Wk.nil ?_)))
  refine FC.of_AW tok Tryz.func169 (by kernel_rfl) rfl Tryz.ntmps169 [] rfl rfl rfl ?_; intro w0 X0 Y f0 hI0 hX0
  (repeat (first | refine K4 ?_ | refine L2 ?_ | refine L3 ?_ | refine RG.d ?_ | refine S1 ?_ | refine S2 ?_ | refine S6 ?_))
  exact ⟨⟨_, rfl, rfl⟩, rfl, .nil _⟩
theorem bin_fc (op : Int) (a b : Ex) : FC Tryz.prog ge 170 [i64 op, .agg a.cl, .agg b.cl] [] (.agg (Ex.mk op 0 0 [a, b]).cl) [] NoP := by
  obtain ⟨a1, a2, a3, a4⟩ := a
  obtain ⟨b1, b2, b3, b4⟩ := b
  simp only [Ex.cl, exC, List.length_cons, List.length_nil, List.append_nil, List.cons_append, List.nil_append]
  refine FC.of_AW tok Tryz.func170 (by kernel_rfl) rfl Tryz.ntmps170 [] rfl rfl rfl ?_; intro w0 X0 Y f0 hI0 hX0
  (repeat (first | refine K4 ?_ | refine L1 ?_ | refine L2 ?_ | refine L3 ?_ | refine RG.d ?_ | refine S1 ?_ | refine S2 ?_))
  refine AW.sub (Sub.frzH (ks := [3]) 2 rfl (by decide) (.cons (Frz.refl _) (.cons (Frz.refl _) (.cons (Frz.refl _) (.cons (frzC (st := 4) (n := 2) rfl (by decide) rfl rfl) .nil))))) ?_
  (repeat (first | refine S6 ?_))
  exact ⟨⟨_, rfl, rfl⟩, rfl, .nil _⟩
theorem test_fc (op : Int) (a b : Ex) : FC Tryz.prog ge 166 [i64 op, .agg a.cl, .agg b.cl] [] (.agg (Co.mk op [a, b] []).cl) [] NoP := by
  obtain ⟨a1, a2, a3, a4⟩ := a
  obtain ⟨b1, b2, b3, b4⟩ := b
  simp only [Co.cl, Ex.cl, exC, coC, List.length_cons, List.length_nil, List.append_nil, List.cons_append, List.nil_append]
  refine rWk (r := .agg [i64 op, .ro (0 + 1 + 1) [i64 a1, i64 a2, i64 a3, .ro a4.length (exC a4), i64 b1, i64 b2, i64 b3, .ro b4.length (exC b4)], nilA]) ?_ (Wk.agg (by repeat (first | exact WkL.nil | refine WkL.cons (Wk.refl _) ?_ | refine WkL.cons Wk.nil ?_)))
  refine FC.of_AW tok Tryz.func166 (by kernel_rfl) rfl Tryz.ntmps166 [] rfl rfl rfl ?_; intro w0 X0 Y f0 hI0 hX0
  (repeat (first | refine K4 ?_ | refine L1 ?_ | refine L2 ?_ | refine L3 ?_ | refine RG.d ?_ | refine S1 ?_ | refine S2 ?_))
  refine AW.sub (Sub.frzH (ks := [3]) 2 rfl (by decide) (.cons (Frz.refl _) (.cons (frzC (st := 4) (n := 2) rfl (by decide) rfl rfl) (.cons (Frz.refl _) .nil)))) ?_
  (repeat (first | refine S6 ?_))
  exact ⟨⟨_, rfl, rfl⟩, rfl, .nil _⟩
theorem not_fc (a : Co) : FC Tryz.prog ge 167 [.agg a.cl] [] (.agg (Co.mk 5 [] [a]).cl) [] NoP := by
  obtain ⟨a1, a2, a3⟩ := a
  simp only [Co.cl, exC, coC, List.length_cons, List.length_nil, List.append_nil, List.cons_append, List.nil_append]
  refine rWk (r := .agg [i64 5, nilA, .ro (0 + 1) [i64 a1, .ro a2.length (exC a2), .ro a3.length (coC a3)]]) ?_ (Wk.agg (by repeat (first | exact WkL.nil | refine WkL.cons (Wk.refl _) ?_ | refine WkL.cons Wk.nil ?_)))
  refine FC.of_AW tok Tryz.func167 (by kernel_rfl) rfl Tryz.ntmps167 [] rfl rfl rfl ?_; intro w0 X0 Y f0 hI0 hX0
  (repeat (first | refine K4 ?_ | refine L1 ?_ | refine L2 ?_ | refine L3 ?_ | refine RG.d ?_ | refine S1 ?_ | refine S2 ?_))
  refine AW.sub (Sub.frzH (ks := [2]) 1 rfl (by decide) (.cons (Frz.refl _) (.cons (Frz.refl _) (.cons (frzC (st := 3) (n := 1) rfl (by decide) rfl rfl) .nil)))) ?_
  (repeat (first | refine S6 ?_))
  exact ⟨⟨_, rfl, rfl⟩, rfl, .nil _⟩
theorem head_fc (d : Df) : FC Tryz.prog ge 109 [.agg d.cl] [] (.agg (Hd.mk d.id d.firm d.part d.params d.given).cl) [] NoP := by
  obtain ⟨id, site, name, firm, part, params, given, vars, refs, arrays, budget, body⟩ := d
  simp only [Df.cl, Hd.cl]
  refine FC.of_AW tok Tryz.func109 (by kernel_rfl) rfl Tryz.ntmps109 [] rfl rfl rfl ?_; intro w0 X0 Y f0 hI0 hX0
  (repeat (first | refine K4 ?_ | refine L1 ?_ | refine L2 ?_ | refine L3 ?_ | refine RG.d ?_ | refine S1 ?_ | refine S2 ?_ | refine S6 ?_))
  exact ⟨⟨_, rfl, rfl⟩, rfl, .nil _⟩
theorem declared_fc : FC Tryz.prog ge 94 [] [] (.agg [gA1, gA2, gA3, gA4, i64 3, i64 3, i64 2]) [] NoP := by
  unfold gA1 gA2 gA3 gA4
  refine FC.of_AW tok Tryz.func94 (by kernel_rfl) rfl Tryz.ntmps94 [] rfl rfl rfl ?_; intro w0 X0 Y f0 hI0 hX0
  (repeat (first | refine K4 ?_ | refine L2 ?_ | refine L3 ?_ | refine RG.d ?_ | refine S1 ?_ | refine S2 ?_))
  refine AW.sub (Sub.frzH (ks := [1, 2, 3, 4]) 0 rfl (by decide) (.cons (frzC (st := 3) (n := 2) rfl (by decide) rfl rfl) (.cons (frzC (st := 3) (n := 2) rfl (by decide) rfl rfl) (.cons (frzC (st := 4) (n := 1) rfl (by decide) rfl rfl) (.cons (frzC (st := 1) (n := 3) rfl (by decide) rfl rfl) (.cons (Frz.refl _) (.cons (Frz.refl _) (.cons (Frz.refl _) .nil)))))))) ?_
  (repeat (first | refine S6 ?_))
  exact ⟨⟨_, rfl, rfl⟩, rfl, .nil _⟩

theorem gn_fc (E : Ev) (hL : ∀ x, x ∈ E.L → 0 ≤ x ∧ x ≤ 255) (hl : E.L.length ≤ 9223372036854775807) (n : Nat) (hn : 0 < n) (hn2 : n ≤ 1000) (s : Ms) (hs : s.t ≤ 2000000) :
    FC Tryz.prog ge 95 [.ptr 0 [] 0, i64 (n : Int)] [.one (mX E (hsA E) (dsA E) nilA (paA E) (arA E) s), .one (hsC E), .one (dsC E)] (i64 ((gN E n s).1 : Int)) [.one (mX E (hsA E) (dsA E) nilA (paA E) (arA E) (gN E n s).2), .one (hsC E), .one (dsC E)] NoP := by
  obtain ⟨L, hs0, ds, D⟩ := E
  obtain ⟨a, site, left, loop, done⟩ := s
  dsimp only at hL hl
  have ha : a ≤ 2000000 := by have : a + site ≤ 2000000 := hs; omega
  clear hs
  by_cases h : a < L.length
  · obtain ⟨x, hx⟩ : ∃ x, L[a]? = some x := ⟨_, List.getElem?_eq_getElem h⟩
    have hxb := hL x (List.mem_of_getElem? hx)
    have hat := ints_cut L a x hx .u8
    obtain ⟨y, hy⟩ : ∃ y : Nat, y = x.toNat % n := ⟨_, rfl⟩
    rw [show gN ⟨L, hs0, ds, D⟩ n ⟨a, site, left, loop, done⟩ = (y, ⟨a + 1, site, left, loop, done⟩) by
      unfold gN; dsimp only; rw [if_pos h, hy]; simp [List.getD, hx]]
    obtain ⟨z, rfl⟩ : ∃ z : Nat, x = z := ⟨x.toNat, by omega⟩
    rw [Int.toNat_natCast] at hy
    subst hy
    dsimp only [mX]
    refine FC.of_AW tok Tryz.func95 (by kernel_rfl) rfl Tryz.ntmps95 [] rfl rfl rfl ?_; intro w0 X0 Y f0 hI0 hX0
    (repeat (first | refine K2 ?_ | refine K4 ?_ | refine L1 ?_ | refine L3 ?_ | refine RG.d ?_ | refine RG.dd ?_ | refine S1 ?_ | refine S2 ?_))
    refine AW.condD rfl (fun k => absurd (show (L.length : Int) < (a : Int) + 1 from k) (by omega)) (fun _ => ?_)
    (repeat (first | refine K2 ?_ | refine K4 ?_ | refine L1 ?_ | refine S1 ?_ | refine S2 ?_ | refine S3 ?_))
    refine RG.put 30 rfl (v' := i64 (a : Int)) (by rw [show (a : Int) + 1 - 1 = (a : Int) by omega]) ?_
    refine RG.idx tok rfl rfl rfl rfl rfl rfl hat ⟨by omega, by omega⟩ rfl ?_
    (repeat (first | refine K2 ?_ | refine K4 ?_ | refine K5 ?_ | refine L1 ?_ | refine RG.dd ?_ | refine S6 ?_))
    exact ⟨⟨_, rfl, rfl⟩, rfl, .cons rfl (.one rfl) (Reg.lt_one rfl) ⟨[], _, rfl⟩ (.one rfl (hsC_free _) (.one rfl (dsC_free _) (.nil _)))⟩
  · rw [show gN ⟨L, hs0, ds, D⟩ n ⟨a, site, left, loop, done⟩ = (0, ⟨a + 1, site, left, loop, done⟩) by
      unfold gN; dsimp only; rw [if_neg h]]
    dsimp only [mX]
    refine FC.of_AW tok Tryz.func95 (by kernel_rfl) rfl Tryz.ntmps95 [] rfl rfl rfl ?_; intro w0 X0 Y f0 hI0 hX0
    (repeat (first | refine K2 ?_ | refine K4 ?_ | refine L1 ?_ | refine L3 ?_ | refine RG.d ?_ | refine RG.dd ?_ | refine S1 ?_ | refine S2 ?_))
    refine AW.condD rfl (fun _ => ?_) (fun k => absurd (show (L.length : Int) < (a : Int) + 1 by omega) k)
    (repeat (first | refine K4 ?_ | refine RG.d ?_ | refine S1 ?_ | refine S2 ?_ | refine S6 ?_))
    exact ⟨⟨_, rfl, rfl⟩, rfl, .cons rfl (.one rfl) (Reg.lt_one rfl) ⟨[], _, rfl⟩ (.one rfl (hsC_free _) (.one rfl (dsC_free _) (.nil _)))⟩
end Go.Proofs.YtifeioddiddnoaaGreatDoor
