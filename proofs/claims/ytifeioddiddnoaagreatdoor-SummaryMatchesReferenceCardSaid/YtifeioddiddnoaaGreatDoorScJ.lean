/- Summaries that numbers say are in normal form; contracts on normal forms. No conditions. -/
import Derived.Test.YtifeioddiddnoaaGreatDoorScI
import Derived.Test.YtifeioddiddnoaaGreatDoorScH
import Derived.Test.YtifeioddiddnoaaGreatDoorScFl
import Derived.Test.YtifeioddiddnoaaGreatDoorScF
import Derived.Test.YtifeioddiddnoaaGreatDoorScB
import Derived.Test.YtifeioddiddnoaaGreatDoorEpB
import Derived.Test.YtifeioddiddnoaaGreatDoorAbsD
import Derived.DataShut
set_option linter.unusedVariables false
set_option linter.unusedSimpArgs false
namespace Go.Proofs.YtifeioddiddnoaaGreatDoor
open Go.Abs Go Go.RowKit
def trF (f : Nat → Nat) : Tr := (⟨((f 0 % 40 : Nat) : Int) - 20, ((f 0 % 40 : Nat) : Int) - 20, 0, ((f 1 % 4 : Nat) : Int)⟩ : Tr).join ⟨((f 0 % 40 : Nat) : Int) - 20 + ((f 2 % 30 : Nat) : Int), ((f 0 % 40 : Nat) : Int) - 20 + ((f 2 % 30 : Nat) : Int), 0, 0⟩
def nmF (f : Nat → Nat) : Nm := ⟨trF f, f 3 % 8 * 2, f 4 % 8, f 5 % 8, prBits (f 7), f 6⟩
theorem syF_nm (f : Nat → Nat) : syF 11 f = (nmF f).sy := by
  unfold syF syOf nmF Nm.sy trF
  dsimp only
  rw [← join_nf (tr1_bd (by omega) (by omega)).toOk (tr1_bd (by omega) (by omega)).toOk, nf_1, nf_1]
theorem nmF_ok (f : Nat → Nat) (hf : ∀ i, f i ≤ 65535) : (nmF f).ok where
  t := bd_join (tr1_bd (by omega) (by omega)) (tr1_bd (by omega) (by omega))
  m8 := by
    show ((((f 1 % 4 : Nat) : Int).toNat ||| (0 : Int).toNat : Nat) : Int) < 256
    have : ((f 1 % 4 : Nat) : Int).toNat ||| (0 : Int).toNat < 2 ^ 8 := Nat.or_lt_two_pow (by omega) (by decide)
    omega
  T := by
    have : ∀ x, x < 8 → x * 2 &&& 4294967294 = x * 2 := by decide
    exact this (f 3 % 8) (by omega)
  L := by
    show f 4 % 8 &&& (2 ^ 3 - 1) = _
    rw [Nat.and_two_pow_sub_one_eq_mod]; show f 4 % 8 % 8 = f 4 % 8; omega
  O := by
    show f 5 % 8 &&& (2 ^ 3 - 1) = _
    rw [Nat.and_two_pow_sub_one_eq_mod]; show f 5 % 8 % 8 = f 5 % 8; omega
  k := by
    show prBits (f 7) < 64
    unfold prBits
    repeat' split
    all_goals omega
  c := by show f 6 ≤ _; have := hf 6; omega
theorem topS_nm : topS 11 = Nm.top.sy := rfl
theorem inM_iff {x m : Int} : inM x m = true ↔ BitVec.ofInt 64 x &&& ~~~BitVec.ofInt 64 m = 0#64 := by
  unfold inM
  rw [decide_eq_true_iff]
  have hlt := (BitVec.ofInt 64 x &&& ~~~BitVec.ofInt 64 m).isLt
  generalize BitVec.ofInt 64 x &&& ~~~BitVec.ofInt 64 m = v at hlt
  constructor
  · intro h
    have : v.toNat = 0 := by
      unfold IntKind.wrap IntKind.signed IntKind.bits at h
      simp at h
      omega
    exact BitVec.eq_of_toNat_eq (by simpa using this)
  · rintro rfl; rfl
theorem inM_nat {a b : Nat} (ha : a < 4294967296) (hb : b < 4294967296) : inM (a : Int) (b : Int) = subN a b := by
  have key : BitVec.ofInt 64 (a : Int) &&& ~~~BitVec.ofInt 64 (b : Int) = 0#64 ↔ a &&& b = a := by
    have e1 : BitVec.ofInt 64 (a : Int) = BitVec.ofNat 64 a := by apply BitVec.eq_of_toNat_eq; rw [BitVec.toNat_ofInt, BitVec.toNat_ofNat]; omega
    have e2 : BitVec.ofInt 64 (b : Int) = BitVec.ofNat 64 b := by apply BitVec.eq_of_toNat_eq; rw [BitVec.toNat_ofInt, BitVec.toNat_ofNat]; omega
    rw [e1, e2]
    constructor
    · intro h
      apply Nat.eq_of_testBit_eq
      intro i
      by_cases hi : i < 64
      · have := congrArg (fun v : BitVec 64 => v.getLsbD i) h
        simp only [BitVec.getLsbD_and, BitVec.getLsbD_not, BitVec.getLsbD_ofNat, hi, decide_true, Bool.true_and, BitVec.getLsbD_zero] at this
        rw [Nat.testBit_and]
        cases h1 : a.testBit i <;> cases h2 : b.testBit i <;> simp_all
      · rw [Nat.testBit_and, Nat.testBit_lt_two_pow (x := a) (Nat.lt_of_lt_of_le ha (Nat.le_trans (by decide : 4294967296 ≤ 2 ^ 64) (Nat.pow_le_pow_right (by decide) (by omega))))]; simp
    · intro h
      apply BitVec.eq_of_getLsbD_eq
      intro i hi
      have := congrArg (fun v : Nat => v.testBit i) h
      simp only [Nat.testBit_and] at this
      simp only [BitVec.getLsbD_and, BitVec.getLsbD_not, BitVec.getLsbD_ofNat, hi, decide_true, Bool.true_and, BitVec.getLsbD_zero]
      cases h1 : a.testBit i <;> cases h2 : b.testBit i <;> simp_all
  have h := inM_iff (x := (a : Int)) (m := (b : Int))
  rw [key, ← subN_iff] at h
  cases h1 : inM (a : Int) (b : Int) <;> cases h2 : subN a b <;> simp_all
def allHas : Bool := (List.range 64).all fun j => (List.range 64).all fun k => decide ((prOf j).all (hasP (prOf k)) = subN j k)
set_option maxRecDepth 100000 in
theorem allHas_true : allHas = true := by kernel_rfl
theorem has_sub {j k : Nat} (hj : j < 64) (hk : k < 64) : (prOf j).all (hasP (prOf k)) = subN j k := by
  have h := allHas_true
  unfold allHas at h
  exact of_decide_eq_true (List.all_eq_true.1 (List.all_eq_true.1 h j (List.mem_range.2 hj)) k (List.mem_range.2 hk))
theorem leqS_nm {m n : Nm} (hm : m.ok) (hn : n.ok) : leqS m.sy n.sy (leqB m.t n.t) = m.leq n := by
  unfold leqS leqQ Nm.leq Nm.sy
  dsimp only
  rw [has_sub hm.k hn.k, inM_nat (and_lt hm.T (by decide)) (and_lt hn.T (by decide)), inM_nat (and_lt hm.L (by decide)) (and_lt hn.L (by decide)), inM_nat (and_lt hn.O (by decide)) (and_lt hm.O (by decide))]
  have e : decide ((m.c : Int) ≤ (n.c : Int)) = decide (m.c ≤ n.c) := by
    by_cases h : m.c ≤ n.c
    · rw [decide_eq_true h, decide_eq_true (by omega)]
    · rw [decide_eq_false h, decide_eq_false (by omega)]
  rw [e]
  simp only [decide_true, Bool.true_and, Bool.and_assoc]
theorem leqN_fc {m n : Nm} (hm : m.ok) (hn : n.ok) : FC Tryz.prog gs 12 [.agg m.sy.cl, .agg n.sy.cl] [] (.val (.bool (m.leq n))) [] NoP := by
  have l1 := prOf_len m.k
  have l2 := prOf_len n.k
  have c := leq_fc m.sy n.sy m.t n.t hm.t hn.t rfl rfl (by show (prOf m.k).length ≤ 1000; omega) (by show (prOf n.k).length ≤ 1000; omega) (prOf_bd _ hm.k) (prOf_bd _ hn.k)
  rw [leqS_nm hm hn] at c
  exact lift c
theorem joinN_fc {m n : Nm} (hm : m.ok) (hn : n.ok) : FC Tryz.prog gs 14 [.agg m.sy.cl, .agg n.sy.cl] [] (.agg (m.join n).sy.cl) [] NoP := lift (join_fc m n hm hn)
theorem valid_nf {t : Tr} (h : t.bd) (hm : t.mask < 256) : validB (nf t) = true := by
  have h1 := h.lo31; have h2 := h.hi31; have h3 := h.toOk.le; have h4 := h.m0
  unfold nf
  by_cases e : t.lo = t.hi
  · rw [if_pos e]
    have hb : badB t.lo t.lo 1 t.mask = false := by unfold badB; simp; omega
    unfold validB
    dsimp only
    rw [hb]; simp
  · rw [if_neg e]
    have hg : 0 < t.g := by
      have := h.toOk.g
      have : t.g ≠ 0 := fun k => e (h.toOk.z.1 k)
      omega
    have hle : t.g ≤ t.hi - t.lo := Int.le_of_dvd (by omega) h.toOk.d
    have hb : badB t.lo t.hi t.g t.mask = false := by unfold badB; simp; omega
    unfold validB
    dsimp only
    rw [hb, if_neg e, decide_eq_true hle, Bool.true_and]
    simp only [Bool.false_eq_true, if_false]
    rw [decide_eq_true_iff]
    unfold abBy
    dsimp only
    rw [if_pos hg, Int.tmod_eq_zero_of_dvd h.toOk.d, Int.sub_zero, if_neg e, smod_eq _ _ hg]
theorem bits_nat {a m : Nat} (h : a &&& m = a) (hm : m < 4294967296) : bitsB (a : Int) (m : Int) = true := by
  unfold bitsB
  rw [inM_nat (and_lt h hm) hm, subN_iff.2 h]
  simp
def pairsAll : Bool := (List.range 64).all fun k => pairsB true none (prOf k)
set_option maxRecDepth 100000 in
theorem pairsAll_true : pairsAll = true := by kernel_rfl
theorem right_nm {m : Nm} (hm : m.ok) (l : List Hd) (hh : (headF l 11).isSome = true) : rightB l m.sy = true := by
  have hp := prOf_len m.k
  unfold rightB frontB Nm.sy
  dsimp only
  rw [hh, valid_nf hm.t hm.m8, show bitsB (m.T : Int) 4294967294 = true from bits_nat hm.T (by decide), show bitsB (m.L : Int) 7 = true from bits_nat hm.L (by decide), show bitsB (m.O : Int) 7 = true from bits_nat hm.O (by decide), decide_eq_true (show (0 : Int) ≤ (m.c : Int) by omega), decide_eq_true (show (m.c : Int) ≤ 1099511627776 by have := hm.c; omega), decide_eq_true (show ((prOf m.k).length : Int) ≤ 56 by omega)]
  have h := pairsAll_true
  unfold pairsAll at h
  exact List.all_eq_true.1 h m.k (List.mem_range.2 hm.k)
theorem rightN_fc (p : Pg) (hp : p.dc = dcM) (hn : p.heads.length ≤ 1000) {m : Nm} (hm : m.ok) (hh : (headF p.heads 11).isSome = true) : FC Tryz.prog gs 10 [.agg (pgC p), .agg m.sy.cl] [] (i64 0) [] NoP := by
  have l1 := prOf_len m.k
  have c := right_fc p hp hn m.sy (by show (prOf m.k).length ≤ 1000; omega)
  rw [right_nm hm p.heads hh] at c
  exact lift c
theorem head11 (L : List Int) : (headF (gMade L).heads 11).isSome = true := by
  obtain ⟨n, h⟩ := gMade_ids L
  unfold headF
  rw [List.find?_isSome]
  have : (11 : Int) ∈ (gMade L).heads.map Hd.id := by
    rw [h, List.mem_map]
    exact ⟨11, by rw [List.mem_range']; exact ⟨0, by omega, by omega⟩, rfl⟩
  obtain ⟨x, hx, e⟩ := List.mem_map.1 this
  exact ⟨x, hx, by simpa using e⟩
theorem heads_len {L : List Int} (h : PgOk (gMade L)) : (gMade L).heads.length ≤ 1000 := by
  rw [h.hs, List.length_map]; have := h.n; omega
end Go.Proofs.YtifeioddiddnoaaGreatDoor
namespace Go.Proofs.YtifeioddiddnoaaGreatDoor
open Go.Abs Go Go.RowKit
set_option maxRecDepth 20000
theorem top14_fc (p : Pg) (id : Int) (t : Sy) (e : Int) (c : FC Tryz.prog gs 39 [.agg (pgC p), i64 id] [] (.tup [.agg t.cl, i64 e]) [] NoP) : FC Tryz.prog gs 11 [.agg (pgC p), i64 id] [] (mdA (t, e)) [] NoP := by
  refine FC.of_AW tok Tryz.func11 (by kernel_rfl) rfl Tryz.ntmps11 [] rfl rfl rfl ?_; intro w0 X0 Y f0 hI0 hX0
  (repeat (first | ((with_reducible show RG _ _ _ _ _ _ _ _); first | refine K1 ?_ | refine K2 ?_ | refine K3 ?_ | refine K4 ?_ | refine K5 ?_ | refine K6 ?_ | refine K7 ?_ | refine L1 ?_ | refine L2 ?_ | refine L3 ?_ | refine RG.d ?_ | refine RG.dd ?_) | refine S1 ?_ | refine S2 ?_ | refine S3 ?_ | refine S4 ?_ | refine S5 ?_ | refine S7 ?_ | refine S8 ?_))
  refine RG.call rfl rfl rfl rfl (c) [] rfl rfl rfl rfl (.nil _) (.nil _) (fun _ h => False.elim h) rfl (A.ren_free _ _ rfl) rfl ?_
  (repeat (first | ((with_reducible show RG _ _ _ _ _ _ _ _); first | refine K1 ?_ | refine K2 ?_ | refine K3 ?_ | refine K4 ?_ | refine K5 ?_ | refine K6 ?_ | refine K7 ?_ | refine L1 ?_ | refine L2 ?_ | refine L3 ?_ | refine RG.d ?_ | refine RG.dd ?_) | refine S1 ?_ | refine S2 ?_ | refine S3 ?_ | refine S4 ?_ | refine S5 ?_ | refine S6 ?_ | refine S7 ?_ | refine S8 ?_))
  exact ⟨⟨_, rfl, rfl⟩, rfl, .nil _⟩
end Go.Proofs.YtifeioddiddnoaaGreatDoor
namespace Go.Proofs.YtifeioddiddnoaaGreatDoor
open Go.Abs Go Go.RowKit
theorem wf8 {z : Int} (h : (Lit.int .u8 z).wf = true) : 0 ≤ z ∧ z ≤ 255 := by
  have h' := (Lit.wf_int_iff _ _).1 h
  have e0 : IntKind.u8.min = 0 := by decide
  have e1 : IntKind.u8.max = 255 := by decide
  omega
theorem wf16 {z : Int} (h : (Lit.int .u16 z).wf = true) : ∃ n : Nat, z = n ∧ n ≤ 65535 := by
  have h' := (Lit.wf_int_iff _ _).1 h
  have e0 : IntKind.u16.min = 0 := by decide
  have e1 : IntKind.u16.max = 65535 := by decide
  exact ⟨z.toNat, by omega, by omega⟩
theorem wf64 {z : Int} (h : (Lit.int .i64 z).wf = true) : -9223372036854775808 ≤ z ∧ z ≤ 9223372036854775807 := by
  have h' := (Lit.wf_int_iff _ _).1 h
  have e0 : IntKind.i64.min = -9223372036854775808 := by decide
  have e1 : IntKind.i64.max = 9223372036854775807 := by decide
  exact ⟨by omega, by omega⟩
def fOf (k0 k1 k2 k3 k4 k5 k6 k7 : Nat) : Nat → Nat
  | 0 => k0 | 1 => k1 | 2 => k2 | 3 => k3 | 4 => k4 | 5 => k5 | 6 => k6 | 7 => k7 | _ => 0
theorem fOf_le {k0 k1 k2 k3 k4 k5 k6 k7 : Nat} (h0 : k0 ≤ 65535) (h1 : k1 ≤ 65535) (h2 : k2 ≤ 65535) (h3 : k3 ≤ 65535) (h4 : k4 ≤ 65535) (h5 : k5 ≤ 65535) (h6 : k6 ≤ 65535) (h7 : k7 ≤ 65535) : ∀ i, fOf k0 k1 k2 k3 k4 k5 k6 k7 i ≤ 65535 := by
  intro i; unfold fOf; split <;> omega
theorem n8_open {d : Dd} (h : Dd.Ty Tryz.prog 26 d) : ∃ f : Nat → Nat, d.cells = n8 f ∧ d.aw = .agg (n8 f) ∧ ∀ i, f i ≤ 65535 := by
  obtain ⟨l, rfl, h1, h2⟩ := h.arr_inv Tryz.underlying26
  match l, h1, h2 with
  | [a0, a1, a2, a3, a4, a5, a6, a7], _, h2 =>
    have g := fun (x : Dd) (hx : x ∈ [a0, a1, a2, a3, a4, a5, a6, a7]) => (h2 x hx).int_inv Tryz.underlying25
    obtain ⟨k0, rfl, w0⟩ := g a0 (by simp)
    obtain ⟨k1, rfl, w1⟩ := g a1 (by simp)
    obtain ⟨k2, rfl, w2⟩ := g a2 (by simp)
    obtain ⟨k3, rfl, w3⟩ := g a3 (by simp)
    obtain ⟨k4, rfl, w4⟩ := g a4 (by simp)
    obtain ⟨k5, rfl, w5⟩ := g a5 (by simp)
    obtain ⟨k6, rfl, w6⟩ := g a6 (by simp)
    obtain ⟨k7, rfl, w7⟩ := g a7 (by simp)
    obtain ⟨m0, rfl, b0⟩ := wf16 w0
    obtain ⟨m1, rfl, b1⟩ := wf16 w1
    obtain ⟨m2, rfl, b2⟩ := wf16 w2
    obtain ⟨m3, rfl, b3⟩ := wf16 w3
    obtain ⟨m4, rfl, b4⟩ := wf16 w4
    obtain ⟨m5, rfl, b5⟩ := wf16 w5
    obtain ⟨m6, rfl, b6⟩ := wf16 w6
    obtain ⟨m7, rfl, b7⟩ := wf16 w7
    exact ⟨fOf m0 m1 m2 m3 m4 m5 m6 m7, rfl, rfl, fOf_le b0 b1 b2 b3 b4 b5 b6 b7⟩
theorem nums_open {d : Dd} (h : Dd.Ty Tryz.prog 28 d) : ∃ (L : List Int) (f g : Nat → Nat), d.aw = .agg (.ro L.length (ints .u8 L) :: (n8 f ++ n8 g)) ∧ L.length ≤ 9223372036854775807 ∧ (∀ x, x ∈ L → 0 ≤ x ∧ x ≤ 255) ∧ (∀ i, f i ≤ 65535) ∧ ∀ i, g i ≤ 65535 := by
  obtain ⟨l, rfl, g1, g2⟩ := h.st_inv Tryz.underlying28
  obtain ⟨x, a, b, rfl⟩ : ∃ x a b, l = [x, a, b] := by
    match l, g1 with
    | [x, a, b], _ => exact ⟨x, a, b, rfl⟩
  have hx : Dd.Ty Tryz.prog 24 x := g2 0 _ x rfl rfl
  have ha : Dd.Ty Tryz.prog 26 a := g2 1 _ a rfl rfl
  have hb : Dd.Ty Tryz.prog 26 b := g2 2 _ b rfl rfl
  obtain ⟨l, rfl, g1, g2⟩ := hx.st_inv Tryz.underlying24
  obtain ⟨y, rfl⟩ : ∃ y, l = [y] := by
    match l, g1 with
    | [y], _ => exact ⟨y, rfl⟩
  have hy : Dd.Ty Tryz.prog 22 y := g2 0 _ y rfl rfl
  obtain ⟨xs, e2, lB, lx⟩ := hy.ints_inv Tryz.underlying22 Tryz.underlying5
  obtain ⟨f, ef, -, bf⟩ := n8_open ha
  obtain ⟨g, eg, -, bg⟩ := n8_open hb
  refine ⟨xs, f, g, ?_, lB, fun x hx => wf8 (lx x hx), bf, bg⟩
  show A.agg (Dd.cellsL [.agg [y], a, b]) = _
  rw [Dd.cellsL, Dd.cellsL, Dd.cellsL, Dd.cellsL, ef, eg]
  have : (Dd.agg [y]).cells = [rdI .u8 xs] := by
    show Dd.cellsL [y] = _
    rw [Dd.cellsL, Dd.cellsL, e2]; rfl
  rw [this, List.append_nil]; rfl
abbrev Says (F : FuncId) (vs : Array Value) (W : World) : Prop := Calls Tryz.prog F vs W fun e w' => e = .returned (.bool true) ∧ Below W.heap.size W w'
end Go.Proofs.YtifeioddiddnoaaGreatDoor
