/- The maker of programs: the next number and the next site while a definition is made. No conditions. -/
import Derived.Test.YtifeioddiddnoaaGreatDoorEc36
import Derived.Test.YtifeioddiddnoaaGreatDoorEpB
set_option linter.unusedVariables false
set_option linter.unusedSimpArgs false
namespace Go.Proofs.YtifeioddiddnoaaGreatDoor
open Go.Abs Go Go.RowKit
set_option maxRecDepth 20000
theorem ldM_at {L : List (Nat × TI)} {t : TypeId} {k3 : TK} {bs : Nat} {z : List A} (ht : Abs.look L t = some ⟨k3, 1, bs, false, z⟩) {h : Nat → Reg} {k off : Nat} {c c1 : List A} {v : A} (hk : h k = .one c) (hd : dropO off c = some (v :: c1)) : ldA L t (.ptr k [] off) h = some (v, [k]) := by
  simp only [ldA, ht, hk, Reg.get, hd, ldO, packA, Bool.false_eq_true, if_false]
theorem ldM_row {L : List (Nat × TI)} {t : TypeId} {k3 : TK} {st bs : Nat} {z : List A} (ht : Abs.look L t = some ⟨k3, st, bs, true, z⟩) {h : Nat → Reg} {k off : Nat} {c c1 l : List A} (hk : h k = .one c) (hd : dropO off c = some c1) (hl : ldO st c1 = some l) : ldA L t (.ptr k [] off) h = some (.agg l, [k]) := by
  simp only [ldA, ht, hk, Reg.get, hd, hl, packA]
/-- The maker's cells when its definition does not matter. -/
def mD (E : Ev) (t1 : A) (s : Ms) : List A := [.ro E.L.length (ints .u8 E.L), i64 (s.a : Int), gA1, gA2, gA3, gA4, i64 3, i64 3, i64 2, hsA E, dsA E, t1,
  .any, .any, .any, .any, .any, .any, .any, .any, .any, .any, .any, .any,
  i64 (s.site : Int), i64 (s.left : Int), i64 (s.loop : Int), i64 (s.done : Int), .val (.bool false)]
theorem nxA_fc (E : Ev) (hL : ∀ x, x ∈ E.L → 0 ≤ x ∧ x ≤ 255) (hl : E.L.length ≤ 9223372036854775807) (n : Nat) (hn : 0 < n) (hn2 : n ≤ 1000) (s : Ms) (hs : s.t ≤ 2000000) :
    FC Tryz.prog ge 95 [.ptr 0 [] 0, i64 (n : Int)] [.one (mD E nilA s), .one (hsC E), .one (dsC E)] (i64 ((gN E n s).1 : Int)) [.one (mD E nilA (gN E n s).2), .one (hsC E), .one (dsC E)] NoP := by
  obtain ⟨L, hs0, ds, D⟩ := E
  obtain ⟨a, site, left, loop, done⟩ := s
  dsimp only at hL hl
  have ha : a ≤ 2000000 := by have : a + site ≤ 2000000 := hs; omega
  clear hs
  by_cases h : a < L.length
  · obtain ⟨x, hx⟩ : ∃ x, L[a]? = some x := ⟨_, List.getElem?_eq_getElem h⟩
    have hxb := hL x (List.mem_of_getElem? hx)
    have hat := ints_cut L a x hx .u8
    obtain ⟨y, hy⟩ : ∃ y : Nat, y = x.toNat % n := ⟨_, rfl⟩
    rw [show gN ⟨L, hs0, ds, D⟩ n ⟨a, site, left, loop, done⟩ = (y, ⟨a + 1, site, left, loop, done⟩) by
      unfold gN; dsimp only; rw [if_pos h, hy]; simp [List.getD, hx]]
    obtain ⟨z, rfl⟩ : ∃ z : Nat, x = z := ⟨x.toNat, by omega⟩
    rw [Int.toNat_natCast] at hy
    subst hy
    dsimp only [mD]
    refine FC.of_AW tok Tryz.func95 (by kernel_rfl) rfl Tryz.ntmps95 [] rfl rfl rfl ?_; intro w0 X0 Y f0 hI0 hX0
    (repeat (first | refine K2 ?_ | refine K4 ?_ | refine L1 ?_ | refine L3 ?_ | refine RG.d ?_ | refine RG.dd ?_ | refine S1 ?_ | refine S2 ?_))
    refine AW.condD rfl (fun k => absurd (show (L.length : Int) < (a : Int) + 1 from k) (by omega)) (fun _ => ?_)
    (repeat (first | refine K2 ?_ | refine K4 ?_ | refine L1 ?_ | refine S1 ?_ | refine S2 ?_ | refine S3 ?_))
    refine RG.put 30 rfl (v' := i64 (a : Int)) (by rw [show (a : Int) + 1 - 1 = (a : Int) by omega]) ?_
    refine RG.idx tok rfl rfl rfl rfl rfl rfl hat ⟨by omega, by omega⟩ rfl ?_
    (repeat (first | refine K2 ?_ | refine K4 ?_ | refine K5 ?_ | refine L1 ?_ | refine RG.dd ?_ | refine S6 ?_))
    exact ⟨⟨_, rfl, rfl⟩, rfl, .cons rfl (.one rfl) (Reg.lt_one rfl) ⟨[], _, rfl⟩ (.one rfl (hsC_free _) (.one rfl (dsC_free _) (.nil _)))⟩
  · rw [show gN ⟨L, hs0, ds, D⟩ n ⟨a, site, left, loop, done⟩ = (0, ⟨a + 1, site, left, loop, done⟩) by
      unfold gN; dsimp only; rw [if_neg h]]
    dsimp only [mD]
    refine FC.of_AW tok Tryz.func95 (by kernel_rfl) rfl Tryz.ntmps95 [] rfl rfl rfl ?_; intro w0 X0 Y f0 hI0 hX0
    (repeat (first | refine K2 ?_ | refine K4 ?_ | refine L1 ?_ | refine L3 ?_ | refine RG.d ?_ | refine RG.dd ?_ | refine S1 ?_ | refine S2 ?_))
    refine AW.condD rfl (fun _ => ?_) (fun k => absurd (show (L.length : Int) < (a : Int) + 1 by omega) k)
    (repeat (first | refine K4 ?_ | refine RG.d ?_ | refine S1 ?_ | refine S2 ?_ | refine S6 ?_))
    exact ⟨⟨_, rfl, rfl⟩, rfl, .cons rfl (.one rfl) (Reg.lt_one rfl) ⟨[], _, rfl⟩ (.one rfl (hsC_free _) (.one rfl (dsC_free _) (.nil _)))⟩
theorem nxB_fc (E : Ev) (nt : Nat) (T : List Int) (hL : ∀ x, x ∈ E.L → 0 ≤ x ∧ x ≤ 255) (hl : E.L.length ≤ 9223372036854775807) (n : Nat) (hn : 0 < n) (hn2 : n ≤ 1000) (s : Ms) (hs : s.t ≤ 2000000) :
    FC Tryz.prog ge 95 [.ptr 0 [] 0, i64 (n : Int)] [.one (mD E (.ro nt (ints .i64 T)) s), .one (hsC E), .one (dsC E)] (i64 ((gN E n s).1 : Int)) [.one (mD E (.ro nt (ints .i64 T)) (gN E n s).2), .one (hsC E), .one (dsC E)] NoP := by
  obtain ⟨L, hs0, ds, D⟩ := E
  obtain ⟨a, site, left, loop, done⟩ := s
  dsimp only at hL hl
  have ha : a ≤ 2000000 := by have : a + site ≤ 2000000 := hs; omega
  clear hs
  by_cases h : a < L.length
  · obtain ⟨x, hx⟩ : ∃ x, L[a]? = some x := ⟨_, List.getElem?_eq_getElem h⟩
    have hxb := hL x (List.mem_of_getElem? hx)
    have hat := ints_cut L a x hx .u8
    obtain ⟨y, hy⟩ : ∃ y : Nat, y = x.toNat % n := ⟨_, rfl⟩
    rw [show gN ⟨L, hs0, ds, D⟩ n ⟨a, site, left, loop, done⟩ = (y, ⟨a + 1, site, left, loop, done⟩) by
      unfold gN; dsimp only; rw [if_pos h, hy]; simp [List.getD, hx]]
    obtain ⟨z, rfl⟩ : ∃ z : Nat, x = z := ⟨x.toNat, by omega⟩
    rw [Int.toNat_natCast] at hy
    subst hy
    dsimp only [mD]
    refine FC.of_AW tok Tryz.func95 (by kernel_rfl) rfl Tryz.ntmps95 [] rfl rfl rfl ?_; intro w0 X0 Y f0 hI0 hX0
    (repeat (first | refine K2 ?_ | refine K4 ?_ | refine L1 ?_ | refine L3 ?_ | refine RG.d ?_ | refine RG.dd ?_ | refine S1 ?_ | refine S2 ?_))
    refine AW.condD rfl (fun k => absurd (show (L.length : Int) < (a : Int) + 1 from k) (by omega)) (fun _ => ?_)
    (repeat (first | refine K2 ?_ | refine K4 ?_ | refine L1 ?_ | refine S1 ?_ | refine S2 ?_ | refine S3 ?_))
    refine RG.put 30 rfl (v' := i64 (a : Int)) (by rw [show (a : Int) + 1 - 1 = (a : Int) by omega]) ?_
    refine RG.idx tok rfl rfl rfl rfl rfl rfl hat ⟨by omega, by omega⟩ rfl ?_
    (repeat (first | refine K2 ?_ | refine K4 ?_ | refine K5 ?_ | refine L1 ?_ | refine RG.dd ?_ | refine S6 ?_))
    exact ⟨⟨_, rfl, rfl⟩, rfl, .cons rfl (.one rfl) (Reg.lt_one rfl) ⟨[], _, rfl⟩ (.one rfl (hsC_free _) (.one rfl (dsC_free _) (.nil _)))⟩
  · rw [show gN ⟨L, hs0, ds, D⟩ n ⟨a, site, left, loop, done⟩ = (0, ⟨a + 1, site, left, loop, done⟩) by
      unfold gN; dsimp only; rw [if_neg h]]
    dsimp only [mD]
    refine FC.of_AW tok Tryz.func95 (by kernel_rfl) rfl Tryz.ntmps95 [] rfl rfl rfl ?_; intro w0 X0 Y f0 hI0 hX0
    (repeat (first | refine K2 ?_ | refine K4 ?_ | refine L1 ?_ | refine L3 ?_ | refine RG.d ?_ | refine RG.dd ?_ | refine S1 ?_ | refine S2 ?_))
    refine AW.condD rfl (fun _ => ?_) (fun k => absurd (show (L.length : Int) < (a : Int) + 1 by omega) k)
    (repeat (first | refine K4 ?_ | refine RG.d ?_ | refine S1 ?_ | refine S2 ?_ | refine S6 ?_))
    exact ⟨⟨_, rfl, rfl⟩, rfl, .cons rfl (.one rfl) (Reg.lt_one rfl) ⟨[], _, rfl⟩ (.one rfl (hsC_free _) (.one rfl (dsC_free _) (.nil _)))⟩
theorem nxC_fc (E : Ev) (np : Nat) (P : List A) (hP : ltL 0 P = true) (hL : ∀ x, x ∈ E.L → 0 ≤ x ∧ x ≤ 255) (hl : E.L.length ≤ 9223372036854775807) (n : Nat) (hn : 0 < n) (hn2 : n ≤ 1000) (s : Ms) (hs : s.t ≤ 2000000) :
    FC Tryz.prog ge 95 [.ptr 0 [] 0, i64 (n : Int)] [.one (mX E (hsA E) (dsA E) nilA (.sl 3 [] 3 0 np) (arA E) s), .one (hsC E), .one (dsC E), .one (P)] (i64 ((gN E n s).1 : Int)) [.one (mX E (hsA E) (dsA E) nilA (.sl 3 [] 3 0 np) (arA E) (gN E n s).2), .one (hsC E), .one (dsC E), .one (P)] NoP := by
  obtain ⟨L, hs0, ds, D⟩ := E
  obtain ⟨a, site, left, loop, done⟩ := s
  dsimp only at hL hl
  have ha : a ≤ 2000000 := by have : a + site ≤ 2000000 := hs; omega
  clear hs
  by_cases h : a < L.length
  · obtain ⟨x, hx⟩ : ∃ x, L[a]? = some x := ⟨_, List.getElem?_eq_getElem h⟩
    have hxb := hL x (List.mem_of_getElem? hx)
    have hat := ints_cut L a x hx .u8
    obtain ⟨y, hy⟩ : ∃ y : Nat, y = x.toNat % n := ⟨_, rfl⟩
    rw [show gN ⟨L, hs0, ds, D⟩ n ⟨a, site, left, loop, done⟩ = (y, ⟨a + 1, site, left, loop, done⟩) by
      unfold gN; dsimp only; rw [if_pos h, hy]; simp [List.getD, hx]]
    obtain ⟨z, rfl⟩ : ∃ z : Nat, x = z := ⟨x.toNat, by omega⟩
    rw [Int.toNat_natCast] at hy
    subst hy
    dsimp only [mX]
    refine FC.of_AW tok Tryz.func95 (by kernel_rfl) rfl Tryz.ntmps95 [] rfl rfl rfl ?_; intro w0 X0 Y f0 hI0 hX0
    (repeat (first | refine K2 ?_ | refine K4 ?_ | refine L1 ?_ | refine L3 ?_ | refine RG.d ?_ | refine RG.dd ?_ | refine S1 ?_ | refine S2 ?_))
    refine AW.condD rfl (fun k => absurd (show (L.length : Int) < (a : Int) + 1 from k) (by omega)) (fun _ => ?_)
    (repeat (first | refine K2 ?_ | refine K4 ?_ | refine L1 ?_ | refine S1 ?_ | refine S2 ?_ | refine S3 ?_))
    refine RG.put 30 rfl (v' := i64 (a : Int)) (by rw [show (a : Int) + 1 - 1 = (a : Int) by omega]) ?_
    refine RG.idx tok rfl rfl rfl rfl rfl rfl hat ⟨by omega, by omega⟩ rfl ?_
    (repeat (first | refine K2 ?_ | refine K4 ?_ | refine K5 ?_ | refine L1 ?_ | refine RG.dd ?_ | refine S6 ?_))
    exact ⟨⟨_, rfl, rfl⟩, rfl, .cons rfl (.one rfl) (Reg.lt_one rfl) ⟨[], _, rfl⟩ (.one rfl (hsC_free _) (.one rfl (dsC_free _) (.one rfl hP (.nil _))))⟩
  · rw [show gN ⟨L, hs0, ds, D⟩ n ⟨a, site, left, loop, done⟩ = (0, ⟨a + 1, site, left, loop, done⟩) by
      unfold gN; dsimp only; rw [if_neg h]]
    dsimp only [mX]
    refine FC.of_AW tok Tryz.func95 (by kernel_rfl) rfl Tryz.ntmps95 [] rfl rfl rfl ?_; intro w0 X0 Y f0 hI0 hX0
    (repeat (first | refine K2 ?_ | refine K4 ?_ | refine L1 ?_ | refine L3 ?_ | refine RG.d ?_ | refine RG.dd ?_ | refine S1 ?_ | refine S2 ?_))
    refine AW.condD rfl (fun _ => ?_) (fun k => absurd (show (L.length : Int) < (a : Int) + 1 by omega) k)
    (repeat (first | refine K4 ?_ | refine RG.d ?_ | refine S1 ?_ | refine S2 ?_ | refine S6 ?_))
    exact ⟨⟨_, rfl, rfl⟩, rfl, .cons rfl (.one rfl) (Reg.lt_one rfl) ⟨[], _, rfl⟩ (.one rfl (hsC_free _) (.one rfl (dsC_free _) (.one rfl hP (.nil _))))⟩
theorem nxE_fc (E : Ev) (hL : ∀ x, x ∈ E.L → 0 ≤ x ∧ x ≤ 255) (hl : E.L.length ≤ 9223372036854775807) (n : Nat) (hn : 0 < n) (hn2 : n ≤ 1000) (s : Ms) (hs : s.t ≤ 2000000) :
    FC Tryz.prog ge 95 [.ptr 0 [] 0, i64 (n : Int)] [.one (mX E (hsA E) (dsA E) nilA nilA (arA E) s), .one (hsC E), .one (dsC E)] (i64 ((gN E n s).1 : Int)) [.one (mX E (hsA E) (dsA E) nilA nilA (arA E) (gN E n s).2), .one (hsC E), .one (dsC E)] NoP := by
  obtain ⟨L, hs0, ds, D⟩ := E
  obtain ⟨a, site, left, loop, done⟩ := s
  dsimp only at hL hl
  have ha : a ≤ 2000000 := by have : a + site ≤ 2000000 := hs; omega
  clear hs
  by_cases h : a < L.length
  · obtain ⟨x, hx⟩ : ∃ x, L[a]? = some x := ⟨_, List.getElem?_eq_getElem h⟩
    have hxb := hL x (List.mem_of_getElem? hx)
    have hat := ints_cut L a x hx .u8
    obtain ⟨y, hy⟩ : ∃ y : Nat, y = x.toNat % n := ⟨_, rfl⟩
    rw [show gN ⟨L, hs0, ds, D⟩ n ⟨a, site, left, loop, done⟩ = (y, ⟨a + 1, site, left, loop, done⟩) by
      unfold gN; dsimp only; rw [if_pos h, hy]; simp [List.getD, hx]]
    obtain ⟨z, rfl⟩ : ∃ z : Nat, x = z := ⟨x.toNat, by omega⟩
    rw [Int.toNat_natCast] at hy
    subst hy
    dsimp only [mX]
    refine FC.of_AW tok Tryz.func95 (by kernel_rfl) rfl Tryz.ntmps95 [] rfl rfl rfl ?_; intro w0 X0 Y f0 hI0 hX0
    (repeat (first | refine K2 ?_ | refine K4 ?_ | refine L1 ?_ | refine L3 ?_ | refine RG.d ?_ | refine RG.dd ?_ | refine S1 ?_ | refine S2 ?_))
    refine AW.condD rfl (fun k => absurd (show (L.length : Int) < (a : Int) + 1 from k) (by omega)) (fun _ => ?_)
    (repeat (first | refine K2 ?_ | refine K4 ?_ | refine L1 ?_ | refine S1 ?_ | refine S2 ?_ | refine S3 ?_))
    refine RG.put 30 rfl (v' := i64 (a : Int)) (by rw [show (a : Int) + 1 - 1 = (a : Int) by omega]) ?_
    refine RG.idx tok rfl rfl rfl rfl rfl rfl hat ⟨by omega, by omega⟩ rfl ?_
    (repeat (first | refine K2 ?_ | refine K4 ?_ | refine K5 ?_ | refine L1 ?_ | refine RG.dd ?_ | refine S6 ?_))
    exact ⟨⟨_, rfl, rfl⟩, rfl, .cons rfl (.one rfl) (Reg.lt_one rfl) ⟨[], _, rfl⟩ (.one rfl (hsC_free _) (.one rfl (dsC_free _) (.nil _)))⟩
  · rw [show gN ⟨L, hs0, ds, D⟩ n ⟨a, site, left, loop, done⟩ = (0, ⟨a + 1, site, left, loop, done⟩) by
      unfold gN; dsimp only; rw [if_neg h]]
    dsimp only [mX]
    refine FC.of_AW tok Tryz.func95 (by kernel_rfl) rfl Tryz.ntmps95 [] rfl rfl rfl ?_; intro w0 X0 Y f0 hI0 hX0
    (repeat (first | refine K2 ?_ | refine K4 ?_ | refine L1 ?_ | refine L3 ?_ | refine RG.d ?_ | refine RG.dd ?_ | refine S1 ?_ | refine S2 ?_))
    refine AW.condD rfl (fun _ => ?_) (fun k => absurd (show (L.length : Int) < (a : Int) + 1 by omega) k)
    (repeat (first | refine K4 ?_ | refine RG.d ?_ | refine S1 ?_ | refine S2 ?_ | refine S6 ?_))
    exact ⟨⟨_, rfl, rfl⟩, rfl, .cons rfl (.one rfl) (Reg.lt_one rfl) ⟨[], _, rfl⟩ (.one rfl (hsC_free _) (.one rfl (dsC_free _) (.nil _)))⟩
theorem nxD_fc (E : Ev) (hL : ∀ x, x ∈ E.L → 0 ≤ x ∧ x ≤ 255) (hl : E.L.length ≤ 9223372036854775807) (n : Nat) (hn : 0 < n) (hn2 : n ≤ 1000) (s : Ms) (hs : s.t ≤ 2000000) :
    FC Tryz.prog ge 95 [.ptr 0 [] 0, i64 (n : Int)] [.one (mX E (hsA E) (dsA E) nilA (paA E) (.sl 3 [] 2 0 1) s), .one (hsC E), .one (dsC E), .one ([i64 4, i64 0])] (i64 ((gN E n s).1 : Int)) [.one (mX E (hsA E) (dsA E) nilA (paA E) (.sl 3 [] 2 0 1) (gN E n s).2), .one (hsC E), .one (dsC E), .one ([i64 4, i64 0])] NoP := by
  obtain ⟨L, hs0, ds, D⟩ := E
  obtain ⟨a, site, left, loop, done⟩ := s
  dsimp only at hL hl
  have ha : a ≤ 2000000 := by have : a + site ≤ 2000000 := hs; omega
  clear hs
  by_cases h : a < L.length
  · obtain ⟨x, hx⟩ : ∃ x, L[a]? = some x := ⟨_, List.getElem?_eq_getElem h⟩
    have hxb := hL x (List.mem_of_getElem? hx)
    have hat := ints_cut L a x hx .u8
    obtain ⟨y, hy⟩ : ∃ y : Nat, y = x.toNat % n := ⟨_, rfl⟩
    rw [show gN ⟨L, hs0, ds, D⟩ n ⟨a, site, left, loop, done⟩ = (y, ⟨a + 1, site, left, loop, done⟩) by
      unfold gN; dsimp only; rw [if_pos h, hy]; simp [List.getD, hx]]
    obtain ⟨z, rfl⟩ : ∃ z : Nat, x = z := ⟨x.toNat, by omega⟩
    rw [Int.toNat_natCast] at hy
    subst hy
    dsimp only [mX]
    refine FC.of_AW tok Tryz.func95 (by kernel_rfl) rfl Tryz.ntmps95 [] rfl rfl rfl ?_; intro w0 X0 Y f0 hI0 hX0
    (repeat (first | refine K2 ?_ | refine K4 ?_ | refine L1 ?_ | refine L3 ?_ | refine RG.d ?_ | refine RG.dd ?_ | refine S1 ?_ | refine S2 ?_))
    refine AW.condD rfl (fun k => absurd (show (L.length : Int) < (a : Int) + 1 from k) (by omega)) (fun _ => ?_)
    (repeat (first | refine K2 ?_ | refine K4 ?_ | refine L1 ?_ | refine S1 ?_ | refine S2 ?_ | refine S3 ?_))
    refine RG.put 30 rfl (v' := i64 (a : Int)) (by rw [show (a : Int) + 1 - 1 = (a : Int) by omega]) ?_
    refine RG.idx tok rfl rfl rfl rfl rfl rfl hat ⟨by omega, by omega⟩ rfl ?_
    (repeat (first | refine K2 ?_ | refine K4 ?_ | refine K5 ?_ | refine L1 ?_ | refine RG.dd ?_ | refine S6 ?_))
    exact ⟨⟨_, rfl, rfl⟩, rfl, .cons rfl (.one rfl) (Reg.lt_one rfl) ⟨[], _, rfl⟩ (.one rfl (hsC_free _) (.one rfl (dsC_free _) (.one rfl rfl (.nil _))))⟩
  · rw [show gN ⟨L, hs0, ds, D⟩ n ⟨a, site, left, loop, done⟩ = (0, ⟨a + 1, site, left, loop, done⟩) by
      unfold gN; dsimp only; rw [if_neg h]]
    dsimp only [mX]
    refine FC.of_AW tok Tryz.func95 (by kernel_rfl) rfl Tryz.ntmps95 [] rfl rfl rfl ?_; intro w0 X0 Y f0 hI0 hX0
    (repeat (first | refine K2 ?_ | refine K4 ?_ | refine L1 ?_ | refine L3 ?_ | refine RG.d ?_ | refine RG.dd ?_ | refine S1 ?_ | refine S2 ?_))
    refine AW.condD rfl (fun _ => ?_) (fun k => absurd (show (L.length : Int) < (a : Int) + 1 by omega) k)
    (repeat (first | refine K4 ?_ | refine RG.d ?_ | refine S1 ?_ | refine S2 ?_ | refine S6 ?_))
    exact ⟨⟨_, rfl, rfl⟩, rfl, .cons rfl (.one rfl) (Reg.lt_one rfl) ⟨[], _, rfl⟩ (.one rfl (hsC_free _) (.one rfl (dsC_free _) (.one rfl rfl (.nil _))))⟩
theorem siteB_fc (E : Ev) (nb : Nat) (lb : List A) (s : Ms) (hs : s.t ≤ 2000000) : FC Tryz.prog ge 108 [.ptr 0 [] 0] [.one ((mC E s).set 23 (.ro nb lb)), .one (hsC E), .one (dsC E)] (i64 ((gS s).1 : Int)) [.one ((mC E (gS s).2).set 23 (.ro nb lb)), .one (hsC E), .one (dsC E)] NoP := by
  obtain ⟨L, hs0, ds, D⟩ := E
  obtain ⟨a, site, left, loop, done⟩ := s
  have ha : site ≤ 2000000 := by have : a + site ≤ 2000000 := hs; omega
  clear hs
  dsimp only [mC, mX, gS, List.set]
  refine FC.of_AW tok Tryz.func108 (by kernel_rfl) rfl Tryz.ntmps108 [] rfl rfl rfl ?_; intro w0 X0 Y f0 hI0 hX0
  (repeat (first | refine K2 ?_ | refine K4 ?_ | refine L1 ?_ | refine L3 ?_ | refine RG.d ?_ | refine S1 ?_ | refine S2 ?_ | refine S6 ?_))
  exact ⟨⟨_, rfl, rfl⟩, rfl, .cons rfl (.one rfl) (Reg.lt_one rfl) ⟨[], _, rfl⟩ (.one rfl (hsC_free _) (.one rfl (dsC_free _) (.nil _)))⟩
end Go.Proofs.YtifeioddiddnoaaGreatDoor
