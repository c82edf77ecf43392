/- The law MerkleMatchesReference: its call returns true. No conditions. -/
import Derived.Test.YtifpkhgcoopjnaaMerkleEx
import Derived.Test.YtifpkhgcoopjnaaMerkleRef4
import Derived.Test.YtifpkhgcoopjnaaMerkleRef6
import Derived.Test.YtifpkhgcoopjnaaOpen2
namespace Go.Proofs.Ytifpkhgcoopjnaa
open Go.RowKit

theorem eqPr6 (a b c d : Int) (w : World) : (Op.equalIn 9999 59 (.agg #[.int .u64 a, .int .u64 b]) (.agg #[.int .u64 c, .int .u64 d])).run Try.prog w = .ok (a == c && b == d) w := by
  have u3 := Try.underlying22
  have a3 := Try.isAgg22
  have z3 := Try.sizeOf22
  rw [show (9999 : Nat) = 9998 + 1 from rfl, Op.equalIn]
  simp only [Sem.run_bind, run_underlying Try.underlying59, Result.andThen_ok]
  simp only [Std.Legacy.Range.forIn_eq_forIn_range', Std.Legacy.Range.size, Nat.sub_zero, Nat.add_sub_cancel, Nat.div_one, List.range'_succ, List.range'_zero, List.forIn_cons, List.forIn_nil]
  go_simp
  by_cases h1 : a = c <;> by_cases h2 : b = d <;> simp [h1, h2]
theorem eqPP (a b c d a' b' c' d' : Int) (w : World) : (Op.equalIn 10000 60 (.agg #[.int .u64 a, .int .u64 b, .int .u64 c, .int .u64 d]) (.agg #[.int .u64 a', .int .u64 b', .int .u64 c', .int .u64 d'])).run Try.prog w = .ok ((a == a' && b == b') && (c == c' && d == d')) w := by
  have a3 := Try.isAgg59
  have z3 := Try.sizeOf59
  have e := fun a b c d => eqPr6 a b c d w
  rw [show (10000 : Nat) = 9999 + 1 from rfl, Op.equalIn]
  simp only [Sem.run_bind, run_underlying Try.underlying60, Result.andThen_ok]
  simp only [Std.Legacy.Range.forIn_eq_forIn_range', Std.Legacy.Range.size, Nat.sub_zero, Nat.add_sub_cancel, Nat.div_one, List.range'_succ, List.range'_zero, List.forIn_cons, List.forIn_nil]
  go_simp
  by_cases h1 : a = a' <;> by_cases h2 : b = b' <;> by_cases h3 : c = c' <;> by_cases h4 : d = d' <;> simp [h1, h2, h3, h4]
theorem guardPP : Try.prog.eqGuardType Try.prog.depth 60 = false := by kernel_rfl
attribute [local go_sem] eqPP guardPP

/-- The path that is opened, or none. -/
def Mk.opened (xs : List Int) (i : Int) : List Int := if Mk.place xs.length i = 0 then Mk.path xs i.toNat else []
theorem Mk.opened_le (xs : List Int) (i : Int) (hx : xs.length ≤ 4096) : (Mk.opened xs i).length ≤ 4096 := by
  unfold Mk.opened
  by_cases h : Mk.place xs.length i = 0
  · rw [if_pos h]
    obtain ⟨n', i', h1, rfl, hi, _⟩ := Mk.place_zero h
    rw [Int.toNat_natCast, Mk.path_length (by omega)]
    have := Mk.steps_length (n := xs.length) (i := i') (by omega)
    omega
  · rw [if_neg h]; simp
theorem openL_any (v : Value) (xs : List Int) (i : Int) (w : World) (hx : xs.length ≤ 4096) (hs : Sl .u64 w v xs) :
    Calls Try.prog 34 #[v, .int .i64 i] w fun e w' => ∃ v', e = .returned (.agg #[v', .int .i64 (Mk.place xs.length i)]) ∧ Sl .u64 w' v' (Mk.opened xs i) ∧ Below w.heap.size w w' := by
  unfold Mk.opened
  by_cases h : Mk.place xs.length i = 0
  · rw [if_pos h, h]
    obtain ⟨n', i', h1, rfl, hi, _⟩ := Mk.place_zero h
    exact (openL_ok v xs i' w hx (by omega) hs).mono fun e w' ⟨v', h1, h2, h3⟩ => ⟨v', h1, h2.sl, h3⟩
  · rw [if_neg h]
    exact (openL_bad v xs i w (by omega) h hs).mono fun e w' ⟨h1, h3⟩ => ⟨_, h1, Sl.nil _ _, h3⟩
theorem ropen_any (v : Value) (xs : List Int) (i : Int) (w : World) (hx : xs.length ≤ 4096) (hs : Sl .u64 w v xs) :
    Calls Try.prog 37 #[v, .int .i64 i] w fun e w' => ∃ v', e = .returned (.agg #[v', .int .i64 (Mk.place xs.length i)]) ∧ Sl .u64 w' v' (Mk.opened xs i) ∧ Below w.heap.size w w' := by
  unfold Mk.opened
  by_cases h : Mk.place xs.length i = 0
  · rw [if_pos h, h]
    obtain ⟨n', i', h1, rfl, hi, _⟩ := Mk.place_zero h
    exact (ropen_ok v xs i' w hx (by omega) hs).mono fun e w' ⟨v', h1, h2, h3⟩ => ⟨v', h1, h2.sl, h3⟩
  · rw [if_neg h]
    exact (ropen_bad v xs i w h hs).mono fun e w' ⟨h1, h3⟩ => ⟨_, h1, Sl.nil _ _, h3⟩

set_option maxRecDepth 100000 in
set_option maxHeartbeats 4000000 in
theorem merkleMatchesReference_true (a : Option Addr) (len cap : Nat) (zs : List Int) (l1 : Int) (a1 : Option Addr) (len1 c1 : Nat) (z1 : List Int) (l2 : Int) (a2 : Option Addr) (len2 c2 : Nat) (z2 : List Int) (ks : List Int) (w : World) (hr : IsRow .u64 w a len cap zs) (_ : (Lit.int .u64 l1).wf = true) (hr1 : IsRow .u64 w a1 len1 c1 z1) (_ : (Lit.int .u64 l2).wf = true) (hr2 : IsRow .u64 w a2 len2 c2 z2) (hkl : ks.length = 3) (hkw : ∀ z ∈ ks, (Lit.int .i64 z).wf = true) :
    Calls Try.prog 14 #[.slice a len cap, .agg #[.int .u64 l1, .slice a1 len1 c1, .int .u64 l2, .slice a2 len2 c2], .agg (ks.map (Value.int .i64)).toArray] w fun e w' => e = .returned (.bool true) ∧ Below w.heap.size w w' := by
  obtain ⟨xs, rfl, hs, _⟩ := Sl.of_row hr
  obtain ⟨p1, rfl, hs1, _⟩ := Sl.of_row hr1
  obtain ⟨p2, rfl, hs2, _⟩ := Sl.of_row hr2
  obtain ⟨n, i, k2, rfl⟩ : ∃ n i k2, ks = [n, i, k2] := by
    match ks, hkl with
    | [n, i, k2], _ => exact ⟨n, i, k2, rfl⟩
  clear hr hr1 hr2 hkl hkw
  have HS := hid hs
  have HS1 := hid hs1
  have HS2 := hid hs2
  clear hs hs1 hs2
  have x0 : ((w.alloc (.cells #[.int .u64 l1, .slice a1 p1.length c1, .int .u64 l2, .slice a2 p2.length c2] 57)).alloc (.cells #[.int .i64 n, .int .i64 i, .int .i64 k2] 58)).cell? ⟨w.heap.size, 0, none⟩ = some (.int .u64 l1) := by go_simp
  have x1 : ((w.alloc (.cells #[.int .u64 l1, .slice a1 p1.length c1, .int .u64 l2, .slice a2 p2.length c2] 57)).alloc (.cells #[.int .i64 n, .int .i64 i, .int .i64 k2] 58)).cell? ⟨w.heap.size, 1, none⟩ = some (.slice a1 p1.length c1) := by go_simp
  have x2 : ((w.alloc (.cells #[.int .u64 l1, .slice a1 p1.length c1, .int .u64 l2, .slice a2 p2.length c2] 57)).alloc (.cells #[.int .i64 n, .int .i64 i, .int .i64 k2] 58)).cell? ⟨w.heap.size, 2, none⟩ = some (.int .u64 l2) := by go_simp
  have x3 : ((w.alloc (.cells #[.int .u64 l1, .slice a1 p1.length c1, .int .u64 l2, .slice a2 p2.length c2] 57)).alloc (.cells #[.int .i64 n, .int .i64 i, .int .i64 k2] 58)).cell? ⟨w.heap.size, 3, none⟩ = some (.slice a2 p2.length c2) := by go_simp
  have y0 : ((w.alloc (.cells #[.int .u64 l1, .slice a1 p1.length c1, .int .u64 l2, .slice a2 p2.length c2] 57)).alloc (.cells #[.int .i64 n, .int .i64 i, .int .i64 k2] 58)).cell? ⟨w.heap.size + 1, 0, none⟩ = some (.int .i64 n) := by go_simp
  have y1 : ((w.alloc (.cells #[.int .u64 l1, .slice a1 p1.length c1, .int .u64 l2, .slice a2 p2.length c2] 57)).alloc (.cells #[.int .i64 n, .int .i64 i, .int .i64 k2] 58)).cell? ⟨w.heap.size + 1, 1, none⟩ = some (.int .i64 i) := by go_simp
  have y2 : ((w.alloc (.cells #[.int .u64 l1, .slice a1 p1.length c1, .int .u64 l2, .slice a2 p2.length c2] 57)).alloc (.cells #[.int .i64 n, .int .i64 i, .int .i64 k2] 58)).cell? ⟨w.heap.size + 1, 2, none⟩ = some (.int .i64 k2) := by go_simp
  have bw0 : Below w.heap.size w ((w.alloc (.cells #[.int .u64 l1, .slice a1 p1.length c1, .int .u64 l2, .slice a2 p2.length c2] 57)).alloc (.cells #[.int .i64 n, .int .i64 i, .int .i64 k2] 58)) := seqB (aB w _) (aB _ _)
  go_enter Try.func14, Try.ntmps14
  go_wp2_with fail
  generalize ((w.alloc (.cells #[.int .u64 l1, .slice a1 p1.length c1, .int .u64 l2, .slice a2 p2.length c2] 57)).alloc (.cells #[.int .i64 n, .int .i64 i, .int .i64 k2] 58)) = w0 at x0 x1 x2 x3 y0 y1 y2 bw0 ⊢
  generalize w.heap.size + 1 = K at y0 y1 y2 ⊢
  generalize w.heap.size = X at x0 x1 x2 x3 ⊢
  have hc : ∀ u, Below w0.heap.size w0 u → (u.cell? ⟨X, 0, none⟩ = some (.int .u64 l1) ∧ u.cell? ⟨X, 1, none⟩ = some (.slice a1 p1.length c1) ∧ u.cell? ⟨X, 2, none⟩ = some (.int .u64 l2) ∧ u.cell? ⟨X, 3, none⟩ = some (.slice a2 p2.length c2)) ∧ u.cell? ⟨K, 0, none⟩ = some (.int .i64 n) ∧ u.cell? ⟨K, 1, none⟩ = some (.int .i64 i) ∧ u.cell? ⟨K, 2, none⟩ = some (.int .i64 k2) := fun u hu =>
    ⟨⟨(hu.cell (p := ⟨X, 0, none⟩) (World.lt_of_cell x0)).trans x0, (hu.cell (p := ⟨X, 1, none⟩) (World.lt_of_cell x1)).trans x1, (hu.cell (p := ⟨X, 2, none⟩) (World.lt_of_cell x2)).trans x2, (hu.cell (p := ⟨X, 3, none⟩) (World.lt_of_cell x3)).trans x3⟩, (hu.cell (p := ⟨K, 0, none⟩) (World.lt_of_cell y0)).trans y0, (hu.cell (p := ⟨K, 1, none⟩) (World.lt_of_cell y1)).trans y1, (hu.cell (p := ⟨K, 2, none⟩) (World.lt_of_cell y2)).trans y2⟩
  have HC := hid hc
  clear hc x0 x1 x2 x3 y0 y1 y2
  refine (examples4_any _).mono ?_
  rintro e w1 ⟨rfl, b1⟩
  obtain ⟨⟨x0, x1, x2, x3⟩, y0, y1, y2⟩ := HC.out _ b1
  by_cases hok : xs.length ≤ 60 ∧ p1.length ≤ 60 ∧ p2.length ≤ 60
  · obtain ⟨hl, hq1, hq2⟩ := hok
    have t0 : decide ((60 : Int) < (xs.length : Int)) = false := decide_eq_false (by omega)
    have t1 : decide ((60 : Int) < (p1.length : Int)) = false := decide_eq_false (by omega)
    have t2 : decide ((60 : Int) < (p2.length : Int)) = false := decide_eq_false (by omega)
    obtain ⟨m, hm⟩ : ∃ m, xs.length = m := ⟨_, rfl⟩
    have HM := hid hm
    rw [hm] at t0 HS ⊢
    clear hm
    go_wp2_with fail
    go_quiet (fail)
    have b1n : Below w0.heap.size w0 (w1.drewN nq) := seqB b1 (drewB w1 nq)
    generalize w1.drewN nq = w1' at b1n ⊢
    obtain ⟨⟨x0, x1, x2, x3⟩, y0, y1, y2⟩ := HC.out _ b1n
    have HSa := hid ((HS.out.stays bw0).stays b1n)
    go_wp2_with fail
    refine (root_any _ xs _ (by omega) HSa.out).mono ?_
    rintro e w2 ⟨rfl, q2, rfl⟩
    obtain ⟨R, hR⟩ : ∃ R, I (Mk.root xs) = R := ⟨_, rfl⟩
    rw [hR]
    have HR := hid hR
    have b2 : Below w0.heap.size w0 (w1'.drewN q2) := seqB b1n (drewB w1' q2)
    generalize w1'.drewN q2 = w2 at b2 ⊢
    clear hR b1 b1n x0 x1 x2 x3 y0 y1 y2 HSa
    have HSb := hid ((HS.out.stays bw0).stays b2)
    go_wp2_with fail
    refine (openL_any _ xs i _ (by omega) HSb.out).mono ?_
    rintro e w3 ⟨va, rfl, hsa, c3⟩
    have HSA := hid hsa
    have b3 := seqB b2 c3
    have HSc := hid (HSb.out.stays c3)
    have hpl := Mk.opened_le xs i (by omega)
    rw [HM.out]
    obtain ⟨E, hE⟩ : ∃ E, Mk.place (m : Int) i = E := ⟨_, rfl⟩
    rw [hE]
    have HE := hid hE
    clear hsa HSb hE
    go_wp2_with fail
    refine (ropen_any _ xs i _ (by omega) HSc.out).mono ?_
    rintro e w4 ⟨vb, rfl, hsb, c4⟩
    rw [HM.out, HE.out]
    have b4 := seqB b3 c4
    have HSAd := hid (HSA.out.stays c4)
    have HSBd := hid hsb
    have HSd := hid (HSc.out.stays c4)
    obtain ⟨ps, hps⟩ : ∃ ps, Mk.opened xs i = ps := ⟨_, rfl⟩
    have HPS := hid hps
    rw [hps] at HSAd HSBd hpl
    obtain ⟨aa, ca, rfl, _⟩ := HSAd.out
    obtain ⟨ab, cb, rfl, _⟩ := HSBd.out
    clear hsb HSA HSc c3 c4 b3 hps
    have f0 : ((w4.alloc (.cells #[.slice aa ps.length ca, .int .i64 E] 46)).alloc (.cells #[.slice ab ps.length cb, .int .i64 E] 46)).cell? ⟨w4.heap.size, 0, none⟩ = some (.slice aa ps.length ca) := by go_simp
    have f1 : ((w4.alloc (.cells #[.slice aa ps.length ca, .int .i64 E] 46)).alloc (.cells #[.slice ab ps.length cb, .int .i64 E] 46)).cell? ⟨w4.heap.size, 1, none⟩ = some (.int .i64 E) := by go_simp
    have f2 : ((w4.alloc (.cells #[.slice aa ps.length ca, .int .i64 E] 46)).alloc (.cells #[.slice ab ps.length cb, .int .i64 E] 46)).cell? ⟨w4.heap.size + 1, 0, none⟩ = some (.slice ab ps.length cb) := by go_simp
    have f3 : ((w4.alloc (.cells #[.slice aa ps.length ca, .int .i64 E] 46)).alloc (.cells #[.slice ab ps.length cb, .int .i64 E] 46)).cell? ⟨w4.heap.size + 1, 1, none⟩ = some (.int .i64 E) := by go_simp
    have c5 : Below w4.heap.size w4 ((w4.alloc (.cells #[.slice aa ps.length ca, .int .i64 E] 46)).alloc (.cells #[.slice ab ps.length cb, .int .i64 E] 46)) := seqB (aB w4 _) (aB _ _)
    have b5 := seqB b4 c5
    have HSAe := hid (HSAd.out.stays c5)
    have HSBe := hid (HSBd.out.stays c5)
    have HSe := hid (HSd.out.stays c5)
    clear HSAd HSBd HSd c5 b4
    go_wp2_with fail
    generalize (w4.alloc (.cells #[.slice aa ps.length ca, .int .i64 E] 46)).alloc (.cells #[.slice ab ps.length cb, .int .i64 E] 46) = w5 at f0 f1 f2 f3 b5 HSAe HSBe HSe ⊢
    generalize w4.heap.size + 1 = F2 at f2 f3 ⊢
    generalize w4.heap.size = F1 at f0 f1 ⊢
    refine (rroot_any _ xs _ (by omega) HSe.out).mono ?_
    rintro e w6 ⟨rfl, q6, rfl⟩
    rw [HR.out]
    have r1 : (R != R) = false := by simp
    have r2 : (E != E) = false := by simp
    have cc : Below w5.heap.size w5 (w5.drewN q6) := drewB w5 q6
    generalize w5.drewN q6 = w6 at cc ⊢
    have f0 := (cc.cell (p := ⟨F1, 0, none⟩) (World.lt_of_cell f0)).trans f0
    have f1 := (cc.cell (p := ⟨F1, 1, none⟩) (World.lt_of_cell f1)).trans f1
    have f2 := (cc.cell (p := ⟨F2, 0, none⟩) (World.lt_of_cell f2)).trans f2
    have f3 := (cc.cell (p := ⟨F2, 1, none⟩) (World.lt_of_cell f3)).trans f3
    have b6 := seqB b5 cc
    have HSAf := hid (HSAe.out.stays cc)
    have HSBf := hid (HSBe.out.stays cc)
    have HSf := hid (HSe.out.stays cc)
    clear HSAe HSBe HSe b5 cc
    go_wp2_with fail
    refine (same_any (.slice aa ps.length ca) (.slice ab ps.length cb) ps ps w6 (by omega) HSAf.out HSBf.out).mono ?_
    rintro e w7 ⟨rfl, q7, rfl⟩
    rw [decide_eq_true (rfl : ps = ps)]
    have cc : Below w6.heap.size w6 (w6.drewN q7) := drewB w6 q7
    generalize w6.drewN q7 = w7 at cc ⊢
    have f0 := (cc.cell (p := ⟨F1, 0, none⟩) (World.lt_of_cell f0)).trans f0
    have f1 := (cc.cell (p := ⟨F1, 1, none⟩) (World.lt_of_cell f1)).trans f1
    have b7 := seqB b6 cc
    have HPA := hid (HSAf.out.stays cc)
    have HSg := hid (HSf.out.stays cc)
    obtain ⟨⟨x0, x1, x2, x3⟩, y0, y1, y2⟩ := HC.out _ b7
    have lX : X < w7.heap.size := World.lt_of_cell x0
    have d0 : (w7.alloc (.cells #[.int .u64 l1, .slice a1 p1.length c1] 50)).cell? ⟨w7.heap.size, 0, none⟩ = some (.int .u64 l1) := by go_simp
    have d1 : (w7.alloc (.cells #[.int .u64 l1, .slice a1 p1.length c1] 50)).cell? ⟨w7.heap.size, 1, none⟩ = some (.slice a1 p1.length c1) := by go_simp
    have m0 : (w7.alloc (.cells #[.int .u64 l1, .slice a1 p1.length c1] 50)).frozen? ⟨w7.heap.size, 0, none⟩ = false := by go_simp
    have m1 : (w7.alloc (.cells #[.int .u64 l1, .slice a1 p1.length c1] 50)).frozen? ⟨w7.heap.size, 1, none⟩ = false := by go_simp
    have c8 : Below w7.heap.size w7 (w7.alloc (.cells #[.int .u64 l1, .slice a1 p1.length c1] 50)) := aB w7 _
    have f0 := (c8.cell (p := ⟨F1, 0, none⟩) (World.lt_of_cell f0)).trans f0
    have f1 := (c8.cell (p := ⟨F1, 1, none⟩) (World.lt_of_cell f1)).trans f1
    have b8 := seqB b7 c8
    have hlF : w0.heap.size ≤ w7.heap.size := b7.size
    have lF : F1 < w7.heap.size := World.lt_of_cell (show w7.cell? ⟨F1, 0, none⟩ = some (.slice aa ps.length ca) by assumption)
    have HPAg := hid (HPA.out.stays c8)
    have HSh := hid (HSg.out.stays c8)
    have HPX := hid (((HS1.out.stays bw0).stays b7).stays c8)
    have HW8 := hid c8
    have kx : ∀ (k : Nat), (w7.alloc (.cells #[.int .u64 l1, .slice a1 p1.length c1] 50)).cell? ⟨K, k, none⟩ = w7.cell? ⟨K, k, none⟩ := fun k => c8.cell (p := ⟨K, k, none⟩) (World.lt_of_cell y0)
    have y2 := (kx 2).trans y2
    clear HSAf HSBf HSf b6 cc r1 r2 kx
    by_cases hz : E = 0 ∧ k2.tmod 2 = 0
    · obtain ⟨hz0, hz1⟩ := hz
      have u0 : (E == 0) = true := by simpa using hz0
      have u1 : (k2.tmod 2 == 0) = true := by simpa using hz1
      obtain ⟨n', i', hn1, hi1, hi2, _⟩ := Mk.place_zero (HE.out.trans hz0)
      subst hi1
      have HZ := hid (And.intro hz0 hz1)
      have him : i' < m := by omega
      have hlen := HM.out
      obtain ⟨gb, go, rfl, hglt, hky⟩ : ∃ gb go, a = some ⟨gb, go, none⟩ ∧ gb < w7.heap.size ∧ w7.cell? ⟨gb, go + i', none⟩ = some (.int .u64 (xs.getD i' 0)) := by
        obtain ⟨_, _, _, hcell⟩ := HSg.out.form
        obtain ⟨gb, go, h1, h2, h3⟩ := hcell (by omega)
        exact ⟨gb, go, h1, h2, h3 i' (by omega)⟩
      obtain ⟨y, hy⟩ : ∃ y, xs.getD i' 0 = y := ⟨_, rfl⟩
      rw [hy] at hky
      have hgc8 := (HW8.out.cell (p := ⟨gb, go + i', none⟩) hglt).trans hky
      have i1 : (0 : Int) ≤ (i' : Int) := by omega
      have i2 : (i' : Int) < (m : Int) := by omega
      have hD7 : ¬ w7.heap.size = gb := by show ¬ _; omega
      have hD8 : ¬ gb = w7.heap.size := by omega
      have hD9 : ¬ F1 = w7.heap.size := by omega
      have hDa : ¬ w7.heap.size = F1 := by omega
      clear hz0 hz1 hn1 hi2 hlen hky hy
      go_wp2_with fail
      generalize w7.alloc (.cells #[.int .u64 l1, .slice a1 p1.length c1] 50) = w8 at d0 d1 m0 m1 f0 f1 b8 HPAg HSh HPX HW8 y2 hgc8 ⊢
      generalize hDE : w7.heap.size = D at d0 d1 m0 m1 hlF hD7 hD8 hD9 hDa lF ⊢
      have HDE := hid hDE
      clear hDE x0 x1 x2 x3 y0 y1
      go_region_held3 (fun u => u.cell? ⟨gb, go + i', none⟩ = some (.int .u64 y) ∧ u.cell? ⟨F1, 0, none⟩ = some (.slice aa ps.length ca)) (go_keep) (fail)
      have e0 : (((w8.setCell ⟨D, 0, none⟩ (.int .u64 y)).setCell ⟨D, 1, none⟩ (.slice aa ps.length ca)).drew).cell? ⟨D, 0, none⟩ = some (.int .u64 y) := by go_simp
      have e1 : (((w8.setCell ⟨D, 0, none⟩ (.int .u64 y)).setCell ⟨D, 1, none⟩ (.slice aa ps.length ca)).drew).cell? ⟨D, 1, none⟩ = some (.slice aa ps.length ca) := by go_simp
      have bV : Below w0.heap.size w0 (((w8.setCell ⟨D, 0, none⟩ (.int .u64 y)).setCell ⟨D, 1, none⟩ (.slice aa ps.length ca)).drew) := ((b8.setCell (p := ⟨D, 0, none⟩) hlF _).setCell (p := ⟨D, 1, none⟩) hlF _).drew
      have bW : Below D w7 (((w8.setCell ⟨D, 0, none⟩ (.int .u64 y)).setCell ⟨D, 1, none⟩ (.slice aa ps.length ca)).drew) := (((HDE.out ▸ HW8.out).setCell (p := ⟨D, 0, none⟩) (Nat.le_refl _) _).setCell (p := ⟨D, 1, none⟩) (Nat.le_refl _) _).drew
      generalize ((w8.setCell ⟨D, 0, none⟩ (.int .u64 y)).setCell ⟨D, 1, none⟩ (.slice aa ps.length ca)).drew = V at e0 e1 bV bW ⊢
      have HY := hid (HPA.out.stays (HDE.out.symm ▸ bW))
      have d0 := e0
      have d1 := e1
      clear e0 e1 m0 m1 f0 f1 b8 HPAg HSh HPX HW8 y2 hgc8 bW HPA HSg hglt
      obtain ⟨nn, hnn⟩ : ∃ nn : Int, (m : Int) = nn := ⟨_, rfl⟩
      go_wp2_with fail
      rw [hnn]
      have HNN := hid hnn
      clear hnn
      obtain ⟨i, hi⟩ : ∃ i : Int, (i' : Int) = i := ⟨_, rfl⟩
      rw [hi]
      clear hi HE i1 i2 him HPS u0 u1
      have hD : ∀ u, Below V.heap.size V u → (u.cell? ⟨D, 0, none⟩ = some (.int .u64 y) ∧ u.cell? ⟨D, 1, none⟩ = some (.slice aa ps.length ca)) ∧ (u.cell? ⟨X, 0, none⟩ = some (.int .u64 l1) ∧ u.cell? ⟨X, 1, none⟩ = some (.slice a1 p1.length c1)) ∧ u.cell? ⟨X, 2, none⟩ = some (.int .u64 l2) ∧ u.cell? ⟨X, 3, none⟩ = some (.slice a2 p2.length c2) := fun u hu => by
        obtain ⟨⟨g0, g1, g2, g3⟩, _⟩ := HC.out u (seqB bV hu)
        exact ⟨⟨(hu.cell (p := ⟨D, 0, none⟩) (World.lt_of_cell d0)).trans d0, (hu.cell (p := ⟨D, 1, none⟩) (World.lt_of_cell d1)).trans d1⟩, ⟨g0, g1⟩, g2, g3⟩
      have HD := hid hD
      clear hD d0 d1
      have HP2 := hid ((HS2.out.stays bw0).stays bV)
      obtain ⟨ck1, hk1⟩ : ∃ c, Mk.check R nn i y ps = c := ⟨_, rfl⟩
      obtain ⟨ck2, hk2⟩ : ∃ c, Mk.check l1 nn i l2 p2 = c := ⟨_, rfl⟩
      obtain ⟨h, hh⟩ : ∃ h, Mk.collide nn i y ps l2 p2 = h := ⟨_, rfl⟩
      have K1 := hid (fun u (hu : Below V.heap.size V u) => checkL_any R nn i y (.slice aa ps.length ca) ps u (HY.out.stays hu))
      have K2 := hid (fun u (hu : Below V.heap.size V u) => rcheck_any R nn i y (.slice aa ps.length ca) ps u (HY.out.stays hu))
      have K3 := hid (fun u (hu : Below V.heap.size V u) => checkL_any l1 nn i l2 (.slice a2 p2.length c2) p2 u (HP2.out.stays hu))
      have K4 := hid (fun u (hu : Below V.heap.size V u) => rcheck_any l1 nn i l2 (.slice a2 p2.length c2) p2 u (HP2.out.stays hu))
      have K5 := hid (fun u (hu : Below V.heap.size V u) => collide_any nn i y l2 (.slice aa ps.length ca) (.slice a2 p2.length c2) ps p2 u (HY.out.stays hu) (HP2.out.stays hu))
      have K6 := hid (fun u (hu : Below V.heap.size V u) => rcollide_any nn i y l2 (.slice aa ps.length ca) (.slice a2 p2.length c2) ps p2 u (HY.out.stays hu) (HP2.out.stays hu))
      rw [hk1] at K1 K2
      rw [hk2] at K3 K4
      rw [hh] at K5 K6
      have e1 : (ck1 != ck1) = false := by simp
      have e2 : (ck2 != ck2) = false := by simp
      have s0 : Below V.heap.size V V.drew := dB V
      have hD0 := HD.out _ s0
      clear hk1 hk2 hh HP2 HY HS1 HS2
      go_wp2_with fail
      go_region_held3 (fun u => (u.cell? ⟨D, 0, none⟩ = some (.int .u64 y) ∧ u.cell? ⟨D, 1, none⟩ = some (.slice aa ps.length ca)) ∧ (u.cell? ⟨X, 0, none⟩ = some (.int .u64 l1) ∧ u.cell? ⟨X, 1, none⟩ = some (.slice a1 p1.length c1)) ∧ u.cell? ⟨X, 2, none⟩ = some (.int .u64 l2) ∧ u.cell? ⟨X, 3, none⟩ = some (.slice a2 p2.length c2))
        (first | exact hD0 | exact HD.out _ s4 | exact HD.out _ s3 | exact HD.out _ s2 | exact HD.out _ s1)
        (first
          | (go_at_call 35; (with_reducible refine (K1.out _ s0).mono ?_); rintro e v1 ⟨rfl, cc⟩; have s1 := seqB s0 cc; clear cc)
          | (go_at_call 39; (with_reducible refine (K2.out _ s1).mono ?_); rintro e v2 ⟨rfl, cc⟩; have s2 := seqB s1 cc; clear cc)
          | (go_at_call 35; (with_reducible refine (K3.out _ s2).mono ?_); rintro e v3 ⟨rfl, cc⟩; have s3 := seqB s2 cc; clear cc)
          | (go_at_call 39; (with_reducible refine (K4.out _ s3).mono ?_); rintro e v4 ⟨rfl, cc⟩; have s4 := seqB s3 cc; clear cc)
          | fail)
      obtain ⟨⟨d0, d1⟩, ⟨g0, g1⟩, g2, g3⟩ := HD.out _ s4
      clear s0 s1 s2 s3 hD0
      go_wp2_with fail
      (with_reducible refine (K5.out _ s4).mono ?_)
      rintro e v5 ⟨rfl, cc⟩
      have s5 := seqB s4 cc
      clear d0 d1 g0 g1 g2 g3 cc
      cases h with
      | none =>
        dsimp only [Mk.hitV, Option.isSome, Mk.hit5] at K6 ⊢
        have f0 : (v5.alloc (.cells #[.int .u64 0, .int .u64 0, .int .u64 0, .int .u64 0] 60)).cell? ⟨v5.heap.size, 0, none⟩ = some (.int .u64 0) := by go_simp
        have f1 : (v5.alloc (.cells #[.int .u64 0, .int .u64 0, .int .u64 0, .int .u64 0] 60)).cell? ⟨v5.heap.size, 1, none⟩ = some (.int .u64 0) := by go_simp
        have f2 : (v5.alloc (.cells #[.int .u64 0, .int .u64 0, .int .u64 0, .int .u64 0] 60)).cell? ⟨v5.heap.size, 2, none⟩ = some (.int .u64 0) := by go_simp
        have f3 : (v5.alloc (.cells #[.int .u64 0, .int .u64 0, .int .u64 0, .int .u64 0] 60)).cell? ⟨v5.heap.size, 3, none⟩ = some (.int .u64 0) := by go_simp
        have s6 : Below V.heap.size V (v5.alloc (.cells #[.int .u64 0, .int .u64 0, .int .u64 0, .int .u64 0] 60)) := seqB s5 (aB v5 _)
        obtain ⟨⟨d0, d1⟩, ⟨g0, g1⟩, g2, g3⟩ := HD.out _ s6
        go_wp2_with fail
        generalize v5.alloc (.cells #[.int .u64 0, .int .u64 0, .int .u64 0, .int .u64 0] 60) = v6 at f0 f1 f2 f3 s6 ⊢
        generalize v5.heap.size = F at f0 f1 f2 f3 ⊢
        clear d0 d1 g0 g1 g2 g3
        (with_reducible refine (K6.out _ s6).mono ?_)
        rintro e v7 ⟨rfl, cc⟩
        have c8 := cc.trans ((aB v7 (.cells #[.int .u64 0, .int .u64 0, .int .u64 0, .int .u64 0, .bool false] 64)).mono cc.size)
        have s7 := seqB s6 cc
        have f0 := (c8.cell (p := ⟨F, 0, none⟩) (World.lt_of_cell f0)).trans f0
        have f1 := (c8.cell (p := ⟨F, 1, none⟩) (World.lt_of_cell f1)).trans f1
        have f2 := (c8.cell (p := ⟨F, 2, none⟩) (World.lt_of_cell f2)).trans f2
        have f3 := (c8.cell (p := ⟨F, 3, none⟩) (World.lt_of_cell f3)).trans f3
        have k0 : (v7.alloc (.cells #[.int .u64 0, .int .u64 0, .int .u64 0, .int .u64 0, .bool false] 64)).cell? ⟨v7.heap.size, 0, none⟩ = some (.int .u64 0) := by go_simp
        have k1 : (v7.alloc (.cells #[.int .u64 0, .int .u64 0, .int .u64 0, .int .u64 0, .bool false] 64)).cell? ⟨v7.heap.size, 1, none⟩ = some (.int .u64 0) := by go_simp
        have k2 : (v7.alloc (.cells #[.int .u64 0, .int .u64 0, .int .u64 0, .int .u64 0, .bool false] 64)).cell? ⟨v7.heap.size, 2, none⟩ = some (.int .u64 0) := by go_simp
        have k3 : (v7.alloc (.cells #[.int .u64 0, .int .u64 0, .int .u64 0, .int .u64 0, .bool false] 64)).cell? ⟨v7.heap.size, 3, none⟩ = some (.int .u64 0) := by go_simp
        have k4 : (v7.alloc (.cells #[.int .u64 0, .int .u64 0, .int .u64 0, .int .u64 0, .bool false] 64)).cell? ⟨v7.heap.size, 4, none⟩ = some (.bool false) := by go_simp
        go_wp2_with fail
        go_ret
        exact ⟨rfl, seqB (seqB bw0 bV) (seqB s7 (aB v7 _))⟩
      | some pq =>
        obtain ⟨⟨o1, o2⟩, ⟨o3, o4⟩⟩ := pq
        dsimp only [Mk.hitV, Option.isSome, Mk.hit5] at K6 ⊢
        have f0 : (v5.alloc (.cells #[.int .u64 o1, .int .u64 o2, .int .u64 o3, .int .u64 o4] 60)).cell? ⟨v5.heap.size, 0, none⟩ = some (.int .u64 o1) := by go_simp
        have f1 : (v5.alloc (.cells #[.int .u64 o1, .int .u64 o2, .int .u64 o3, .int .u64 o4] 60)).cell? ⟨v5.heap.size, 1, none⟩ = some (.int .u64 o2) := by go_simp
        have f2 : (v5.alloc (.cells #[.int .u64 o1, .int .u64 o2, .int .u64 o3, .int .u64 o4] 60)).cell? ⟨v5.heap.size, 2, none⟩ = some (.int .u64 o3) := by go_simp
        have f3 : (v5.alloc (.cells #[.int .u64 o1, .int .u64 o2, .int .u64 o3, .int .u64 o4] 60)).cell? ⟨v5.heap.size, 3, none⟩ = some (.int .u64 o4) := by go_simp
        have s6 : Below V.heap.size V (v5.alloc (.cells #[.int .u64 o1, .int .u64 o2, .int .u64 o3, .int .u64 o4] 60)) := seqB s5 (aB v5 _)
        obtain ⟨⟨d0, d1⟩, ⟨g0, g1⟩, g2, g3⟩ := HD.out _ s6
        go_wp2_with fail
        generalize v5.alloc (.cells #[.int .u64 o1, .int .u64 o2, .int .u64 o3, .int .u64 o4] 60) = v6 at f0 f1 f2 f3 s6 ⊢
        generalize v5.heap.size = F at f0 f1 f2 f3 ⊢
        clear d0 d1 g0 g1 g2 g3
        (with_reducible refine (K6.out _ s6).mono ?_)
        rintro e v7 ⟨rfl, cc⟩
        have c8 := cc.trans ((aB v7 (.cells #[.int .u64 o1, .int .u64 o2, .int .u64 o3, .int .u64 o4, .bool true] 64)).mono cc.size)
        have s7 := seqB s6 cc
        have f0 := (c8.cell (p := ⟨F, 0, none⟩) (World.lt_of_cell f0)).trans f0
        have f1 := (c8.cell (p := ⟨F, 1, none⟩) (World.lt_of_cell f1)).trans f1
        have f2 := (c8.cell (p := ⟨F, 2, none⟩) (World.lt_of_cell f2)).trans f2
        have f3 := (c8.cell (p := ⟨F, 3, none⟩) (World.lt_of_cell f3)).trans f3
        have k0 : (v7.alloc (.cells #[.int .u64 o1, .int .u64 o2, .int .u64 o3, .int .u64 o4, .bool true] 64)).cell? ⟨v7.heap.size, 0, none⟩ = some (.int .u64 o1) := by go_simp
        have k1 : (v7.alloc (.cells #[.int .u64 o1, .int .u64 o2, .int .u64 o3, .int .u64 o4, .bool true] 64)).cell? ⟨v7.heap.size, 1, none⟩ = some (.int .u64 o2) := by go_simp
        have k2 : (v7.alloc (.cells #[.int .u64 o1, .int .u64 o2, .int .u64 o3, .int .u64 o4, .bool true] 64)).cell? ⟨v7.heap.size, 2, none⟩ = some (.int .u64 o3) := by go_simp
        have k3 : (v7.alloc (.cells #[.int .u64 o1, .int .u64 o2, .int .u64 o3, .int .u64 o4, .bool true] 64)).cell? ⟨v7.heap.size, 3, none⟩ = some (.int .u64 o4) := by go_simp
        have k4 : (v7.alloc (.cells #[.int .u64 o1, .int .u64 o2, .int .u64 o3, .int .u64 o4, .bool true] 64)).cell? ⟨v7.heap.size, 4, none⟩ = some (.bool true) := by go_simp
        go_wp2_with fail
        go_ret
        exact ⟨rfl, seqB (seqB bw0 bV) (seqB s7 (aB v7 _))⟩
    · have HZ := hid hz
      by_cases hz0 : E = 0
      · have u0 : (E == 0) = true := by simpa using hz0
        have u1 : (k2.tmod 2 == 0) = false := by
          rw [beq_eq_false_iff_ne]; exact fun h => hz ⟨hz0, h⟩
        clear hz hz0
        go_wp2_with fail
        generalize w7.alloc (.cells #[.int .u64 l1, .slice a1 p1.length c1] 50) = V at d0 d1 m0 m1 f0 f1 b8 HPAg HSh HPX HW8 y2 ⊢
        generalize w7.heap.size = D at d0 d1 m0 m1 hlF lF ⊢
        have HY := HPX
        have bV := b8
        clear HPAg HSh HW8 y2 m0 m1 f0 f1 HPA HSg x0 x1 x2 x3 y0 y1 HPS HPX b7
        have hD : ∀ u, Below V.heap.size V u → (u.cell? ⟨D, 0, none⟩ = some (.int .u64 l1) ∧ u.cell? ⟨D, 1, none⟩ = some (.slice a1 p1.length c1)) ∧ (u.cell? ⟨X, 0, none⟩ = some (.int .u64 l1) ∧ u.cell? ⟨X, 1, none⟩ = some (.slice a1 p1.length c1)) ∧ u.cell? ⟨X, 2, none⟩ = some (.int .u64 l2) ∧ u.cell? ⟨X, 3, none⟩ = some (.slice a2 p2.length c2) := fun u hu => by
          obtain ⟨⟨g0, g1, g2, g3⟩, _⟩ := HC.out u (seqB bV hu)
          exact ⟨⟨(hu.cell (p := ⟨D, 0, none⟩) (World.lt_of_cell d0)).trans d0, (hu.cell (p := ⟨D, 1, none⟩) (World.lt_of_cell d1)).trans d1⟩, ⟨g0, g1⟩, g2, g3⟩
        have HD := hid hD
        clear hD d0 d1
        have HP2 := hid ((HS2.out.stays bw0).stays bV)
        obtain ⟨ck1, hk1⟩ : ∃ c, Mk.check R n i l1 p1 = c := ⟨_, rfl⟩
        obtain ⟨ck2, hk2⟩ : ∃ c, Mk.check l1 n i l2 p2 = c := ⟨_, rfl⟩
        obtain ⟨h, hh⟩ : ∃ h, Mk.collide n i l1 p1 l2 p2 = h := ⟨_, rfl⟩
        have K1 := hid (fun u (hu : Below V.heap.size V u) => checkL_any R n i l1 (.slice a1 p1.length c1) p1 u (HY.out.stays hu))
        have K2 := hid (fun u (hu : Below V.heap.size V u) => rcheck_any R n i l1 (.slice a1 p1.length c1) p1 u (HY.out.stays hu))
        have K3 := hid (fun u (hu : Below V.heap.size V u) => checkL_any l1 n i l2 (.slice a2 p2.length c2) p2 u (HP2.out.stays hu))
        have K4 := hid (fun u (hu : Below V.heap.size V u) => rcheck_any l1 n i l2 (.slice a2 p2.length c2) p2 u (HP2.out.stays hu))
        have K5 := hid (fun u (hu : Below V.heap.size V u) => collide_any n i l1 l2 (.slice a1 p1.length c1) (.slice a2 p2.length c2) p1 p2 u (HY.out.stays hu) (HP2.out.stays hu))
        have K6 := hid (fun u (hu : Below V.heap.size V u) => rcollide_any n i l1 l2 (.slice a1 p1.length c1) (.slice a2 p2.length c2) p1 p2 u (HY.out.stays hu) (HP2.out.stays hu))
        rw [hk1] at K1 K2
        rw [hk2] at K3 K4
        rw [hh] at K5 K6
        have e1 : (ck1 != ck1) = false := by simp
        have e2 : (ck2 != ck2) = false := by simp
        have s0 : Below V.heap.size V V.drew := dB V
        have hD0 := HD.out _ s0
        clear hk1 hk2 hh HP2 HY HS1 HS2
        go_wp2_with fail
        go_region_held3 (fun u => (u.cell? ⟨D, 0, none⟩ = some (.int .u64 l1) ∧ u.cell? ⟨D, 1, none⟩ = some (.slice a1 p1.length c1)) ∧ (u.cell? ⟨X, 0, none⟩ = some (.int .u64 l1) ∧ u.cell? ⟨X, 1, none⟩ = some (.slice a1 p1.length c1)) ∧ u.cell? ⟨X, 2, none⟩ = some (.int .u64 l2) ∧ u.cell? ⟨X, 3, none⟩ = some (.slice a2 p2.length c2))
          (first | exact hD0 | exact HD.out _ s4 | exact HD.out _ s3 | exact HD.out _ s2 | exact HD.out _ s1)
          (first
            | (go_at_call 35; (with_reducible refine (K1.out _ s0).mono ?_); rintro e v1 ⟨rfl, cc⟩; have s1 := seqB s0 cc; clear cc)
            | (go_at_call 39; (with_reducible refine (K2.out _ s1).mono ?_); rintro e v2 ⟨rfl, cc⟩; have s2 := seqB s1 cc; clear cc)
            | (go_at_call 35; (with_reducible refine (K3.out _ s2).mono ?_); rintro e v3 ⟨rfl, cc⟩; have s3 := seqB s2 cc; clear cc)
            | (go_at_call 39; (with_reducible refine (K4.out _ s3).mono ?_); rintro e v4 ⟨rfl, cc⟩; have s4 := seqB s3 cc; clear cc)
            | fail)
        obtain ⟨⟨d0, d1⟩, ⟨g0, g1⟩, g2, g3⟩ := HD.out _ s4
        clear s0 s1 s2 s3 hD0
        go_wp2_with fail
        (with_reducible refine (K5.out _ s4).mono ?_)
        rintro e v5 ⟨rfl, cc⟩
        have s5 := seqB s4 cc
        clear d0 d1 g0 g1 g2 g3 cc
        cases h with
        | none =>
          dsimp only [Mk.hitV, Option.isSome, Mk.hit5] at K6 ⊢
          have f0 : (v5.alloc (.cells #[.int .u64 0, .int .u64 0, .int .u64 0, .int .u64 0] 60)).cell? ⟨v5.heap.size, 0, none⟩ = some (.int .u64 0) := by go_simp
          have f1 : (v5.alloc (.cells #[.int .u64 0, .int .u64 0, .int .u64 0, .int .u64 0] 60)).cell? ⟨v5.heap.size, 1, none⟩ = some (.int .u64 0) := by go_simp
          have f2 : (v5.alloc (.cells #[.int .u64 0, .int .u64 0, .int .u64 0, .int .u64 0] 60)).cell? ⟨v5.heap.size, 2, none⟩ = some (.int .u64 0) := by go_simp
          have f3 : (v5.alloc (.cells #[.int .u64 0, .int .u64 0, .int .u64 0, .int .u64 0] 60)).cell? ⟨v5.heap.size, 3, none⟩ = some (.int .u64 0) := by go_simp
          have s6 : Below V.heap.size V (v5.alloc (.cells #[.int .u64 0, .int .u64 0, .int .u64 0, .int .u64 0] 60)) := seqB s5 (aB v5 _)
          obtain ⟨⟨d0, d1⟩, ⟨g0, g1⟩, g2, g3⟩ := HD.out _ s6
          go_wp2_with fail
          generalize v5.alloc (.cells #[.int .u64 0, .int .u64 0, .int .u64 0, .int .u64 0] 60) = v6 at f0 f1 f2 f3 s6 ⊢
          generalize v5.heap.size = F at f0 f1 f2 f3 ⊢
          clear d0 d1 g0 g1 g2 g3
          (with_reducible refine (K6.out _ s6).mono ?_)
          rintro e v7 ⟨rfl, cc⟩
          have c8 := cc.trans ((aB v7 (.cells #[.int .u64 0, .int .u64 0, .int .u64 0, .int .u64 0, .bool false] 64)).mono cc.size)
          have s7 := seqB s6 cc
          have f0 := (c8.cell (p := ⟨F, 0, none⟩) (World.lt_of_cell f0)).trans f0
          have f1 := (c8.cell (p := ⟨F, 1, none⟩) (World.lt_of_cell f1)).trans f1
          have f2 := (c8.cell (p := ⟨F, 2, none⟩) (World.lt_of_cell f2)).trans f2
          have f3 := (c8.cell (p := ⟨F, 3, none⟩) (World.lt_of_cell f3)).trans f3
          have k0 : (v7.alloc (.cells #[.int .u64 0, .int .u64 0, .int .u64 0, .int .u64 0, .bool false] 64)).cell? ⟨v7.heap.size, 0, none⟩ = some (.int .u64 0) := by go_simp
          have k1 : (v7.alloc (.cells #[.int .u64 0, .int .u64 0, .int .u64 0, .int .u64 0, .bool false] 64)).cell? ⟨v7.heap.size, 1, none⟩ = some (.int .u64 0) := by go_simp
          have k2 : (v7.alloc (.cells #[.int .u64 0, .int .u64 0, .int .u64 0, .int .u64 0, .bool false] 64)).cell? ⟨v7.heap.size, 2, none⟩ = some (.int .u64 0) := by go_simp
          have k3 : (v7.alloc (.cells #[.int .u64 0, .int .u64 0, .int .u64 0, .int .u64 0, .bool false] 64)).cell? ⟨v7.heap.size, 3, none⟩ = some (.int .u64 0) := by go_simp
          have k4 : (v7.alloc (.cells #[.int .u64 0, .int .u64 0, .int .u64 0, .int .u64 0, .bool false] 64)).cell? ⟨v7.heap.size, 4, none⟩ = some (.bool false) := by go_simp
          go_wp2_with fail
          go_ret
          exact ⟨rfl, seqB (seqB bw0 bV) (seqB s7 (aB v7 _))⟩
        | some pq =>
          obtain ⟨⟨o1, o2⟩, ⟨o3, o4⟩⟩ := pq
          dsimp only [Mk.hitV, Option.isSome, Mk.hit5] at K6 ⊢
          have f0 : (v5.alloc (.cells #[.int .u64 o1, .int .u64 o2, .int .u64 o3, .int .u64 o4] 60)).cell? ⟨v5.heap.size, 0, none⟩ = some (.int .u64 o1) := by go_simp
          have f1 : (v5.alloc (.cells #[.int .u64 o1, .int .u64 o2, .int .u64 o3, .int .u64 o4] 60)).cell? ⟨v5.heap.size, 1, none⟩ = some (.int .u64 o2) := by go_simp
          have f2 : (v5.alloc (.cells #[.int .u64 o1, .int .u64 o2, .int .u64 o3, .int .u64 o4] 60)).cell? ⟨v5.heap.size, 2, none⟩ = some (.int .u64 o3) := by go_simp
          have f3 : (v5.alloc (.cells #[.int .u64 o1, .int .u64 o2, .int .u64 o3, .int .u64 o4] 60)).cell? ⟨v5.heap.size, 3, none⟩ = some (.int .u64 o4) := by go_simp
          have s6 : Below V.heap.size V (v5.alloc (.cells #[.int .u64 o1, .int .u64 o2, .int .u64 o3, .int .u64 o4] 60)) := seqB s5 (aB v5 _)
          obtain ⟨⟨d0, d1⟩, ⟨g0, g1⟩, g2, g3⟩ := HD.out _ s6
          go_wp2_with fail
          generalize v5.alloc (.cells #[.int .u64 o1, .int .u64 o2, .int .u64 o3, .int .u64 o4] 60) = v6 at f0 f1 f2 f3 s6 ⊢
          generalize v5.heap.size = F at f0 f1 f2 f3 ⊢
          clear d0 d1 g0 g1 g2 g3
          (with_reducible refine (K6.out _ s6).mono ?_)
          rintro e v7 ⟨rfl, cc⟩
          have c8 := cc.trans ((aB v7 (.cells #[.int .u64 o1, .int .u64 o2, .int .u64 o3, .int .u64 o4, .bool true] 64)).mono cc.size)
          have s7 := seqB s6 cc
          have f0 := (c8.cell (p := ⟨F, 0, none⟩) (World.lt_of_cell f0)).trans f0
          have f1 := (c8.cell (p := ⟨F, 1, none⟩) (World.lt_of_cell f1)).trans f1
          have f2 := (c8.cell (p := ⟨F, 2, none⟩) (World.lt_of_cell f2)).trans f2
          have f3 := (c8.cell (p := ⟨F, 3, none⟩) (World.lt_of_cell f3)).trans f3
          have k0 : (v7.alloc (.cells #[.int .u64 o1, .int .u64 o2, .int .u64 o3, .int .u64 o4, .bool true] 64)).cell? ⟨v7.heap.size, 0, none⟩ = some (.int .u64 o1) := by go_simp
          have k1 : (v7.alloc (.cells #[.int .u64 o1, .int .u64 o2, .int .u64 o3, .int .u64 o4, .bool true] 64)).cell? ⟨v7.heap.size, 1, none⟩ = some (.int .u64 o2) := by go_simp
          have k2 : (v7.alloc (.cells #[.int .u64 o1, .int .u64 o2, .int .u64 o3, .int .u64 o4, .bool true] 64)).cell? ⟨v7.heap.size, 2, none⟩ = some (.int .u64 o3) := by go_simp
          have k3 : (v7.alloc (.cells #[.int .u64 o1, .int .u64 o2, .int .u64 o3, .int .u64 o4, .bool true] 64)).cell? ⟨v7.heap.size, 3, none⟩ = some (.int .u64 o4) := by go_simp
          have k4 : (v7.alloc (.cells #[.int .u64 o1, .int .u64 o2, .int .u64 o3, .int .u64 o4, .bool true] 64)).cell? ⟨v7.heap.size, 4, none⟩ = some (.bool true) := by go_simp
          go_wp2_with fail
          go_ret
          exact ⟨rfl, seqB (seqB bw0 bV) (seqB s7 (aB v7 _))⟩
      · have u0 : (E == 0) = false := by simpa using hz0
        clear hz hz0
        go_wp2_with fail
        generalize w7.alloc (.cells #[.int .u64 l1, .slice a1 p1.length c1] 50) = V at d0 d1 m0 m1 f0 f1 b8 HPAg HSh HPX HW8 y2 ⊢
        generalize w7.heap.size = D at d0 d1 m0 m1 hlF lF ⊢
        have HY := HPX
        have bV := b8
        clear HPAg HSh HW8 y2 m0 m1 f0 f1 HPA HSg x0 x1 x2 x3 y0 y1 HPS HPX b7
        have hD : ∀ u, Below V.heap.size V u → (u.cell? ⟨D, 0, none⟩ = some (.int .u64 l1) ∧ u.cell? ⟨D, 1, none⟩ = some (.slice a1 p1.length c1)) ∧ (u.cell? ⟨X, 0, none⟩ = some (.int .u64 l1) ∧ u.cell? ⟨X, 1, none⟩ = some (.slice a1 p1.length c1)) ∧ u.cell? ⟨X, 2, none⟩ = some (.int .u64 l2) ∧ u.cell? ⟨X, 3, none⟩ = some (.slice a2 p2.length c2) := fun u hu => by
          obtain ⟨⟨g0, g1, g2, g3⟩, _⟩ := HC.out u (seqB bV hu)
          exact ⟨⟨(hu.cell (p := ⟨D, 0, none⟩) (World.lt_of_cell d0)).trans d0, (hu.cell (p := ⟨D, 1, none⟩) (World.lt_of_cell d1)).trans d1⟩, ⟨g0, g1⟩, g2, g3⟩
        have HD := hid hD
        clear hD d0 d1
        have HP2 := hid ((HS2.out.stays bw0).stays bV)
        obtain ⟨ck1, hk1⟩ : ∃ c, Mk.check R n i l1 p1 = c := ⟨_, rfl⟩
        obtain ⟨ck2, hk2⟩ : ∃ c, Mk.check l1 n i l2 p2 = c := ⟨_, rfl⟩
        obtain ⟨h, hh⟩ : ∃ h, Mk.collide n i l1 p1 l2 p2 = h := ⟨_, rfl⟩
        have K1 := hid (fun u (hu : Below V.heap.size V u) => checkL_any R n i l1 (.slice a1 p1.length c1) p1 u (HY.out.stays hu))
        have K2 := hid (fun u (hu : Below V.heap.size V u) => rcheck_any R n i l1 (.slice a1 p1.length c1) p1 u (HY.out.stays hu))
        have K3 := hid (fun u (hu : Below V.heap.size V u) => checkL_any l1 n i l2 (.slice a2 p2.length c2) p2 u (HP2.out.stays hu))
        have K4 := hid (fun u (hu : Below V.heap.size V u) => rcheck_any l1 n i l2 (.slice a2 p2.length c2) p2 u (HP2.out.stays hu))
        have K5 := hid (fun u (hu : Below V.heap.size V u) => collide_any n i l1 l2 (.slice a1 p1.length c1) (.slice a2 p2.length c2) p1 p2 u (HY.out.stays hu) (HP2.out.stays hu))
        have K6 := hid (fun u (hu : Below V.heap.size V u) => rcollide_any n i l1 l2 (.slice a1 p1.length c1) (.slice a2 p2.length c2) p1 p2 u (HY.out.stays hu) (HP2.out.stays hu))
        rw [hk1] at K1 K2
        rw [hk2] at K3 K4
        rw [hh] at K5 K6
        have e1 : (ck1 != ck1) = false := by simp
        have e2 : (ck2 != ck2) = false := by simp
        have s0 : Below V.heap.size V V.drew := dB V
        have hD0 := HD.out _ s0
        clear hk1 hk2 hh HP2 HY HS1 HS2
        go_wp2_with fail
        go_region_held3 (fun u => (u.cell? ⟨D, 0, none⟩ = some (.int .u64 l1) ∧ u.cell? ⟨D, 1, none⟩ = some (.slice a1 p1.length c1)) ∧ (u.cell? ⟨X, 0, none⟩ = some (.int .u64 l1) ∧ u.cell? ⟨X, 1, none⟩ = some (.slice a1 p1.length c1)) ∧ u.cell? ⟨X, 2, none⟩ = some (.int .u64 l2) ∧ u.cell? ⟨X, 3, none⟩ = some (.slice a2 p2.length c2))
          (first | exact hD0 | exact HD.out _ s4 | exact HD.out _ s3 | exact HD.out _ s2 | exact HD.out _ s1)
          (first
            | (go_at_call 35; (with_reducible refine (K1.out _ s0).mono ?_); rintro e v1 ⟨rfl, cc⟩; have s1 := seqB s0 cc; clear cc)
            | (go_at_call 39; (with_reducible refine (K2.out _ s1).mono ?_); rintro e v2 ⟨rfl, cc⟩; have s2 := seqB s1 cc; clear cc)
            | (go_at_call 35; (with_reducible refine (K3.out _ s2).mono ?_); rintro e v3 ⟨rfl, cc⟩; have s3 := seqB s2 cc; clear cc)
            | (go_at_call 39; (with_reducible refine (K4.out _ s3).mono ?_); rintro e v4 ⟨rfl, cc⟩; have s4 := seqB s3 cc; clear cc)
            | fail)
        obtain ⟨⟨d0, d1⟩, ⟨g0, g1⟩, g2, g3⟩ := HD.out _ s4
        clear s0 s1 s2 s3 hD0
        go_wp2_with fail
        (with_reducible refine (K5.out _ s4).mono ?_)
        rintro e v5 ⟨rfl, cc⟩
        have s5 := seqB s4 cc
        clear d0 d1 g0 g1 g2 g3 cc
        cases h with
        | none =>
          dsimp only [Mk.hitV, Option.isSome, Mk.hit5] at K6 ⊢
          have f0 : (v5.alloc (.cells #[.int .u64 0, .int .u64 0, .int .u64 0, .int .u64 0] 60)).cell? ⟨v5.heap.size, 0, none⟩ = some (.int .u64 0) := by go_simp
          have f1 : (v5.alloc (.cells #[.int .u64 0, .int .u64 0, .int .u64 0, .int .u64 0] 60)).cell? ⟨v5.heap.size, 1, none⟩ = some (.int .u64 0) := by go_simp
          have f2 : (v5.alloc (.cells #[.int .u64 0, .int .u64 0, .int .u64 0, .int .u64 0] 60)).cell? ⟨v5.heap.size, 2, none⟩ = some (.int .u64 0) := by go_simp
          have f3 : (v5.alloc (.cells #[.int .u64 0, .int .u64 0, .int .u64 0, .int .u64 0] 60)).cell? ⟨v5.heap.size, 3, none⟩ = some (.int .u64 0) := by go_simp
          have s6 : Below V.heap.size V (v5.alloc (.cells #[.int .u64 0, .int .u64 0, .int .u64 0, .int .u64 0] 60)) := seqB s5 (aB v5 _)
          obtain ⟨⟨d0, d1⟩, ⟨g0, g1⟩, g2, g3⟩ := HD.out _ s6
          go_wp2_with fail
          generalize v5.alloc (.cells #[.int .u64 0, .int .u64 0, .int .u64 0, .int .u64 0] 60) = v6 at f0 f1 f2 f3 s6 ⊢
          generalize v5.heap.size = F at f0 f1 f2 f3 ⊢
          clear d0 d1 g0 g1 g2 g3
          (with_reducible refine (K6.out _ s6).mono ?_)
          rintro e v7 ⟨rfl, cc⟩
          have c8 := cc.trans ((aB v7 (.cells #[.int .u64 0, .int .u64 0, .int .u64 0, .int .u64 0, .bool false] 64)).mono cc.size)
          have s7 := seqB s6 cc
          have f0 := (c8.cell (p := ⟨F, 0, none⟩) (World.lt_of_cell f0)).trans f0
          have f1 := (c8.cell (p := ⟨F, 1, none⟩) (World.lt_of_cell f1)).trans f1
          have f2 := (c8.cell (p := ⟨F, 2, none⟩) (World.lt_of_cell f2)).trans f2
          have f3 := (c8.cell (p := ⟨F, 3, none⟩) (World.lt_of_cell f3)).trans f3
          have k0 : (v7.alloc (.cells #[.int .u64 0, .int .u64 0, .int .u64 0, .int .u64 0, .bool false] 64)).cell? ⟨v7.heap.size, 0, none⟩ = some (.int .u64 0) := by go_simp
          have k1 : (v7.alloc (.cells #[.int .u64 0, .int .u64 0, .int .u64 0, .int .u64 0, .bool false] 64)).cell? ⟨v7.heap.size, 1, none⟩ = some (.int .u64 0) := by go_simp
          have k2 : (v7.alloc (.cells #[.int .u64 0, .int .u64 0, .int .u64 0, .int .u64 0, .bool false] 64)).cell? ⟨v7.heap.size, 2, none⟩ = some (.int .u64 0) := by go_simp
          have k3 : (v7.alloc (.cells #[.int .u64 0, .int .u64 0, .int .u64 0, .int .u64 0, .bool false] 64)).cell? ⟨v7.heap.size, 3, none⟩ = some (.int .u64 0) := by go_simp
          have k4 : (v7.alloc (.cells #[.int .u64 0, .int .u64 0, .int .u64 0, .int .u64 0, .bool false] 64)).cell? ⟨v7.heap.size, 4, none⟩ = some (.bool false) := by go_simp
          go_wp2_with fail
          go_ret
          exact ⟨rfl, seqB (seqB bw0 bV) (seqB s7 (aB v7 _))⟩
        | some pq =>
          obtain ⟨⟨o1, o2⟩, ⟨o3, o4⟩⟩ := pq
          dsimp only [Mk.hitV, Option.isSome, Mk.hit5] at K6 ⊢
          have f0 : (v5.alloc (.cells #[.int .u64 o1, .int .u64 o2, .int .u64 o3, .int .u64 o4] 60)).cell? ⟨v5.heap.size, 0, none⟩ = some (.int .u64 o1) := by go_simp
          have f1 : (v5.alloc (.cells #[.int .u64 o1, .int .u64 o2, .int .u64 o3, .int .u64 o4] 60)).cell? ⟨v5.heap.size, 1, none⟩ = some (.int .u64 o2) := by go_simp
          have f2 : (v5.alloc (.cells #[.int .u64 o1, .int .u64 o2, .int .u64 o3, .int .u64 o4] 60)).cell? ⟨v5.heap.size, 2, none⟩ = some (.int .u64 o3) := by go_simp
          have f3 : (v5.alloc (.cells #[.int .u64 o1, .int .u64 o2, .int .u64 o3, .int .u64 o4] 60)).cell? ⟨v5.heap.size, 3, none⟩ = some (.int .u64 o4) := by go_simp
          have s6 : Below V.heap.size V (v5.alloc (.cells #[.int .u64 o1, .int .u64 o2, .int .u64 o3, .int .u64 o4] 60)) := seqB s5 (aB v5 _)
          obtain ⟨⟨d0, d1⟩, ⟨g0, g1⟩, g2, g3⟩ := HD.out _ s6
          go_wp2_with fail
          generalize v5.alloc (.cells #[.int .u64 o1, .int .u64 o2, .int .u64 o3, .int .u64 o4] 60) = v6 at f0 f1 f2 f3 s6 ⊢
          generalize v5.heap.size = F at f0 f1 f2 f3 ⊢
          clear d0 d1 g0 g1 g2 g3
          (with_reducible refine (K6.out _ s6).mono ?_)
          rintro e v7 ⟨rfl, cc⟩
          have c8 := cc.trans ((aB v7 (.cells #[.int .u64 o1, .int .u64 o2, .int .u64 o3, .int .u64 o4, .bool true] 64)).mono cc.size)
          have s7 := seqB s6 cc
          have f0 := (c8.cell (p := ⟨F, 0, none⟩) (World.lt_of_cell f0)).trans f0
          have f1 := (c8.cell (p := ⟨F, 1, none⟩) (World.lt_of_cell f1)).trans f1
          have f2 := (c8.cell (p := ⟨F, 2, none⟩) (World.lt_of_cell f2)).trans f2
          have f3 := (c8.cell (p := ⟨F, 3, none⟩) (World.lt_of_cell f3)).trans f3
          have k0 : (v7.alloc (.cells #[.int .u64 o1, .int .u64 o2, .int .u64 o3, .int .u64 o4, .bool true] 64)).cell? ⟨v7.heap.size, 0, none⟩ = some (.int .u64 o1) := by go_simp
          have k1 : (v7.alloc (.cells #[.int .u64 o1, .int .u64 o2, .int .u64 o3, .int .u64 o4, .bool true] 64)).cell? ⟨v7.heap.size, 1, none⟩ = some (.int .u64 o2) := by go_simp
          have k2 : (v7.alloc (.cells #[.int .u64 o1, .int .u64 o2, .int .u64 o3, .int .u64 o4, .bool true] 64)).cell? ⟨v7.heap.size, 2, none⟩ = some (.int .u64 o3) := by go_simp
          have k3 : (v7.alloc (.cells #[.int .u64 o1, .int .u64 o2, .int .u64 o3, .int .u64 o4, .bool true] 64)).cell? ⟨v7.heap.size, 3, none⟩ = some (.int .u64 o4) := by go_simp
          have k4 : (v7.alloc (.cells #[.int .u64 o1, .int .u64 o2, .int .u64 o3, .int .u64 o4, .bool true] 64)).cell? ⟨v7.heap.size, 4, none⟩ = some (.bool true) := by go_simp
          go_wp2_with fail
          go_ret
          exact ⟨rfl, seqB (seqB bw0 bV) (seqB s7 (aB v7 _))⟩
  · have n0 : ¬ (xs.length ≤ 60 ∧ p1.length ≤ 60 ∧ p2.length ≤ 60) := hok
    by_cases h0 : 60 < xs.length
    · have t0 : decide ((60 : Int) < (xs.length : Int)) = true := decide_eq_true (by omega)
      go_wp2_with fail
      go_ret
      exact ⟨rfl, seqB bw0 b1⟩
    · have t0 : decide ((60 : Int) < (xs.length : Int)) = false := decide_eq_false (by omega)
      by_cases h1 : 60 < p1.length
      · have t1 : decide ((60 : Int) < (p1.length : Int)) = true := decide_eq_true (by omega)
        go_wp2_with fail
        go_ret
        exact ⟨rfl, seqB bw0 b1⟩
      · have t1 : decide ((60 : Int) < (p1.length : Int)) = false := decide_eq_false (by omega)
        have t2 : decide ((60 : Int) < (p2.length : Int)) = true := decide_eq_true (by omega)
        clear n0 hok
        go_wp2_with fail
        go_ret
        exact ⟨rfl, seqB bw0 b1⟩
end Go.Proofs.Ytifpkhgcoopjnaa
