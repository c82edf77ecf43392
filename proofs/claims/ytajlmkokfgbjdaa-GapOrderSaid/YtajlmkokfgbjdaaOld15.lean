/- What Assume of package gap computes. Conditions: sizes, bounds. -/
import Derived.Test.YtajlmkokfgbjdaaOld14
set_option linter.unusedVariables false
set_option linter.unusedSimpArgs false
namespace Go.Proofs.Ytajlmkokfgbjdaa
open Go.RowKit

theorem eqBB (a b c d : Bool) (w : World) : (Op.equalIn 10000 30 (.agg #[.bool a, .bool b]) (.agg #[.bool c, .bool d])).run Try.prog w = .ok (a == c && b == d) w := by
  have u3 := Try.underlying4
  have a3 := Try.isAgg4
  have z3 := Try.sizeOf4
  rw [show (10000 : Nat) = 9999 + 1 from rfl, Op.equalIn]
  simp only [Sem.run_bind, run_underlying Try.underlying30, Result.andThen_ok]
  simp only [Std.Legacy.Range.forIn_eq_forIn_range', Std.Legacy.Range.size, Nat.sub_zero, Nat.add_sub_cancel, Nat.div_one, List.range'_succ, List.range'_zero, List.forIn_cons, List.forIn_nil]
  go_simp
  cases a <;> cases b <;> cases c <;> cases d <;> simp
theorem guardBB : Try.prog.eqGuardType Try.prog.depth 30 = false := by kernel_rfl
attribute [local go_sem] eqBB guardBB

set_option maxRecDepth 100000 in
set_option maxHeartbeats 8000000 in
theorem assume_any (gv av bv : Value) (g : List (List Int)) (a b : Gp.X) (op : Int) (holds f0 f1 : Bool) (p : Nat) (w : World) (hg : Small g) (hr : Rect g p) (hfine : Gp.Fine g) (hs : Mx w gv g) (ha : IsX w av a) (hb : IsX w bv b) :
    Calls Try.prog 20 #[gv, .int .i64 op, .bool holds, av, bv, .agg #[.bool f0, .bool f1]] w fun e w' => ∃ v', e = .returned v' ∧ OwnM w.heap.size w' v' (Gp.assume_ g op holds a b f0 f1) ∧ Below w.heap.size w w' := by
  have HA := hid ha
  have HB := hid hb
  obtain ⟨a0, a1, a2, aa, al, ac, rfl⟩ := ha.form
  obtain ⟨b0, b1, b2, ba, bl, bc, rfl⟩ := hb.form
  have HS := hid hs
  have HGS := hid hg
  have HF := hid hfine
  have HR := hid hr
  obtain ⟨ga, gc, rfl, _⟩ := hs
  obtain ⟨n, hn⟩ : ∃ n, g.length = n := ⟨_, rfl⟩
  have HN := hid hn
  have hg0 := hg.1
  rw [hn] at hg0 HS ⊢
  clear ha hb hfine hr hn hg
  have z0 : ((((w.alloc (.cells #[.slice ga n gc] 34)).alloc (.cells #[.int .i64 a0, .int .i64 a1, .int .i64 a2, .slice aa al ac] 42)).alloc (.cells #[.int .i64 b0, .int .i64 b1, .int .i64 b2, .slice ba bl bc] 42)).alloc (.cells #[.bool f0, .bool f1] 30)).heap[w.heap.size]? = some (.cells #[.slice ga n gc] 34 (0, 0)) := ((seqB (aB (w.alloc (.cells #[.slice ga n gc] 34)) _) (seqB (aB _ _) (aB _ _))).block w.heap.size (by simp)).trans (heap_alloc_new w _)
  have y0 : ((((w.alloc (.cells #[.slice ga n gc] 34)).alloc (.cells #[.int .i64 a0, .int .i64 a1, .int .i64 a2, .slice aa al ac] 42)).alloc (.cells #[.int .i64 b0, .int .i64 b1, .int .i64 b2, .slice ba bl bc] 42)).alloc (.cells #[.bool f0, .bool f1] 30)).cell? ⟨w.heap.size + 1, 0, none⟩ = some (.int .i64 a0) := by go_simp
  have y1 : ((((w.alloc (.cells #[.slice ga n gc] 34)).alloc (.cells #[.int .i64 a0, .int .i64 a1, .int .i64 a2, .slice aa al ac] 42)).alloc (.cells #[.int .i64 b0, .int .i64 b1, .int .i64 b2, .slice ba bl bc] 42)).alloc (.cells #[.bool f0, .bool f1] 30)).cell? ⟨w.heap.size + 1, 1, none⟩ = some (.int .i64 a1) := by go_simp
  have y2 : ((((w.alloc (.cells #[.slice ga n gc] 34)).alloc (.cells #[.int .i64 a0, .int .i64 a1, .int .i64 a2, .slice aa al ac] 42)).alloc (.cells #[.int .i64 b0, .int .i64 b1, .int .i64 b2, .slice ba bl bc] 42)).alloc (.cells #[.bool f0, .bool f1] 30)).cell? ⟨w.heap.size + 1, 2, none⟩ = some (.int .i64 a2) := by go_simp
  have y3 : ((((w.alloc (.cells #[.slice ga n gc] 34)).alloc (.cells #[.int .i64 a0, .int .i64 a1, .int .i64 a2, .slice aa al ac] 42)).alloc (.cells #[.int .i64 b0, .int .i64 b1, .int .i64 b2, .slice ba bl bc] 42)).alloc (.cells #[.bool f0, .bool f1] 30)).cell? ⟨w.heap.size + 1, 3, none⟩ = some (.slice aa al ac) := by go_simp
  have x0 : ((((w.alloc (.cells #[.slice ga n gc] 34)).alloc (.cells #[.int .i64 a0, .int .i64 a1, .int .i64 a2, .slice aa al ac] 42)).alloc (.cells #[.int .i64 b0, .int .i64 b1, .int .i64 b2, .slice ba bl bc] 42)).alloc (.cells #[.bool f0, .bool f1] 30)).cell? ⟨w.heap.size + 1 + 1, 0, none⟩ = some (.int .i64 b0) := by go_simp
  have x1 : ((((w.alloc (.cells #[.slice ga n gc] 34)).alloc (.cells #[.int .i64 a0, .int .i64 a1, .int .i64 a2, .slice aa al ac] 42)).alloc (.cells #[.int .i64 b0, .int .i64 b1, .int .i64 b2, .slice ba bl bc] 42)).alloc (.cells #[.bool f0, .bool f1] 30)).cell? ⟨w.heap.size + 1 + 1, 1, none⟩ = some (.int .i64 b1) := by go_simp
  have x2 : ((((w.alloc (.cells #[.slice ga n gc] 34)).alloc (.cells #[.int .i64 a0, .int .i64 a1, .int .i64 a2, .slice aa al ac] 42)).alloc (.cells #[.int .i64 b0, .int .i64 b1, .int .i64 b2, .slice ba bl bc] 42)).alloc (.cells #[.bool f0, .bool f1] 30)).cell? ⟨w.heap.size + 1 + 1, 2, none⟩ = some (.int .i64 b2) := by go_simp
  have x3 : ((((w.alloc (.cells #[.slice ga n gc] 34)).alloc (.cells #[.int .i64 a0, .int .i64 a1, .int .i64 a2, .slice aa al ac] 42)).alloc (.cells #[.int .i64 b0, .int .i64 b1, .int .i64 b2, .slice ba bl bc] 42)).alloc (.cells #[.bool f0, .bool f1] 30)).cell? ⟨w.heap.size + 1 + 1, 3, none⟩ = some (.slice ba bl bc) := by go_simp
  have v0 : ((((w.alloc (.cells #[.slice ga n gc] 34)).alloc (.cells #[.int .i64 a0, .int .i64 a1, .int .i64 a2, .slice aa al ac] 42)).alloc (.cells #[.int .i64 b0, .int .i64 b1, .int .i64 b2, .slice ba bl bc] 42)).alloc (.cells #[.bool f0, .bool f1] 30)).cell? ⟨w.heap.size + 1 + 1 + 1, 0, none⟩ = some (.bool f0) := by go_simp
  have v1 : ((((w.alloc (.cells #[.slice ga n gc] 34)).alloc (.cells #[.int .i64 a0, .int .i64 a1, .int .i64 a2, .slice aa al ac] 42)).alloc (.cells #[.int .i64 b0, .int .i64 b1, .int .i64 b2, .slice ba bl bc] 42)).alloc (.cells #[.bool f0, .bool f1] 30)).cell? ⟨w.heap.size + 1 + 1 + 1, 1, none⟩ = some (.bool f1) := by go_simp
  have bw : Below w.heap.size w ((((w.alloc (.cells #[.slice ga n gc] 34)).alloc (.cells #[.int .i64 a0, .int .i64 a1, .int .i64 a2, .slice aa al ac] 42)).alloc (.cells #[.int .i64 b0, .int .i64 b1, .int .i64 b2, .slice ba bl bc] 42)).alloc (.cells #[.bool f0, .bool f1] 30)) := seqB (aB w _) (seqB (aB _ _) (seqB (aB _ _) (aB _ _)))
  go_enter Try.func20, Try.ntmps20
  go_upto_region 1 with (fail)
  generalize ((((w.alloc (.cells #[.slice ga n gc] 34)).alloc (.cells #[.int .i64 a0, .int .i64 a1, .int .i64 a2, .slice aa al ac] 42)).alloc (.cells #[.int .i64 b0, .int .i64 b1, .int .i64 b2, .slice ba bl bc] 42)).alloc (.cells #[.bool f0, .bool f1] 30)) = W4 at z0 y0 y1 y2 y3 x0 x1 x2 x3 v0 v1 bw ⊢
  generalize w.heap.size + 1 + 1 + 1 = VB at v0 v1 ⊢
  generalize w.heap.size + 1 + 1 = BB at x0 x1 x2 x3 ⊢
  generalize w.heap.size + 1 = AB at y0 y1 y2 y3 ⊢
  obtain ⟨PG, hPG⟩ : ∃ q, w.heap.size = q := ⟨_, rfl⟩
  rw [hPG] at z0 ⊢
  have HPG := hid hPG
  clear hPG
  have hc : ∀ u, Below W4.heap.size W4 u → u.heap[PG]? = some (.cells #[.slice ga n gc] 34 (0, 0)) ∧ (u.cell? ⟨AB, 0, none⟩ = some (.int .i64 a0) ∧ u.cell? ⟨AB, 1, none⟩ = some (.int .i64 a1) ∧ u.cell? ⟨AB, 2, none⟩ = some (.int .i64 a2) ∧ u.cell? ⟨AB, 3, none⟩ = some (.slice aa al ac)) ∧ (u.cell? ⟨BB, 0, none⟩ = some (.int .i64 b0) ∧ u.cell? ⟨BB, 1, none⟩ = some (.int .i64 b1) ∧ u.cell? ⟨BB, 2, none⟩ = some (.int .i64 b2) ∧ u.cell? ⟨BB, 3, none⟩ = some (.slice ba bl bc)) ∧ u.cell? ⟨VB, 0, none⟩ = some (.bool f0) ∧ u.cell? ⟨VB, 1, none⟩ = some (.bool f1) := fun u hu =>
    ⟨(hu.block PG (Array.getElem?_eq_some_iff.1 z0).1).trans z0, ⟨(hu.cell (p := ⟨AB, 0, none⟩) (World.lt_of_cell y0)).trans y0, (hu.cell (p := ⟨AB, 1, none⟩) (World.lt_of_cell y1)).trans y1, (hu.cell (p := ⟨AB, 2, none⟩) (World.lt_of_cell y2)).trans y2, (hu.cell (p := ⟨AB, 3, none⟩) (World.lt_of_cell y3)).trans y3⟩,
      ⟨(hu.cell (p := ⟨BB, 0, none⟩) (World.lt_of_cell x0)).trans x0, (hu.cell (p := ⟨BB, 1, none⟩) (World.lt_of_cell x1)).trans x1, (hu.cell (p := ⟨BB, 2, none⟩) (World.lt_of_cell x2)).trans x2, (hu.cell (p := ⟨BB, 3, none⟩) (World.lt_of_cell x3)).trans x3⟩, (hu.cell (p := ⟨VB, 0, none⟩) (World.lt_of_cell v0)).trans v0, (hu.cell (p := ⟨VB, 1, none⟩) (World.lt_of_cell v1)).trans v1⟩
  have HC := hid hc
  have cC := hid (clone_any (.slice ga n gc) g W4 HGS.out (HS.out.stays bw))
  have q1 : W4.cell? ⟨PG, 0, none⟩ = some (.slice ga n gc) := by simp [World.cell?, z0]
  clear hc y0 y1 y2 y3 x0 x1 x2 x3 v0 v1 z0
  go_wp2_with fail
  refine cC.out.mono ?_
  rintro e w5 ⟨vo, rfl, ho, c5⟩
  have ho' := ho.mono bw.size
  obtain ⟨gb, cp, rfl, hgb0, hgb1, hcp0, hcp1⟩ := OwnS.form ho' (by rw [HN.out]; exact hg0)
  rw [HN.out] at ho' ⊢
  have o5 : Below w5.heap.size w5 (w5.alloc (.cells #[.slice (some ⟨gb, 0, none⟩) n cp] 34)) := aB w5 _
  have HO := hid (OwnS.kept ho' o5)
  have s5 := seqB c5 o5
  have hpo := heap_alloc_new w5 (.cells #[.slice (some ⟨gb, 0, none⟩) n cp] 34)
  obtain ⟨z0, ⟨y0, y1, y2, y3⟩, ⟨x0, x1, x2, x3⟩, v0, v1⟩ := HC.out _ s5
  have q1 : (w5.alloc (.cells #[.slice (some ⟨gb, 0, none⟩) n cp] 34)).cell? ⟨PG, 0, none⟩ = some (.slice ga n gc) := by simp only [World.cell?, z0]; rfl
  clear ho ho' hcp1 cC o5 c5
  go_upto_region 2 with (fail)
  generalize w5.alloc (.cells #[.slice (some ⟨gb, 0, none⟩) n cp] 34) = W5 at HO s5 hpo z0 y0 y1 y2 y3 x0 x1 x2 x3 v0 v1 q1 ⊢
  generalize w5.heap.size = PO at hpo ⊢
  have cA := hid (shiftOf_any (.agg #[.int .i64 a0, .int .i64 a1, .int .i64 a2, .slice aa al ac]) a n W5 ((HA.out.stays bw).stays s5))
  go_wp2_with fail
  refine cA.out.mono ?_
  rintro e w6 ⟨rfl, c6⟩
  obtain ⟨sa, hsa⟩ : ∃ s, Gp.shift n a = s := ⟨_, rfl⟩
  rw [hsa]
  have HSA := hid hsa
  have hpo6 := (c6.block PO (Array.getElem?_eq_some_iff.1 hpo).1).trans hpo
  have s6 := seqB s5 c6
  have HO6 := hid (OwnS.kept HO.out c6)
  clear hsa cA HO hpo z0 y0 y1 y2 y3 x0 x1 x2 x3 v0 v1 q1
  -- the first shift's box
  obtain ⟨xw, hxw⟩ : ∃ q, (sa.getD (0, 0)).1 = q := ⟨_, rfl⟩
  obtain ⟨xc, hxc⟩ : ∃ q, (sa.getD (0, 0)).2 = q := ⟨_, rfl⟩
  obtain ⟨xo, hxo⟩ : ∃ q, sa.isSome = q := ⟨_, rfl⟩
  unfold shiftV
  rw [hxw, hxc, hxo]
  have HXW := hid hxw
  have HXC := hid hxc
  have HXO := hid hxo
  clear hxw hxc hxo
  have o6 : Below w6.heap.size w6 (w6.alloc (.cells #[.int .i64 xw, .int .i64 xc] 71)) := aB w6 _
  have hs1 := heap_alloc_new w6 (.cells #[.int .i64 xw, .int .i64 xc] 71)
  have hpo7 := (o6.block PO (Array.getElem?_eq_some_iff.1 hpo6).1).trans hpo6
  have s7 := seqB s6 o6
  have HO7 := hid (OwnS.kept HO6.out o6)
  obtain ⟨z0, ⟨y0, y1, y2, y3⟩, ⟨x0, x1, x2, x3⟩, v0, v1⟩ := HC.out _ s7
  have q1 : (w6.alloc (.cells #[.int .i64 xw, .int .i64 xc] 71)).cell? ⟨PG, 0, none⟩ = some (.slice ga n gc) := by simp only [World.cell?, z0]; rfl
  clear HO6 hpo6 o6 s6
  go_upto_region 3 with (fail)
  generalize w6.alloc (.cells #[.int .i64 xw, .int .i64 xc] 71) = W7 at HO7 s7 hpo7 hs1 z0 y0 y1 y2 y3 x0 x1 x2 x3 v0 v1 q1 ⊢
  generalize w6.heap.size = S1 at hs1 ⊢
  have cB := hid (shiftOf_any (.agg #[.int .i64 b0, .int .i64 b1, .int .i64 b2, .slice ba bl bc]) b n W7 ((HB.out.stays bw).stays s7))
  go_wp2_with fail
  refine cB.out.mono ?_
  rintro e w8 ⟨rfl, c8⟩
  obtain ⟨sb, hsb⟩ : ∃ s, Gp.shift n b = s := ⟨_, rfl⟩
  rw [hsb]
  have HSB := hid hsb
  have hpo8 := (c8.block PO (Array.getElem?_eq_some_iff.1 hpo7).1).trans hpo7
  have hs18 := (c8.block S1 (Array.getElem?_eq_some_iff.1 hs1).1).trans hs1
  have s8 := seqB s7 c8
  have HO8 := hid (OwnS.kept HO7.out c8)
  clear hsb cB HO7 hpo7 hs1 z0 y0 y1 y2 y3 x0 x1 x2 x3 v0 v1 q1
  obtain ⟨yw, hyw⟩ : ∃ q, (sb.getD (0, 0)).1 = q := ⟨_, rfl⟩
  obtain ⟨yc, hyc⟩ : ∃ q, (sb.getD (0, 0)).2 = q := ⟨_, rfl⟩
  obtain ⟨yo, hyo⟩ : ∃ q, sb.isSome = q := ⟨_, rfl⟩
  unfold shiftV
  rw [hyw, hyc, hyo]
  have HYW := hid hyw
  have HYC := hid hyc
  have HYO := hid hyo
  clear hyw hyc hyo
  have o8 : Below w8.heap.size w8 (w8.alloc (.cells #[.int .i64 yw, .int .i64 yc] 71)) := aB w8 _
  have hs2 := heap_alloc_new w8 (.cells #[.int .i64 yw, .int .i64 yc] 71)
  have hpo9 := (o8.block PO (Array.getElem?_eq_some_iff.1 hpo8).1).trans hpo8
  have hs19 := (o8.block S1 (Array.getElem?_eq_some_iff.1 hs18).1).trans hs18
  have s9 := seqB s8 o8
  have HO9 := hid (OwnS.kept HO8.out o8)
  obtain ⟨z0, _, _, v0, v1⟩ := HC.out _ s9
  clear HO8 hpo8 hs18 o8 s8 HC
  go_upto_region 4 with (fail)
  generalize w8.alloc (.cells #[.int .i64 yw, .int .i64 yc] 71) = W9 at HO9 s9 hpo9 hs19 hs2 z0 v0 v1 ⊢
  generalize w8.heap.size = S2 at hs2 ⊢
  have bw9 := seqB bw s9
  have hq : ∀ u, KpI W9 u → u.heap[PO]? = some (.cells #[.slice (some ⟨gb, 0, none⟩) n cp] 34 (0, 0)) ∧ u.heap[PG]? = some (.cells #[.slice ga n gc] 34 (0, 0)) ∧ u.heap[S1]? = some (.cells #[.int .i64 xw, .int .i64 xc] 71 (0, 0)) ∧ u.heap[S2]? = some (.cells #[.int .i64 yw, .int .i64 yc] 71 (0, 0)) := fun u hu =>
    ⟨hu _ _ _ _ hpo9 (by decide), hu _ _ _ _ z0 (by decide), hu _ _ _ _ hs19 (by decide), hu _ _ _ _ hs2 (by decide)⟩
  have HQ := hid hq
  have t0 : W9.cell? ⟨PO, 0, none⟩ = some (.slice (some ⟨gb, 0, none⟩) n cp) := by simp [World.cell?, hpo9]
  obtain ⟨⟨k0, _⟩, ⟨k1, _⟩, _⟩ := two_cells S1 71 W9 _ _ hs19
  obtain ⟨⟨k2, _⟩, ⟨k3, _⟩, _⟩ := two_cells S2 71 W9 _ _ hs2
  clear hq hpo9 hs19 hs2 z0 s9
  cases sa with
  | none =>
    obtain rfl : xo = false := HXO.out.symm
    have HRES : Hid (Gp.assume_ g op holds a b f0 f1 = g) := by
      show _ = _
      unfold Gp.assume_
      rw [HN.out, HSA.out]
    go_wp2_with fail
    go_ret
    exact ⟨_, rfl, by rw [HRES.out]; exact HO9.out, bw9⟩
  | some s1 =>
    obtain ⟨sw1, sc1⟩ := s1
    obtain rfl : xo = true := HXO.out.symm
    obtain rfl : sw1 = xw := HXW.out
    obtain rfl : sc1 = xc := HXC.out
    obtain ⟨g0, g1, g2, g3⟩ := Gp.shift_bounds HSA.out
    obtain ⟨xn, rfl⟩ : ∃ q : Nat, sw1 = q := ⟨sw1.toNat, by omega⟩
    have hxn : xn < n := by omega
    have hxb : -2147483648 ≤ sc1 ∧ sc1 ≤ 2147483648 := ⟨g2, g3⟩
    clear g0 g1 g2 g3
    cases sb with
    | none =>
      obtain rfl : yo = false := HYO.out.symm
      have HRES : Hid (Gp.assume_ g op holds a b f0 f1 = g) := by
        show _ = _
        unfold Gp.assume_
        rw [HN.out, HSA.out, HSB.out]
      go_wp2_with fail
      go_ret
      exact ⟨_, rfl, by rw [HRES.out]; exact HO9.out, bw9⟩
    | some s2 =>
      obtain ⟨sw2, sc2⟩ := s2
      obtain rfl : yo = true := HYO.out.symm
      obtain rfl : sw2 = yw := HYW.out
      obtain rfl : sc2 = yc := HYC.out
      obtain ⟨g0, g1, g2, g3⟩ := Gp.shift_bounds HSB.out
      obtain ⟨yn, rfl⟩ : ∃ q : Nat, sw2 = q := ⟨sw2.toNat, by omega⟩
      have hyn : yn < n := by omega
      have hyb : -2147483648 ≤ sc2 ∧ sc2 ≤ 2147483648 := ⟨g2, g3⟩
      clear g0 g1 g2 g3 HXO HXW HXC HYO HYW HYC
      cases f0
      · have HRES : Hid (Gp.assume_ g op holds a b false f1 = g) := by
          show _ = _
          unfold Gp.assume_
          rw [HN.out, HSA.out, HSB.out]
          simp
        go_wp2_with fail
        go_ret
        exact ⟨_, rfl, by rw [HRES.out]; exact HO9.out, bw9⟩
      · cases f1
        · have HRES : Hid (Gp.assume_ g op holds a b true false = g) := by
            show _ = _
            unfold Gp.assume_
            rw [HN.out, HSA.out, HSB.out]
            simp
          go_wp2_with fail
          go_ret
          exact ⟨_, rfl, by rw [HRES.out]; exact HO9.out, bw9⟩
        · by_cases h2 : op = 2
          · subst h2
            cases holds
            · have cL1 := hid (less_any PO PG gb n cp p ga gc g g yn xn sc2 sc1 0 w W9 HGS.out HR.out HF.out bw9 rfl HR.out (by rw [HN.out]; exact hyn) (by rw [HN.out]; exact hxn) HN.out hyb hxb (by omega) HO9.out HS.out (HQ.out _ (KpI.refl W9)).1 (HQ.out _ (KpI.refl W9)).2.1)
              go_wp2_with fail
              (with_reducible refine cL1.out.mono ?_)
              rintro e u1 ⟨⟨v, rfl⟩, ho1, b1, kp1⟩
              have HOU1 := hid ho1
              have KPU1 := hid (KpI.trans (KpI.refl W9) kp1)
              clear ho1 kp1 cL1
              obtain ⟨h11, h21, h31, h41⟩ := HQ.out _ KPU1.out
              have t1 : u1.cell? ⟨PO, 0, none⟩ = some (.slice (some ⟨gb, 0, none⟩) n cp) := by simp [World.cell?, h11]
              obtain ⟨⟨j01, _⟩, ⟨j11, _⟩, _⟩ := two_cells S1 71 u1 _ _ h31
              obtain ⟨⟨j21, _⟩, ⟨j31, _⟩, _⟩ := two_cells S2 71 u1 _ _ h41
              clear h11 h21 h31 h41
              have HRES : Hid (Gp.assume_ g 2 false a b true true = Gp.less g g yn xn (sc1 - sc2 - 0)) := by
                show _ = _
                unfold Gp.assume_
                rw [HN.out, HSA.out, HSB.out]
                simp
              go_wp2_with fail
              go_ret
              exact ⟨_, rfl, by rw [HRES.out]; exact HOU1.out, b1⟩
            · have cL1 := hid (less_any PO PG gb n cp p ga gc g g xn yn sc1 sc2 1 w W9 HGS.out HR.out HF.out bw9 rfl HR.out (by rw [HN.out]; exact hxn) (by rw [HN.out]; exact hyn) HN.out hxb hyb (by omega) HO9.out HS.out (HQ.out _ (KpI.refl W9)).1 (HQ.out _ (KpI.refl W9)).2.1)
              go_wp2_with fail
              (with_reducible refine cL1.out.mono ?_)
              rintro e u1 ⟨⟨v, rfl⟩, ho1, b1, kp1⟩
              have HOU1 := hid ho1
              have KPU1 := hid (KpI.trans (KpI.refl W9) kp1)
              clear ho1 kp1 cL1
              obtain ⟨h11, h21, h31, h41⟩ := HQ.out _ KPU1.out
              have t1 : u1.cell? ⟨PO, 0, none⟩ = some (.slice (some ⟨gb, 0, none⟩) n cp) := by simp [World.cell?, h11]
              obtain ⟨⟨j01, _⟩, ⟨j11, _⟩, _⟩ := two_cells S1 71 u1 _ _ h31
              obtain ⟨⟨j21, _⟩, ⟨j31, _⟩, _⟩ := two_cells S2 71 u1 _ _ h41
              clear h11 h21 h31 h41
              have HRES : Hid (Gp.assume_ g 2 true a b true true = Gp.less g g xn yn (sc2 - sc1 - 1)) := by
                show _ = _
                unfold Gp.assume_
                rw [HN.out, HSA.out, HSB.out]
                simp
              go_wp2_with fail
              go_ret
              exact ⟨_, rfl, by rw [HRES.out]; exact HOU1.out, b1⟩
          · by_cases h3 : op = 3
            · subst h3
              cases holds
              · have cL1 := hid (less_any PO PG gb n cp p ga gc g g yn xn sc2 sc1 1 w W9 HGS.out HR.out HF.out bw9 rfl HR.out (by rw [HN.out]; exact hyn) (by rw [HN.out]; exact hxn) HN.out hyb hxb (by omega) HO9.out HS.out (HQ.out _ (KpI.refl W9)).1 (HQ.out _ (KpI.refl W9)).2.1)
                go_wp2_with fail
                (with_reducible refine cL1.out.mono ?_)
                rintro e u1 ⟨⟨v, rfl⟩, ho1, b1, kp1⟩
                have HOU1 := hid ho1
                have KPU1 := hid (KpI.trans (KpI.refl W9) kp1)
                clear ho1 kp1 cL1
                obtain ⟨h11, h21, h31, h41⟩ := HQ.out _ KPU1.out
                have t1 : u1.cell? ⟨PO, 0, none⟩ = some (.slice (some ⟨gb, 0, none⟩) n cp) := by simp [World.cell?, h11]
                obtain ⟨⟨j01, _⟩, ⟨j11, _⟩, _⟩ := two_cells S1 71 u1 _ _ h31
                obtain ⟨⟨j21, _⟩, ⟨j31, _⟩, _⟩ := two_cells S2 71 u1 _ _ h41
                clear h11 h21 h31 h41
                have HRES : Hid (Gp.assume_ g 3 false a b true true = Gp.less g g yn xn (sc1 - sc2 - 1)) := by
                  show _ = _
                  unfold Gp.assume_
                  rw [HN.out, HSA.out, HSB.out]
                  simp
                go_wp2_with fail
                go_ret
                exact ⟨_, rfl, by rw [HRES.out]; exact HOU1.out, b1⟩
              · have cL1 := hid (less_any PO PG gb n cp p ga gc g g xn yn sc1 sc2 0 w W9 HGS.out HR.out HF.out bw9 rfl HR.out (by rw [HN.out]; exact hxn) (by rw [HN.out]; exact hyn) HN.out hxb hyb (by omega) HO9.out HS.out (HQ.out _ (KpI.refl W9)).1 (HQ.out _ (KpI.refl W9)).2.1)
                go_wp2_with fail
                (with_reducible refine cL1.out.mono ?_)
                rintro e u1 ⟨⟨v, rfl⟩, ho1, b1, kp1⟩
                have HOU1 := hid ho1
                have KPU1 := hid (KpI.trans (KpI.refl W9) kp1)
                clear ho1 kp1 cL1
                obtain ⟨h11, h21, h31, h41⟩ := HQ.out _ KPU1.out
                have t1 : u1.cell? ⟨PO, 0, none⟩ = some (.slice (some ⟨gb, 0, none⟩) n cp) := by simp [World.cell?, h11]
                obtain ⟨⟨j01, _⟩, ⟨j11, _⟩, _⟩ := two_cells S1 71 u1 _ _ h31
                obtain ⟨⟨j21, _⟩, ⟨j31, _⟩, _⟩ := two_cells S2 71 u1 _ _ h41
                clear h11 h21 h31 h41
                have HRES : Hid (Gp.assume_ g 3 true a b true true = Gp.less g g xn yn (sc2 - sc1 - 0)) := by
                  show _ = _
                  unfold Gp.assume_
                  rw [HN.out, HSA.out, HSB.out]
                  simp
                go_wp2_with fail
                go_ret
                exact ⟨_, rfl, by rw [HRES.out]; exact HOU1.out, b1⟩
            · have p2 : (op == 2) = false := by simpa using h2
              have p3 : (op == 3) = false := by simpa using h3
              by_cases h4 : op = 4
              · subst h4
                clear p2 p3 h2 h3
                cases holds
                · have HRES : Hid (Gp.assume_ g 4 false a b true true = g) := by
                    show _ = _
                    unfold Gp.assume_
                    rw [HN.out, HSA.out, HSB.out]
                    simp
                  go_wp2_with fail
                  go_ret
                  exact ⟨_, rfl, by rw [HRES.out]; exact HO9.out, bw9⟩
                · have cL1 := hid (less_any PO PG gb n cp p ga gc g g xn yn sc1 sc2 0 w W9 HGS.out HR.out HF.out bw9 rfl HR.out (by rw [HN.out]; exact hxn) (by rw [HN.out]; exact hyn) HN.out hxb hyb (by omega) HO9.out HS.out (HQ.out _ (KpI.refl W9)).1 (HQ.out _ (KpI.refl W9)).2.1)
                  go_wp2_with fail
                  (with_reducible refine cL1.out.mono ?_)
                  rintro e u1 ⟨⟨v, rfl⟩, ho1, b1, kp1⟩
                  have HOU1 := hid ho1
                  have KPU1 := hid (KpI.trans (KpI.refl W9) kp1)
                  clear ho1 kp1 cL1
                  obtain ⟨h11, h21, h31, h41⟩ := HQ.out _ KPU1.out
                  have t1 : u1.cell? ⟨PO, 0, none⟩ = some (.slice (some ⟨gb, 0, none⟩) n cp) := by simp [World.cell?, h11]
                  obtain ⟨⟨j01, _⟩, ⟨j11, _⟩, _⟩ := two_cells S1 71 u1 _ _ h31
                  obtain ⟨⟨j21, _⟩, ⟨j31, _⟩, _⟩ := two_cells S2 71 u1 _ _ h41
                  clear h11 h21 h31 h41
                  have cL2 := hid (less_any PO PG gb n cp p ga gc (Gp.less g g xn yn (sc2 - sc1 - 0)) g yn xn sc2 sc1 0 w u1 HGS.out HR.out HF.out b1 (Gp.tab_length _ _) (fun i hi => by unfold Gp.less at hi ⊢; rw [Gp.tab_rowlen]; rw [Gp.tab_length] at hi; exact HR.out i hi) (by rw [HN.out]; exact hyn) (by rw [HN.out]; exact hxn) HN.out hyb hxb (by omega) HOU1.out HS.out (HQ.out _ KPU1.out).1 (HQ.out _ KPU1.out).2.1)
                  go_wp2_with fail
                  (with_reducible refine cL2.out.mono ?_)
                  rintro e u2 ⟨⟨v, rfl⟩, ho2, b2, kp2⟩
                  have HOU2 := hid ho2
                  have KPU2 := hid (KpI.trans KPU1.out kp2)
                  clear ho2 kp2 cL2
                  obtain ⟨h12, h22, h32, h42⟩ := HQ.out _ KPU2.out
                  have t2 : u2.cell? ⟨PO, 0, none⟩ = some (.slice (some ⟨gb, 0, none⟩) n cp) := by simp [World.cell?, h12]
                  obtain ⟨⟨j02, _⟩, ⟨j12, _⟩, _⟩ := two_cells S1 71 u2 _ _ h32
                  obtain ⟨⟨j22, _⟩, ⟨j32, _⟩, _⟩ := two_cells S2 71 u2 _ _ h42
                  clear h12 h22 h32 h42
                  have HRES : Hid (Gp.assume_ g 4 true a b true true = Gp.less (Gp.less g g xn yn (sc2 - sc1 - 0)) g yn xn (sc1 - sc2 - 0)) := by
                    show _ = _
                    unfold Gp.assume_
                    rw [HN.out, HSA.out, HSB.out]
                    simp
                  go_wp2_with fail
                  go_ret
                  exact ⟨_, rfl, by rw [HRES.out]; exact HOU2.out, b2⟩
              · have p4 : (op == 4) = false := by simpa using h4
                have H234 := hid (And.intro h2 (And.intro h3 h4))
                clear h2 h3 h4
                have HRES : Hid (Gp.assume_ g op holds a b true true = g) := by
                  show _ = _
                  unfold Gp.assume_
                  rw [HN.out, HSA.out, HSB.out]
                  simp only [if_true, and_self]; obtain ⟨h2, h3, h4⟩ := H234.out; simp [h2, h3, h4]
                go_wp2_with fail
                go_ret
                exact ⟨_, rfl, by rw [HRES.out]; exact HO9.out, bw9⟩
end Go.Proofs.Ytajlmkokfgbjdaa
