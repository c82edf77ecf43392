/- What Assume of the reference computes. Conditions: sizes, bounds. -/
import Derived.Test.YtajlmkokfgbjdaaOld23
import Derived.Test.YtajlmkokfgbjdaaOld15
set_option linter.unusedVariables false
set_option linter.unusedSimpArgs false
namespace Go.Proofs.Ytajlmkokfgbjdaa
open Go.RowKit

theorem less_small {M g : List (List Int)} {x y : Nat} {k : Int} (h : Small M) : Small (Gp.less M g x y k) := by
  obtain ⟨h1, h2, h3⟩ := h
  unfold Gp.less
  exact ⟨by rw [Gp.tab_length]; exact h1, by rw [Gp.tab_length]; exact h2, fun i => by rw [Gp.tab_rowlen]; exact h3 i⟩
theorem less_rect {M g : List (List Int)} {x y p : Nat} {k : Int} (h : Rect M p) : Rect (Gp.less M g x y k) p := fun i hi => by
  unfold Gp.less at hi ⊢
  rw [Gp.tab_length] at hi
  rw [Gp.tab_rowlen]
  exact h i hi
theorem less_length (M g : List (List Int)) (x y : Nat) (k : Int) : (Gp.less M g x y k).length = M.length := Gp.tab_length _ _

set_option maxRecDepth 100000 in
set_option maxHeartbeats 8000000 in
theorem rassume_any (gv av bv : Value) (g : List (List Int)) (a b : Gp.X) (op : Int) (holds f0 f1 : Bool) (p : Nat) (w : World) (hg : Small g) (hr : Rect g p) (hfine : Gp.Fine g) (hs : Mx w gv g) (ha : IsX w av a) (hb : IsX w bv b) :
    Calls Try.prog 33 #[gv, .int .i64 op, .bool holds, av, bv, .agg #[.bool f0, .bool f1]] w fun e w' => ∃ v', e = .returned v' ∧ OwnM w.heap.size w' v' (Gp.assume_ g op holds a b f0 f1) ∧ Below w.heap.size w w' := by
  have HA := hid ha
  have HB := hid hb
  obtain ⟨a0, a1, a2, aa, al, ac, rfl⟩ := ha.form
  obtain ⟨b0, b1, b2, ba, bl, bc, rfl⟩ := hb.form
  have HS := hid hs
  have HGS := hid hg
  have HF := hid hfine
  have HR := hid hr
  obtain ⟨ga, gc, rfl, _⟩ := hs
  obtain ⟨n, hn⟩ : ∃ n, g.length = n := ⟨_, rfl⟩
  have HN := hid hn
  have hg0 := hg.1
  rw [hn] at hg0 HS ⊢
  clear ha hb hfine hr hn hg
  have y0 : (((w.alloc (.cells #[.int .i64 a0, .int .i64 a1, .int .i64 a2, .slice aa al ac] 42)).alloc (.cells #[.int .i64 b0, .int .i64 b1, .int .i64 b2, .slice ba bl bc] 42)).alloc (.cells #[.bool f0, .bool f1] 30)).cell? ⟨w.heap.size, 0, none⟩ = some (.int .i64 a0) := by go_simp
  have y1 : (((w.alloc (.cells #[.int .i64 a0, .int .i64 a1, .int .i64 a2, .slice aa al ac] 42)).alloc (.cells #[.int .i64 b0, .int .i64 b1, .int .i64 b2, .slice ba bl bc] 42)).alloc (.cells #[.bool f0, .bool f1] 30)).cell? ⟨w.heap.size, 1, none⟩ = some (.int .i64 a1) := by go_simp
  have y2 : (((w.alloc (.cells #[.int .i64 a0, .int .i64 a1, .int .i64 a2, .slice aa al ac] 42)).alloc (.cells #[.int .i64 b0, .int .i64 b1, .int .i64 b2, .slice ba bl bc] 42)).alloc (.cells #[.bool f0, .bool f1] 30)).cell? ⟨w.heap.size, 2, none⟩ = some (.int .i64 a2) := by go_simp
  have y3 : (((w.alloc (.cells #[.int .i64 a0, .int .i64 a1, .int .i64 a2, .slice aa al ac] 42)).alloc (.cells #[.int .i64 b0, .int .i64 b1, .int .i64 b2, .slice ba bl bc] 42)).alloc (.cells #[.bool f0, .bool f1] 30)).cell? ⟨w.heap.size, 3, none⟩ = some (.slice aa al ac) := by go_simp
  have x0 : (((w.alloc (.cells #[.int .i64 a0, .int .i64 a1, .int .i64 a2, .slice aa al ac] 42)).alloc (.cells #[.int .i64 b0, .int .i64 b1, .int .i64 b2, .slice ba bl bc] 42)).alloc (.cells #[.bool f0, .bool f1] 30)).cell? ⟨w.heap.size + 1, 0, none⟩ = some (.int .i64 b0) := by go_simp
  have x1 : (((w.alloc (.cells #[.int .i64 a0, .int .i64 a1, .int .i64 a2, .slice aa al ac] 42)).alloc (.cells #[.int .i64 b0, .int .i64 b1, .int .i64 b2, .slice ba bl bc] 42)).alloc (.cells #[.bool f0, .bool f1] 30)).cell? ⟨w.heap.size + 1, 1, none⟩ = some (.int .i64 b1) := by go_simp
  have x2 : (((w.alloc (.cells #[.int .i64 a0, .int .i64 a1, .int .i64 a2, .slice aa al ac] 42)).alloc (.cells #[.int .i64 b0, .int .i64 b1, .int .i64 b2, .slice ba bl bc] 42)).alloc (.cells #[.bool f0, .bool f1] 30)).cell? ⟨w.heap.size + 1, 2, none⟩ = some (.int .i64 b2) := by go_simp
  have x3 : (((w.alloc (.cells #[.int .i64 a0, .int .i64 a1, .int .i64 a2, .slice aa al ac] 42)).alloc (.cells #[.int .i64 b0, .int .i64 b1, .int .i64 b2, .slice ba bl bc] 42)).alloc (.cells #[.bool f0, .bool f1] 30)).cell? ⟨w.heap.size + 1, 3, none⟩ = some (.slice ba bl bc) := by go_simp
  have v0 : (((w.alloc (.cells #[.int .i64 a0, .int .i64 a1, .int .i64 a2, .slice aa al ac] 42)).alloc (.cells #[.int .i64 b0, .int .i64 b1, .int .i64 b2, .slice ba bl bc] 42)).alloc (.cells #[.bool f0, .bool f1] 30)).cell? ⟨w.heap.size + 1 + 1, 0, none⟩ = some (.bool f0) := by go_simp
  have v1 : (((w.alloc (.cells #[.int .i64 a0, .int .i64 a1, .int .i64 a2, .slice aa al ac] 42)).alloc (.cells #[.int .i64 b0, .int .i64 b1, .int .i64 b2, .slice ba bl bc] 42)).alloc (.cells #[.bool f0, .bool f1] 30)).cell? ⟨w.heap.size + 1 + 1, 1, none⟩ = some (.bool f1) := by go_simp
  have bw : Below w.heap.size w (((w.alloc (.cells #[.int .i64 a0, .int .i64 a1, .int .i64 a2, .slice aa al ac] 42)).alloc (.cells #[.int .i64 b0, .int .i64 b1, .int .i64 b2, .slice ba bl bc] 42)).alloc (.cells #[.bool f0, .bool f1] 30)) := seqB (aB w _) (seqB (aB _ _) (aB _ _))
  go_enter Try.func33, Try.ntmps33
  go_upto_region 1 with (fail)
  generalize (((w.alloc (.cells #[.int .i64 a0, .int .i64 a1, .int .i64 a2, .slice aa al ac] 42)).alloc (.cells #[.int .i64 b0, .int .i64 b1, .int .i64 b2, .slice ba bl bc] 42)).alloc (.cells #[.bool f0, .bool f1] 30)) = W4 at y0 y1 y2 y3 x0 x1 x2 x3 v0 v1 bw ⊢
  generalize w.heap.size + 1 + 1 = VB at v0 v1 ⊢
  generalize w.heap.size + 1 = BB at x0 x1 x2 x3 ⊢
  obtain ⟨AB, hAB⟩ : ∃ q, w.heap.size = q := ⟨_, rfl⟩
  rw [hAB] at y0 y1 y2 y3 ⊢
  have HAB := hid hAB
  clear hAB
  have hc : ∀ u, Below W4.heap.size W4 u → (u.cell? ⟨BB, 0, none⟩ = some (.int .i64 b0) ∧ u.cell? ⟨BB, 1, none⟩ = some (.int .i64 b1) ∧ u.cell? ⟨BB, 2, none⟩ = some (.int .i64 b2) ∧ u.cell? ⟨BB, 3, none⟩ = some (.slice ba bl bc)) ∧ u.cell? ⟨VB, 0, none⟩ = some (.bool f0) ∧ u.cell? ⟨VB, 1, none⟩ = some (.bool f1) := fun u hu =>
    ⟨⟨(hu.cell (p := ⟨BB, 0, none⟩) (World.lt_of_cell x0)).trans x0, (hu.cell (p := ⟨BB, 1, none⟩) (World.lt_of_cell x1)).trans x1, (hu.cell (p := ⟨BB, 2, none⟩) (World.lt_of_cell x2)).trans x2, (hu.cell (p := ⟨BB, 3, none⟩) (World.lt_of_cell x3)).trans x3⟩, (hu.cell (p := ⟨VB, 0, none⟩) (World.lt_of_cell v0)).trans v0, (hu.cell (p := ⟨VB, 1, none⟩) (World.lt_of_cell v1)).trans v1⟩
  have HC := hid hc
  have cA := hid (rshift_any (.agg #[.int .i64 a0, .int .i64 a1, .int .i64 a2, .slice aa al ac]) a n W4 (HA.out.stays bw))
  clear hc x0 x1 x2 x3 v0 v1
  go_wp2_with fail
  refine cA.out.mono ?_
  rintro e w5 ⟨rfl, s5⟩
  obtain ⟨sa, hsa⟩ : ∃ s, Gp.shift n a = s := ⟨_, rfl⟩
  rw [hsa]
  have HSA := hid hsa
  obtain ⟨xw, hxw⟩ : ∃ q, (sa.getD (0, 0)).1 = q := ⟨_, rfl⟩
  obtain ⟨xc, hxc⟩ : ∃ q, (sa.getD (0, 0)).2 = q := ⟨_, rfl⟩
  obtain ⟨xo, hxo⟩ : ∃ q, sa.isSome = q := ⟨_, rfl⟩
  unfold shift3
  rw [hxw, hxc, hxo]
  have HXW := hid hxw
  have HXC := hid hxc
  have HXO := hid hxo
  obtain ⟨⟨x0, x1, x2, x3⟩, v0, v1⟩ := HC.out _ s5
  have cB := hid (rshift_any (.agg #[.int .i64 b0, .int .i64 b1, .int .i64 b2, .slice ba bl bc]) b n w5 ((HB.out.stays bw).stays s5))
  clear hxw hxc hxo hsa cA y0 y1 y2 y3
  go_wp2_with fail
  refine cB.out.mono ?_
  rintro e w6 ⟨rfl, c6⟩
  obtain ⟨sb, hsb⟩ : ∃ s, Gp.shift n b = s := ⟨_, rfl⟩
  rw [hsb]
  have HSB := hid hsb
  obtain ⟨yw, hyw⟩ : ∃ q, (sb.getD (0, 0)).1 = q := ⟨_, rfl⟩
  obtain ⟨yc, hyc⟩ : ∃ q, (sb.getD (0, 0)).2 = q := ⟨_, rfl⟩
  obtain ⟨yo, hyo⟩ : ∃ q, sb.isSome = q := ⟨_, rfl⟩
  unfold shift3
  rw [hyw, hyc, hyo]
  have HYW := hid hyw
  have HYC := hid hyc
  have HYO := hid hyo
  have s6 := seqB s5 c6
  have bw6 := seqB bw s6
  obtain ⟨_, v0, v1⟩ := HC.out _ s6
  have HS6 := hid (HS.out.stays bw6)
  have cC := hid (copy_any (.slice ga n gc) g w6 HGS.out HS6.out)
  have hle : w.heap.size ≤ w6.heap.size := bw6.size
  clear hyw hyc hyo hsb cB x0 x1 x2 x3 HC s5 c6 s6 bw
  cases sa with
  | none =>
    obtain rfl : xo = false := HXO.out.symm
    have HRES : Hid (Gp.assume_ g op holds a b f0 f1 = g) := by
      show _ = _
      unfold Gp.assume_
      rw [HN.out, HSA.out]
    go_wp2_with fail
    refine cC.out.mono ?_
    rintro e w7 ⟨v7, rfl, ho7, b7⟩
    have HO7 := hid ho7
    clear ho7
    go_wp2_with fail
    go_ret
    exact ⟨_, rfl, by rw [HRES.out]; exact HO7.out.mono hle, seqB bw6 b7⟩
  | some s1 =>
    obtain ⟨sw1, sc1⟩ := s1
    obtain rfl : xo = true := HXO.out.symm
    obtain rfl : sw1 = xw := HXW.out
    obtain rfl : sc1 = xc := HXC.out
    obtain ⟨g0, g1, g2, g3⟩ := Gp.shift_bounds HSA.out
    obtain ⟨xn, rfl⟩ : ∃ q : Nat, sw1 = q := ⟨sw1.toNat, by omega⟩
    have hxn : xn < n := by omega
    have hxb : -2147483648 ≤ sc1 ∧ sc1 ≤ 2147483648 := ⟨g2, g3⟩
    clear g0 g1 g2 g3
    cases sb with
    | none =>
      obtain rfl : yo = false := HYO.out.symm
      have HRES : Hid (Gp.assume_ g op holds a b f0 f1 = g) := by
        show _ = _
        unfold Gp.assume_
        rw [HN.out, HSA.out, HSB.out]
      go_wp2_with fail
      refine cC.out.mono ?_
      rintro e w7 ⟨v7, rfl, ho7, b7⟩
      have HO7 := hid ho7
      clear ho7
      go_wp2_with fail
      go_ret
      exact ⟨_, rfl, by rw [HRES.out]; exact HO7.out.mono hle, seqB bw6 b7⟩
    | some s2 =>
      obtain ⟨sw2, sc2⟩ := s2
      obtain rfl : yo = true := HYO.out.symm
      obtain rfl : sw2 = yw := HYW.out
      obtain rfl : sc2 = yc := HYC.out
      obtain ⟨g0, g1, g2, g3⟩ := Gp.shift_bounds HSB.out
      obtain ⟨yn, rfl⟩ : ∃ q : Nat, sw2 = q := ⟨sw2.toNat, by omega⟩
      have hyn : yn < n := by omega
      have hyb : -2147483648 ≤ sc2 ∧ sc2 ≤ 2147483648 := ⟨g2, g3⟩
      clear g0 g1 g2 g3 HXO HXW HXC HYO HYW HYC
      cases f0
      · have HRES : Hid (Gp.assume_ g op holds a b false f1 = g) := by
          show _ = _
          unfold Gp.assume_
          rw [HN.out, HSA.out, HSB.out]
          simp
        go_wp2_with fail
        refine cC.out.mono ?_
        rintro e w7 ⟨v7, rfl, ho7, b7⟩
        have HO7 := hid ho7
        clear ho7
        go_wp2_with fail
        go_ret
        exact ⟨_, rfl, by rw [HRES.out]; exact HO7.out.mono hle, seqB bw6 b7⟩
      · cases f1
        · have HRES : Hid (Gp.assume_ g op holds a b true false = g) := by
            show _ = _
            unfold Gp.assume_
            rw [HN.out, HSA.out, HSB.out]
            simp
          go_wp2_with fail
          refine cC.out.mono ?_
          rintro e w7 ⟨v7, rfl, ho7, b7⟩
          have HO7 := hid ho7
          clear ho7
          go_wp2_with fail
          go_ret
          exact ⟨_, rfl, by rw [HRES.out]; exact HO7.out.mono hle, seqB bw6 b7⟩
        · by_cases h2 : op = 2
          · subst h2
            cases holds
            · have wk0 : IntKind.i64.wrap (sc1 - sc2) = sc1 - sc2 := IntWalk.i64_in _ (by omega)
              have cF := hid (follow_any (.slice ga n gc) (.slice ga n gc) g g yn xn p (sc1 - sc2) w6 HGS.out HR.out HF.out HGS.out rfl HR.out (by rw [HN.out]; exact hyn) (by rw [HN.out]; exact hxn) (by omega) HS6.out HS6.out)
              have HRES : Hid (Gp.assume_ g 2 false a b true true = Gp.less g g yn xn (sc1 - sc2)) := by
                show _ = _
                unfold Gp.assume_
                rw [HN.out, HSA.out, HSB.out]
                simp
              go_wp2_with fail
              (with_reducible refine cF.out.mono ?_)
              rintro e w7 ⟨v7, rfl, ho7, b7⟩
              have HO7 := hid ho7
              clear ho7
              go_wp2_with fail
              go_ret
              exact ⟨_, rfl, by rw [HRES.out]; exact HO7.out.mono hle, seqB bw6 b7⟩
            · have wk0 : IntKind.i64.wrap (sc2 - sc1) = sc2 - sc1 := IntWalk.i64_in _ (by omega)
              have wk1 : IntKind.i64.wrap (sc2 - sc1 - 1) = sc2 - sc1 - 1 := IntWalk.i64_in _ (by omega)
              have cF := hid (follow_any (.slice ga n gc) (.slice ga n gc) g g xn yn p (sc2 - sc1 - 1) w6 HGS.out HR.out HF.out HGS.out rfl HR.out (by rw [HN.out]; exact hxn) (by rw [HN.out]; exact hyn) (by omega) HS6.out HS6.out)
              have HRES : Hid (Gp.assume_ g 2 true a b true true = Gp.less g g xn yn (sc2 - sc1 - 1)) := by
                show _ = _
                unfold Gp.assume_
                rw [HN.out, HSA.out, HSB.out]
                simp
              go_wp2_with fail
              (with_reducible refine cF.out.mono ?_)
              rintro e w7 ⟨v7, rfl, ho7, b7⟩
              have HO7 := hid ho7
              clear ho7
              go_wp2_with fail
              go_ret
              exact ⟨_, rfl, by rw [HRES.out]; exact HO7.out.mono hle, seqB bw6 b7⟩
          · by_cases h3 : op = 3
            · subst h3
              cases holds
              · have wk0 : IntKind.i64.wrap (sc1 - sc2) = sc1 - sc2 := IntWalk.i64_in _ (by omega)
                have wk1 : IntKind.i64.wrap (sc1 - sc2 - 1) = sc1 - sc2 - 1 := IntWalk.i64_in _ (by omega)
                have cF := hid (follow_any (.slice ga n gc) (.slice ga n gc) g g yn xn p (sc1 - sc2 - 1) w6 HGS.out HR.out HF.out HGS.out rfl HR.out (by rw [HN.out]; exact hyn) (by rw [HN.out]; exact hxn) (by omega) HS6.out HS6.out)
                have HRES : Hid (Gp.assume_ g 3 false a b true true = Gp.less g g yn xn (sc1 - sc2 - 1)) := by
                  show _ = _
                  unfold Gp.assume_
                  rw [HN.out, HSA.out, HSB.out]
                  simp
                go_wp2_with fail
                (with_reducible refine cF.out.mono ?_)
                rintro e w7 ⟨v7, rfl, ho7, b7⟩
                have HO7 := hid ho7
                clear ho7
                go_wp2_with fail
                go_ret
                exact ⟨_, rfl, by rw [HRES.out]; exact HO7.out.mono hle, seqB bw6 b7⟩
              · have wk0 : IntKind.i64.wrap (sc2 - sc1) = sc2 - sc1 := IntWalk.i64_in _ (by omega)
                have cF := hid (follow_any (.slice ga n gc) (.slice ga n gc) g g xn yn p (sc2 - sc1) w6 HGS.out HR.out HF.out HGS.out rfl HR.out (by rw [HN.out]; exact hxn) (by rw [HN.out]; exact hyn) (by omega) HS6.out HS6.out)
                have HRES : Hid (Gp.assume_ g 3 true a b true true = Gp.less g g xn yn (sc2 - sc1)) := by
                  show _ = _
                  unfold Gp.assume_
                  rw [HN.out, HSA.out, HSB.out]
                  simp
                go_wp2_with fail
                (with_reducible refine cF.out.mono ?_)
                rintro e w7 ⟨v7, rfl, ho7, b7⟩
                have HO7 := hid ho7
                clear ho7
                go_wp2_with fail
                go_ret
                exact ⟨_, rfl, by rw [HRES.out]; exact HO7.out.mono hle, seqB bw6 b7⟩
            · have p2 : (op == 2) = false := by simpa using h2
              have p3 : (op == 3) = false := by simpa using h3
              by_cases h4 : op = 4
              · subst h4
                clear p2 p3 h2 h3
                cases holds
                · have HRES : Hid (Gp.assume_ g 4 false a b true true = g) := by
                    show _ = _
                    unfold Gp.assume_
                    rw [HN.out, HSA.out, HSB.out]
                    simp
                  go_wp2_with fail
                  refine cC.out.mono ?_
                  rintro e w7 ⟨v7, rfl, ho7, b7⟩
                  have HO7 := hid ho7
                  clear ho7
                  go_wp2_with fail
                  go_ret
                  exact ⟨_, rfl, by rw [HRES.out]; exact HO7.out.mono hle, seqB bw6 b7⟩
                · have wk0 : IntKind.i64.wrap (sc2 - sc1) = sc2 - sc1 := IntWalk.i64_in _ (by omega)
                  have wk1 : IntKind.i64.wrap (sc1 - sc2) = sc1 - sc2 := IntWalk.i64_in _ (by omega)
                  have cF := hid (follow_any (.slice ga n gc) (.slice ga n gc) g g xn yn p (sc2 - sc1) w6 HGS.out HR.out HF.out HGS.out rfl HR.out (by rw [HN.out]; exact hxn) (by rw [HN.out]; exact hyn) (by omega) HS6.out HS6.out)
                  have HRES : Hid (Gp.assume_ g 4 true a b true true = Gp.less (Gp.less g g xn yn (sc2 - sc1)) g yn xn (sc1 - sc2)) := by
                    show _ = _
                    unfold Gp.assume_
                    rw [HN.out, HSA.out, HSB.out]
                    simp
                  go_wp2_with fail
                  (with_reducible refine cF.out.mono ?_)
                  rintro e w7 ⟨v7, rfl, ho7, b7⟩
                  have HO7 := hid ho7
                  obtain ⟨va, vcap, rfl, _⟩ := ho7.mx
                  clear ho7
                  have cG := hid (follow_any (.slice va (Gp.less g g xn yn (sc2 - sc1)).length vcap) (.slice ga n gc) (Gp.less g g xn yn (sc2 - sc1)) g yn xn p (sc1 - sc2) w7 HGS.out HR.out HF.out (less_small HGS.out) (less_length _ _ _ _ _) (less_rect HR.out) (by rw [HN.out]; exact hyn) (by rw [HN.out]; exact hxn) (by omega) HO7.out.mx (HS6.out.stays b7))
                  go_wp2_with fail
                  (with_reducible refine cG.out.mono ?_)
                  rintro e w8 ⟨v8, rfl, ho8, b8⟩
                  have HO8 := hid ho8
                  have hle8 : w.heap.size ≤ w7.heap.size := by have := b7.size; omega
                  clear ho8
                  go_wp2_with fail
                  go_ret
                  exact ⟨_, rfl, by rw [HRES.out]; exact HO8.out.mono hle8, seqB bw6 (seqB b7 b8)⟩
              · have p4 : (op == 4) = false := by simpa using h4
                have H234 := hid (And.intro h2 (And.intro h3 h4))
                clear h2 h3 h4
                have HRES : Hid (Gp.assume_ g op holds a b true true = g) := by
                  show _ = _
                  unfold Gp.assume_
                  rw [HN.out, HSA.out, HSB.out]
                  simp only [if_true, and_self]; obtain ⟨h2, h3, h4⟩ := H234.out; simp [h2, h3, h4]
                go_wp2_with fail
                refine cC.out.mono ?_
                rintro e w7 ⟨v7, rfl, ho7, b7⟩
                have HO7 := hid ho7
                clear ho7
                go_wp2_with fail
                go_ret
                exact ⟨_, rfl, by rw [HRES.out]; exact HO7.out.mono hle, seqB bw6 b7⟩
end Go.Proofs.Ytajlmkokfgbjdaa
