/- What follow of the reference computes. Conditions: sizes, bounds. -/
import Derived.Test.YtajlmkokfgbjdaaOld22
import Derived.Test.YtajlmkokfgbjdaaFence
set_option linter.unusedVariables false
set_option linter.unusedSimpArgs false
namespace Go.Proofs.Ytajlmkokfgbjdaa
open Go.RowKit

set_option maxRecDepth 100000 in
set_option maxHeartbeats 4000000 in
theorem follow_any (vo vg : Value) (M g : List (List Int)) (x y p : Nat) (k : Int) (w : World)
    (hg : Small g) (hr : Rect g p) (hfine : Gp.Fine g) (hM : Small M) (hMl : M.length = g.length) (hMr : Rect M p) (hx : x < g.length) (hy : y < g.length) (hk : -8589934592 ≤ k ∧ k ≤ 8589934592)
    (hO : Mx w vo M) (hG : Mx w vg g) :
    Calls Try.prog 66 #[vo, vg, .int .i64 x, .int .i64 y, .int .i64 k] w fun e w' => ∃ v', e = .returned v' ∧ OwnM w.heap.size w' v' (Gp.less M g x y k) ∧ Below w.heap.size w w' := by
  have hp1000 : p ≤ 1000 := by have h1 := hr x hx; have := hg.2.2 x; omega
  have cC := hid (copy_any vo M w hM hO)
  have HR := hid hr
  have HF := hid hfine
  have HMR := hid hMr
  have HG := hid hG
  obtain ⟨n, hn⟩ : ∃ n, g.length = n := ⟨_, rfl⟩
  have HN := hid hn
  have HML := hid (hMl.trans hn)
  have hxn : x < n := by omega
  have hyn : y < n := by omega
  have hg0 : 0 < n := by omega
  obtain ⟨oa, oc, rfl, _⟩ := hO
  obtain ⟨ga, gc, rfl, _⟩ := hG
  rw [hn] at HG ⊢
  rw [hMl, hn] at cC ⊢
  clear hg hr hfine hMr hn hMl hx hy hM
  go_enter Try.func66, Try.ntmps66
  go_wp2_with fail
  refine cC.out.mono ?_
  rintro e w1 ⟨v1, rfl, ho, hb⟩
  obtain ⟨gb, cp, rfl, hgb0, hgb1, hcp0, hcp1⟩ := OwnS.form ho (by rw [HML.out]; exact hg0)
  rw [HML.out] at ho ⊢
  have hO2 := hid ho
  clear ho hcp1 cC
  go_wp2_with fail
  go_loopw [11] (fun lv wr => ∃ l : Nat, lv = .int .i64 l ∧ l ≤ p ∧ Hid (OwnM w.heap.size wr (.slice (some ⟨gb, 0, none⟩) n cp) (Gp.tab M (fun a b => if a = x ∧ b < l then min (Gp.at_ M a b) (Gp.sum (Gp.at_ g y b) k) else Gp.at_ M a b))) ∧ Below w.heap.size w wr) (fun lv _ => p - (intOf lv).toNat)
  case atStart => exact ⟨0, rfl, Nat.zero_le _, by show OwnM _ _ _ _; rw [Gp.tab_congr (G' := Gp.at_ M) (fun a _ b _ => by rw [if_neg (by omega)]), Gp.tab_self]; exact hO2.out, hb⟩
  case round =>
    obtain ⟨l, rfl, hl, hown, hbel⟩ := hrel
    obtain ⟨bz, oz, hz0, hz1, hz2⟩ := HG.out.row.2.2 (by rw [HN.out]; exact hg0)
    obtain ⟨rz, hz3, hz4⟩ := hz2 x (by rw [HN.out]; exact hxn)
    obtain ⟨rza, rzc, rfl, _⟩ := hz4
    rw [HR.out x (by rw [HN.out]; exact hxn)] at hz3
    have hz3 := (hbel.cell (p := ⟨bz, oz + x, none⟩) hz1).trans hz3
    clear hz2
    subst hz0
    have i1 : (0 : Int) ≤ (x : Int) := by omega
    have i2 : (x : Int) < (n : Int) := by omega
    by_cases hll : l < p
    · have hxM : x < M.length := by rw [HML.out]; exact hxn
      have hyg : y < g.length := by rw [HN.out]; exact hyn
      obtain ⟨rb, rp, p1, p2, p3, p4, ⟨cur, pcur⟩, p5⟩ := hown.out.place x l (by rw [Gp.tab_length]; exact hxM) (by rw [Gp.tab_rowlen, HMR.out x hxM]; exact hll)
      rw [Gp.tab_rowlen, HMR.out x hxM] at p1
      rw [Gp.tab_at _ _ _ _ hxM (by rw [HMR.out x hxM]; exact hll), if_neg (by omega)] at p2
      obtain ⟨z0, hz0⟩ : ∃ z, Gp.at_ M x l = z := ⟨_, rfl⟩
      rw [hz0] at p2
      obtain ⟨b1, o1, c1, d1, e1, hbz, lb1, m1, lc1, m3⟩ := HG.out.place y l hyg (by rw [HR.out y hyg]; exact hll)
      simp only [Option.some.injEq, Addr.mk.injEq, and_true] at hbz
      obtain ⟨rfl, rfl⟩ := hbz
      rw [HR.out y hyg] at m1
      obtain ⟨z1, hz1'⟩ : ∃ z, Gp.at_ g y l = z := ⟨_, rfl⟩
      have hyb := Gp.inR_bounds (HF.out y l)
      rw [hz1'] at m3 hyb
      have m1 := (hbel.cell (p := ⟨bz, oz + y, none⟩) lb1).trans m1
      have m3 := (hbel.cell (p := ⟨c1, d1 + l, none⟩) lc1).trans m3
      have cS := hid (fun u => rsum_any z1 k u (by omega) (by omega))
      obtain ⟨z2, hz2⟩ : ∃ z, Gp.sum z1 k = z := ⟨_, rfl⟩
      rw [hz2] at cS
      obtain ⟨s1, _, _, _, _⟩ := p5 (min z0 z2)
      rw [Gp.tab_upd _ _ _ _ _ hxM] at s1
      have HS2 : Hid (OwnM w.heap.size (wr.setCell ⟨rb, l, none⟩ (.int .i64 (min z0 z2))).drew (.slice (some ⟨gb, 0, none⟩) n cp) (Gp.tab M (fun a b => if a = x ∧ b < l + 1 then min (Gp.at_ M a b) (Gp.sum (Gp.at_ g y b) k) else Gp.at_ M a b))) := by
        show OwnM _ _ _ _
        rw [Gp.tab_congr (G' := fun a b => if a = x ∧ b = l then min z0 z2 else (if a = x ∧ b < l then min (Gp.at_ M a b) (Gp.sum (Gp.at_ g y b) k) else Gp.at_ M a b)) (fun a _ b _ => by
          by_cases h1 : a = x ∧ b = l
          · rw [if_pos h1, if_pos (by omega), h1.1, h1.2, hz0, hz1', hz2]
          · rw [if_neg h1]
            by_cases h2 : a = x ∧ b < l
            · rw [if_pos h2, if_pos (by omega)]
            · rw [if_neg h2, if_neg (by omega)])]
        exact OwnS.kept s1 (dB _)
      have hB2 : Below w.heap.size w (wr.setCell ⟨rb, l, none⟩ (.int .i64 (min z0 z2))).drew := (hbel.setCell (p := ⟨rb, l, none⟩) p4 _).drew
      have i3 : (0 : Int) ≤ (l : Int) := by omega
      have i4 : (l : Int) < (p : Int) := by omega
      have i5 : (0 : Int) ≤ (y : Int) := by omega
      have i6 : (y : Int) < (n : Int) := by omega
      have HSS : Hid ((wr.cell? ⟨gb, x, none⟩ = some (.slice (some ⟨rb, 0, none⟩) p rp) ∧ wr.cell? ⟨rb, l, none⟩ = some (.int .i64 z0)) ∧ wr.cell? ⟨bz, oz + y, none⟩ = some (.slice (some ⟨c1, d1, none⟩) p e1) ∧ wr.cell? ⟨c1, d1 + l, none⟩ = some (.int .i64 z1)) := ⟨⟨p1, p2⟩, m1, m3⟩
      clear s1 p5 hown pcur hz0 hz1' hz2 hyb hxM hyg p1 m1 m3
      go_wp2_with fail
      refine wp_region_any (by kernel_rfl) (wpAny_of_T (keys := [23]) (R := fun _ => (fun u => (u.cell? ⟨gb, x, none⟩ = some (.slice (some ⟨rb, 0, none⟩) p rp) ∧ u.cell? ⟨rb, l, none⟩ = some (.int .i64 z0)) ∧ u.cell? ⟨bz, oz + y, none⟩ = some (.slice (some ⟨c1, d1, none⟩) p e1) ∧ u.cell? ⟨c1, d1 + l, none⟩ = some (.int .i64 z1))) _ _ _ _ ?_)
      have hHeld : Held [23] (fun _ => (fun u => (u.cell? ⟨gb, x, none⟩ = some (.slice (some ⟨rb, 0, none⟩) p rp) ∧ u.cell? ⟨rb, l, none⟩ = some (.int .i64 z0)) ∧ u.cell? ⟨bz, oz + y, none⟩ = some (.slice (some ⟨c1, d1, none⟩) p e1) ∧ u.cell? ⟨c1, d1 + l, none⟩ = some (.int .i64 z1))) (Array.replicate 24 false) _ := fun _ _ _ => HSS.out
      refine wpAnyT_take 0 (some 23) ?_ rfl rfl (by kernel_rfl) (by kernel_rfl) (by kernel_rfl) (by kernel_rfl) (by kernel_rfl) (fun _ _ _ h => h) hHeld (by rfl) (fun w hh => ?_) (fun hHeld => ?_)
      rotate_left
      · (have hSw := hh 23 (by simp) (by kernel_rfl); (try dsimp only at hSw); go_simp; try with_reducible rfl)
      simp only [Act.put, List.setIfInBounds_toArray, List.set_cons_zero, List.set_cons_succ]
      refine wpAnyT_take 1 (some 24) ?_ rfl rfl (by kernel_rfl) (by kernel_rfl) (by kernel_rfl) (by kernel_rfl) (by kernel_rfl) (fun _ _ _ h => h) hHeld (by rfl) (fun w hh => ?_) (fun hHeld => ?_)
      rotate_left
      · (have hSw := hh 23 (by simp) (by kernel_rfl); (try dsimp only at hSw); go_simp; try with_reducible rfl)
      simp only [Act.put, List.setIfInBounds_toArray, List.set_cons_zero, List.set_cons_succ]
      refine wpAnyT_take 2 (some 25) ?_ rfl rfl (by kernel_rfl) (by kernel_rfl) (by kernel_rfl) (by kernel_rfl) (by kernel_rfl) (fun _ _ _ h => h) hHeld (by rfl) (fun w hh => ?_) (fun hHeld => ?_)
      rotate_left
      · (have hSw := hh 23 (by simp) (by kernel_rfl); (try dsimp only at hSw); go_simp; try with_reducible rfl)
      simp only [Act.put, List.setIfInBounds_toArray, List.set_cons_zero, List.set_cons_succ]
      refine wpAnyT_take 3 (some 26) ?_ rfl rfl (by kernel_rfl) (by kernel_rfl) (by kernel_rfl) (by kernel_rfl) (by kernel_rfl) (fun _ _ _ h => h) hHeld (by rfl) (fun w hh => ?_) (fun hHeld => ?_)
      rotate_left
      · (have hSw := hh 23 (by simp) (by kernel_rfl); (try dsimp only at hSw); go_simp; try with_reducible rfl)
      simp only [Act.put, List.setIfInBounds_toArray, List.set_cons_zero, List.set_cons_succ]
      refine wpAnyT_take 4 (some 27) ?_ rfl rfl (by kernel_rfl) (by kernel_rfl) (by kernel_rfl) (by kernel_rfl) (by kernel_rfl) (fun _ _ _ h => h) hHeld (by rfl) (fun w hh => ?_) (fun hHeld => ?_)
      rotate_left
      · (have hSw := hh 23 (by simp) (by kernel_rfl); (try dsimp only at hSw); go_simp; try with_reducible rfl)
      simp only [Act.put, List.setIfInBounds_toArray, List.set_cons_zero, List.set_cons_succ]
      refine wpAnyT_take 5 (some 28) ?_ rfl rfl (by kernel_rfl) (by kernel_rfl) (by kernel_rfl) (by kernel_rfl) (by kernel_rfl) (fun _ _ _ h => h) hHeld (by rfl) (fun w hh => ?_) (fun hHeld => ?_)
      rotate_left
      · (have hSw := hh 23 (by simp) (by kernel_rfl); (try dsimp only at hSw); go_simp; try with_reducible rfl)
      simp only [Act.put, List.setIfInBounds_toArray, List.set_cons_zero, List.set_cons_succ]
      refine wpAnyT_take 6 (some 29) ?_ rfl rfl (by kernel_rfl) (by kernel_rfl) (by kernel_rfl) (by kernel_rfl) (by kernel_rfl) (fun _ _ _ h => h) hHeld (by rfl) (fun w hh => ?_) (fun hHeld => ?_)
      rotate_left
      · (have hSw := hh 23 (by simp) (by kernel_rfl); (try dsimp only at hSw); go_simp; try with_reducible rfl)
      simp only [Act.put, List.setIfInBounds_toArray, List.set_cons_zero, List.set_cons_succ]
      refine wpAnyT_take 7 (some 30) ?_ rfl rfl (by kernel_rfl) (by kernel_rfl) (by kernel_rfl) (by kernel_rfl) (by kernel_rfl) (fun _ _ _ h => h) hHeld (by rfl) (fun w hh => ?_) (fun hHeld => ?_)
      rotate_left
      · (have hSw := hh 23 (by simp) (by kernel_rfl); (try dsimp only at hSw); go_simp; try with_reducible rfl)
      simp only [Act.put, List.setIfInBounds_toArray, List.set_cons_zero, List.set_cons_succ]
      refine wpAnyT_take 8 (some 31) ?_ rfl rfl (by kernel_rfl) (by kernel_rfl) (by kernel_rfl) (by kernel_rfl) (by kernel_rfl) (fun _ _ _ h => h) hHeld (by rfl) (fun w hh => ?_) (fun hHeld => ?_)
      rotate_left
      · (have hSw := hh 23 (by simp) (by kernel_rfl); (try dsimp only at hSw); go_simp; try with_reducible rfl)
      simp only [Act.put, List.setIfInBounds_toArray, List.set_cons_zero, List.set_cons_succ]
      refine wpAnyT_take 9 (some 32) ?_ rfl rfl (by kernel_rfl) (by kernel_rfl) (by kernel_rfl) (by kernel_rfl) (by kernel_rfl) (fun _ _ _ h => h) hHeld (by rfl) (fun w hh => ?_) (fun hHeld => ?_)
      rotate_left
      · (have hSw := hh 23 (by simp) (by kernel_rfl); (try dsimp only at hSw); go_simp; try with_reducible rfl)
      simp only [Act.put, List.setIfInBounds_toArray, List.set_cons_zero, List.set_cons_succ]
      refine wpAnyT_take 10 (some 33) ?_ rfl rfl (by kernel_rfl) (by kernel_rfl) (by kernel_rfl) (by kernel_rfl) (by kernel_rfl) (fun _ _ _ h => h) hHeld (by rfl) (fun w hh => ?_) (fun hHeld => ?_)
      rotate_left
      · (have hSw := hh 23 (by simp) (by kernel_rfl); (try dsimp only at hSw); go_simp; try with_reducible rfl)
      simp only [Act.put, List.setIfInBounds_toArray, List.set_cons_zero, List.set_cons_succ]
      refine wpAnyT_take 11 (some 34) ?_ rfl rfl (by kernel_rfl) (by kernel_rfl) (by kernel_rfl) (by kernel_rfl) (by kernel_rfl) (fun _ _ _ h => h) hHeld (by rfl) (fun w hh => ?_) (fun hHeld => ?_)
      rotate_left
      · (have hSw := hh 23 (by simp) (by kernel_rfl); (try dsimp only at hSw); go_simp; try with_reducible rfl)
      simp only [Act.put, List.setIfInBounds_toArray, List.set_cons_zero, List.set_cons_succ]
      refine wpAnyT_take 12 (some 35) ?_ rfl rfl (by kernel_rfl) (by kernel_rfl) (by kernel_rfl) (by kernel_rfl) (by kernel_rfl) (fun _ _ _ h => h) hHeld (by rfl) (fun w hh => ?_) (fun hHeld => ?_)
      rotate_left
      · (have hSw := hh 23 (by simp) (by kernel_rfl); (try dsimp only at hSw); go_simp; try with_reducible rfl)
      simp only [Act.put, List.setIfInBounds_toArray, List.set_cons_zero, List.set_cons_succ]
      refine wpAnyT_take 13 (some 36) ?_ rfl rfl (by kernel_rfl) (by kernel_rfl) (by kernel_rfl) (by kernel_rfl) (by kernel_rfl) (fun _ _ _ h => h) hHeld (by rfl) (fun w hh => ?_) (fun hHeld => ?_)
      rotate_left
      · (have hSw := hh 23 (by simp) (by kernel_rfl); (try dsimp only at hSw); go_simp; try with_reducible rfl)
      simp only [Act.put, List.setIfInBounds_toArray, List.set_cons_zero, List.set_cons_succ]
      refine wpAnyT_take 14 (some 37) ?_ rfl rfl (by kernel_rfl) (by kernel_rfl) (by kernel_rfl) (by kernel_rfl) (by kernel_rfl) (fun _ _ _ h => h) hHeld (by rfl) (fun w hh => ?_) (fun hHeld => ?_)
      rotate_left
      · (have hSw := hh 23 (by simp) (by kernel_rfl); (try dsimp only at hSw); go_simp; try with_reducible rfl)
      simp only [Act.put, List.setIfInBounds_toArray, List.set_cons_zero, List.set_cons_succ]
      refine wpAnyT_take 15 (some 38) ?_ rfl rfl (by kernel_rfl) (by kernel_rfl) (by kernel_rfl) (by kernel_rfl) (by kernel_rfl) (fun _ _ _ h => h) hHeld (by rfl) (fun w hh => ?_) (fun hHeld => ?_)
      rotate_left
      · (have hSw := hh 23 (by simp) (by kernel_rfl); (try dsimp only at hSw); go_simp; try with_reducible rfl)
      simp only [Act.put, List.setIfInBounds_toArray, List.set_cons_zero, List.set_cons_succ]
      refine wpAnyT_take 16 (some 39) ?_ rfl rfl (by kernel_rfl) (by kernel_rfl) (by kernel_rfl) (by kernel_rfl) (by kernel_rfl) (fun _ _ _ h => h) hHeld (by rfl) (fun w hh => ?_) (fun hHeld => ?_)
      rotate_left
      · (have hSw := hh 23 (by simp) (by kernel_rfl); (try dsimp only at hSw); go_simp; try with_reducible rfl)
      simp only [Act.put, List.setIfInBounds_toArray, List.set_cons_zero, List.set_cons_succ]
      refine wpAnyT_take 17 (some 40) ?_ rfl rfl (by kernel_rfl) (by kernel_rfl) (by kernel_rfl) (by kernel_rfl) (by kernel_rfl) (fun _ _ _ h => h) hHeld (by rfl) (fun w hh => ?_) (fun hHeld => ?_)
      rotate_left
      · (have hSw := hh 23 (by simp) (by kernel_rfl); (try dsimp only at hSw); go_simp; try with_reducible rfl)
      simp only [Act.put, List.setIfInBounds_toArray, List.set_cons_zero, List.set_cons_succ]
      refine wpAnyT_take 18 (some 41) ?_ rfl rfl (by kernel_rfl) (by kernel_rfl) (by kernel_rfl) (by kernel_rfl) (by kernel_rfl) (fun _ _ _ h => h) hHeld (by rfl) (fun w hh => ?_) (fun hHeld => ?_)
      rotate_left
      · (have hSw := hh 23 (by simp) (by kernel_rfl); (try dsimp only at hSw); go_simp; try with_reducible rfl)
      simp only [Act.put, List.setIfInBounds_toArray, List.set_cons_zero, List.set_cons_succ]
      refine wpAnyT_take 19 (some 42) ?_ rfl rfl (by kernel_rfl) (by kernel_rfl) (by kernel_rfl) (by kernel_rfl) (by kernel_rfl) (fun _ _ _ h => h) hHeld (by rfl) (fun w hh => ?_) (fun hHeld => ?_)
      rotate_left
      · (have hSw := hh 23 (by simp) (by kernel_rfl); (try dsimp only at hSw); go_simp; try with_reducible rfl)
      simp only [Act.put, List.setIfInBounds_toArray, List.set_cons_zero, List.set_cons_succ]
      refine wpAnyT_step 20 rfl (by kernel_rfl) (by rfl) ?_
      go_simp
      (with_reducible refine (cS.out _).mono ?_)
      rintro e w' ⟨rfl, rfl⟩
      have hHeld := Held.put (i := 20) hHeld
      refine ⟨hHeld, ?_⟩
      go_simp
      refine wpAnyT_take 21 (some 44) ?_ rfl rfl (by kernel_rfl) (by kernel_rfl) (by kernel_rfl) (by kernel_rfl) (by kernel_rfl) (fun _ _ _ h => h) hHeld (by rfl) (fun w hh => ?_) (fun hHeld => ?_)
      rotate_left
      · (have hSw := hh 23 (by simp) (by kernel_rfl); (try dsimp only at hSw); go_simp; try with_reducible rfl)
      simp only [Act.put, List.setIfInBounds_toArray, List.set_cons_zero, List.set_cons_succ]
      refine wpAnyT_take 22 (some 45) ?_ rfl rfl (by kernel_rfl) (by kernel_rfl) (by kernel_rfl) (by kernel_rfl) (by kernel_rfl) (fun _ _ _ h => h) hHeld (by rfl) (fun w hh => ?_) (fun hHeld => ?_)
      rotate_left
      · (have hSw := hh 23 (by simp) (by kernel_rfl); (try dsimp only at hSw); go_simp; try with_reducible rfl)
      simp only [Act.put, List.setIfInBounds_toArray, List.set_cons_zero, List.set_cons_succ]
      refine wpAnyT_step 23 rfl (by kernel_rfl) (by rfl) ?_
      go_simp
      refine ⟨Held.none (by kernel_rfl), wpAnyT_done (by kernel_rfl) ?_⟩
      go_wp2_with fail
      go_roundw
      case rel => exact ⟨l + 1, by go_num, by omega, HS2, hB2⟩
      case measure => simp [intOf]; omega
    · obtain rfl : l = p := by omega
      have HS2 : Hid (OwnM w.heap.size wr (.slice (some ⟨gb, 0, none⟩) n cp) (Gp.less M g x y k)) := by
        show OwnM _ _ _ _
        unfold Gp.less
        rw [Gp.tab_congr (G' := fun a b => if a = x ∧ b < l then min (Gp.at_ M a b) (Gp.sum (Gp.at_ g y b) k) else Gp.at_ M a b) (fun a ha b hb => by
          rw [HMR.out a ha] at hb
          by_cases h1 : a = x
          · rw [if_pos h1, if_pos ⟨h1, hb⟩]
          · rw [if_neg h1, if_neg (fun h => h1 h.1)])]
        exact hown.out
      clear hown hO2
      go_wp2_with fail
      go_ret
      exact ⟨_, rfl, HS2.out, hbel⟩
end Go.Proofs.Ytajlmkokfgbjdaa
