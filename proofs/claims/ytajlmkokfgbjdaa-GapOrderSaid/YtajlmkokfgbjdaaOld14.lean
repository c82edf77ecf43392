/- What the closure less in Assume of package gap computes. Conditions: sizes, bounds. -/
import Derived.Test.YtajlmkokfgbjdaaOld11
import Derived.Test.YtajlmkokfgbjdaaFence
import Derived.Deep.Cut
set_option linter.unusedVariables false
set_option linter.unusedSimpArgs false
namespace Go.Proofs.Ytajlmkokfgbjdaa
open Go.RowKit

/-- No block but those of ints is turned. -/
def KpI (w w' : World) : Prop := ∀ (q : Nat) (c : Array Value) (t : TypeId) (f : Nat × Nat), w.heap[q]? = some (.cells c t f) → t ≠ 3 → w'.heap[q]? = some (.cells c t f)
theorem KpI.refl (w : World) : KpI w w := fun _ _ _ _ h _ => h
theorem KpI.trans {a b c : World} (h : KpI a b) (k : KpI b c) : KpI a c := fun q x t f h1 h2 => k q x t f (h q x t f h1 h2) h2
theorem KpI.below {a b : World} (h : Below a.heap.size a b) : KpI a b := fun q x t f h1 _ => (h.block q (Array.getElem?_eq_some_iff.1 h1).1).trans h1
theorem KpI.drew {a b : World} (h : KpI a b) : KpI a b.drew := h
theorem KpI.set {a b : World} {r j : Nat} {x : Value} (h : KpI a b) (hr : ∃ cur, b.heap[r]? = some (.cells cur 3 (0, 0))) : KpI a (b.setCell ⟨r, j, none⟩ x) := fun q c t f h1 h2 => by
  have h3 := h q c t f h1 h2
  obtain ⟨cur, h4⟩ := hr
  rw [Below.heap_setCell b ⟨r, j, none⟩ x q (heap_ne_type h3 h4 h2)]
  exact h3

set_option maxRecDepth 100000 in
set_option maxHeartbeats 4000000 in
theorem less_any (PO PG gb n cp p : Nat) (a0 : Option Addr) (gc : Nat) (M g : List (List Int)) (x y : Nat) (xc yc by_ : Int) (w0 w : World)
    (hg : Small g) (hr : Rect g p) (hfine : Gp.Fine g) (hbw : Below w0.heap.size w0 w) (hMl : M.length = g.length) (hMr : Rect M p) (hx : x < g.length) (hy : y < g.length) (hn : g.length = n) (hxc : -2147483648 ≤ xc ∧ xc ≤ 2147483648) (hyc : -2147483648 ≤ yc ∧ yc ≤ 2147483648) (hby : 0 ≤ by_ ∧ by_ ≤ 1)
    (hO : OwnM w0.heap.size w (.slice (some ⟨gb, 0, none⟩) n cp) M) (hG : Mx w0 (.slice a0 n gc) g)
    (hPO : w.heap[PO]? = some (.cells #[.slice (some ⟨gb, 0, none⟩) n cp] 34 (0, 0))) (hPG : w.heap[PG]? = some (.cells #[.slice a0 n gc] 34 (0, 0))) :
    Calls Try.prog 54 #[.agg #[.int .i64 x, .int .i64 xc], .agg #[.int .i64 y, .int .i64 yc], .int .i64 by_, .pointer (some ⟨PO, 0, none⟩), .pointer (some ⟨PG, 0, none⟩)] w fun e w' => (∃ v, e = .returned v) ∧ OwnM w0.heap.size w' (.slice (some ⟨gb, 0, none⟩) n cp) (Gp.less M g x y (yc - xc - by_)) ∧ Below w0.heap.size w0 w' ∧ KpI w w' := by
  have hp1000 : p ≤ 1000 := by have h1 := hr x hx; have := hg.2.2 x; omega
  have HGS := hid hg
  have HR := hid hr
  have HF := hid hfine
  have HMR := hid hMr
  have HG := hid hG
  have HN := hid hn
  have HML := hid hMl
  have hxn : x < n := by omega
  have hyn : y < n := by omega
  -- the boxes of the shifts
  have hP0 : ∀ u, KpI w u → u.heap[PO]? = some (.cells #[.slice (some ⟨gb, 0, none⟩) n cp] 34 (0, 0)) ∧ u.heap[PG]? = some (.cells #[.slice a0 n gc] 34 (0, 0)) := fun u hu => ⟨hu _ _ _ _ hPO (by decide), hu _ _ _ _ hPG (by decide)⟩
  have HP0 := hid hP0
  have bx1 := heap_alloc_new w (.cells #[.int .i64 x, .int .i64 xc] 71)
  have bx2 := heap_alloc_new (w.alloc (.cells #[.int .i64 x, .int .i64 xc] 71)) (.cells #[.int .i64 y, .int .i64 yc] 71)
  have bx1' : ((w.alloc (.cells #[.int .i64 x, .int .i64 xc] 71)).alloc (.cells #[.int .i64 y, .int .i64 yc] 71)).heap[w.heap.size]? = some (.cells #[.int .i64 x, .int .i64 xc] 71 (0, 0)) := ((aB (w.alloc (.cells #[.int .i64 x, .int .i64 xc] 71)) _).block w.heap.size (by simp)).trans bx1
  have bw2 : Below w.heap.size w ((w.alloc (.cells #[.int .i64 x, .int .i64 xc] 71)).alloc (.cells #[.int .i64 y, .int .i64 yc] 71)) := seqB (aB w _) (aB _ _)
  simp only [World.size_alloc] at bx2
  have hO2 := hid (OwnS.kept hO bw2)
  have bw3 := hbw.trans (bw2.mono hbw.size)
  have kp2 := hid (KpI.below bw2)
  clear hg hr hfine hMr hG hn hMl hP0 hPO hPG bx1 hO hbw bw2 hx hy
  obtain ⟨W2, hW2⟩ : ∃ W, (w.alloc (.cells #[.int .i64 x, .int .i64 xc] 71)).alloc (.cells #[.int .i64 y, .int .i64 yc] 71) = W := ⟨_, rfl⟩
  rw [hW2] at bx1' bx2 hO2 bw3 kp2
  obtain ⟨B1, hB1⟩ : ∃ q, w.heap.size = q := ⟨_, rfl⟩
  rw [hB1] at bx1' bx2
  have HW2 := hid hW2
  have HB1 := hid hB1
  obtain ⟨hP1, hP2⟩ := HP0.out W2 kp2.out
  -- the cells that a round reads
  obtain ⟨r, hr1, hr2, hr3, hr4⟩ := OwnS.row hO2.out x (by rw [HML.out, HN.out]; exact hxn)
  obtain ⟨ra, rc, rfl, _⟩ := hr3
  rw [HMR.out x (by rw [HML.out, HN.out]; exact hxn)] at hr1
  have c1 : W2.cell? ⟨PO, 0, none⟩ = some (.slice (some ⟨gb, 0, none⟩) n cp) := by simp [World.cell?, hP1]
  obtain ⟨⟨c2, _⟩, _, _⟩ := two_cells B1 71 W2 _ _ bx1'
  have HC1 := hid c1
  have HC2 := hid c2
  have HR1 := hid hr1
  have HX1 := hid bx1'
  have HX2 := hid bx2
  clear hW2 hB1 hr2 hr4 hP1 hP2 bx1' bx2 c1 c2 hr1
  go_enter Try.func54, Try.ntmps54
  go_upto_region 1 with (fail)
  rw [HW2.out, HB1.out]
  have c1z := HC1.out
  have c2z := HC2.out
  have hr1 := HR1.out
  have i1 : (0 : Int) ≤ (x : Int) := by omega
  have i2 : (x : Int) < (n : Int) := by omega
  go_wp2_with fail
  go_loopw [15] (fun kv wr => ∃ k : Nat, kv = .int .i64 k ∧ k ≤ p ∧ Hid (OwnM w0.heap.size wr (.slice (some ⟨gb, 0, none⟩) n cp) (Gp.tab M (fun a b => if a = x ∧ b < k then min (Gp.at_ M a b) (Gp.sum (Gp.at_ g y b) (yc - xc - by_)) else Gp.at_ M a b))) ∧ Below w0.heap.size w0 wr ∧ Hid (KpI W2 wr)) (fun kv _ => p - (intOf kv).toNat)
  case atStart => exact ⟨0, rfl, Nat.zero_le _, by show OwnM _ _ _ _; rw [Gp.tab_congr (G' := Gp.at_ M) (fun a _ b _ => by rw [if_neg (by omega)]), Gp.tab_self]; exact hO2.out, bw3, KpI.refl _⟩
  case round =>
    obtain ⟨k, rfl, hk, hown, hbel, hkp⟩ := hrel
    by_cases hll : k < p
    · have hxM : x < M.length := by rw [HML.out, HN.out]; exact hxn
      have hyg : y < g.length := by rw [HN.out]; exact hyn
      obtain ⟨rb, rp, p1, p2, p3, p4, ⟨cur, pcur⟩, p5⟩ := hown.out.place x k (by rw [Gp.tab_length]; exact hxM) (by rw [Gp.tab_rowlen, HMR.out x hxM]; exact hll)
      rw [Gp.tab_rowlen, HMR.out x hxM] at p1
      rw [Gp.tab_at _ _ _ _ hxM (by rw [HMR.out x hxM]; exact hll), if_neg (by omega)] at p2
      obtain ⟨z0, hz0⟩ : ∃ z, Gp.at_ M x k = z := ⟨_, rfl⟩
      rw [hz0] at p2
      obtain ⟨b1, o1, c1, d1, e1, ha0, lb1, m1, lc1, m3⟩ := HG.out.place y k hyg (by rw [HR.out y hyg]; exact hll)
      subst ha0
      rw [HR.out y hyg] at m1
      obtain ⟨z1, hz1⟩ : ∃ z, Gp.at_ g y k = z := ⟨_, rfl⟩
      have hyb := Gp.inR_bounds (HF.out y k)
      rw [hz1] at m3 hyb
      have m1 := (hbel.cell (p := ⟨b1, o1 + y, none⟩) lb1).trans m1
      have m3 := (hbel.cell (p := ⟨c1, d1 + k, none⟩) lc1).trans m3
      obtain ⟨hP1, hP2⟩ := HP0.out wr (kp2.out.trans hkp.out)
      have q1 : wr.cell? ⟨PO, 0, none⟩ = some (.slice (some ⟨gb, 0, none⟩) n cp) := by simp [World.cell?, hP1]
      have q2 : wr.cell? ⟨PG, 0, none⟩ = some (.slice (some ⟨b1, o1, none⟩) n gc) := by simp [World.cell?, hP2]
      obtain ⟨⟨q3, _⟩, ⟨q4, _⟩, _⟩ := two_cells B1 71 wr _ _ (hkp.out _ _ _ _ HX1.out (by decide))
      obtain ⟨⟨q5, _⟩, ⟨q6, _⟩, _⟩ := two_cells (B1 + 1) 71 wr _ _ (hkp.out _ _ _ _ HX2.out (by decide))
      have w1e : IntKind.i64.wrap (yc - xc) = yc - xc := IntWalk.i64_in _ (by omega)
      have w2e : IntKind.i64.wrap (yc - xc - by_) = yc - xc - by_ := IntWalk.i64_in _ (by omega)
      have cS := hid (fun u => sum_any z1 (yc - xc - by_) u (by omega) (by omega))
      obtain ⟨z2, hz2⟩ : ∃ z, Gp.sum z1 (yc - xc - by_) = z := ⟨_, rfl⟩
      rw [hz2] at cS
      obtain ⟨z3, hz3⟩ : ∃ z, min z0 z2 = z := ⟨_, rfl⟩
      obtain ⟨s1, _, _, _, _⟩ := p5 (min z0 z2)
      rw [Gp.tab_upd _ _ _ _ _ hxM] at s1
      have HS2 : Hid (OwnM w0.heap.size (wr.setCell ⟨rb, k, none⟩ (.int .i64 (min z0 z2))).drew (.slice (some ⟨gb, 0, none⟩) n cp) (Gp.tab M (fun a b => if a = x ∧ b < k + 1 then min (Gp.at_ M a b) (Gp.sum (Gp.at_ g y b) (yc - xc - by_)) else Gp.at_ M a b))) := by
        show OwnM _ _ _ _
        rw [Gp.tab_congr (G' := fun a b => if a = x ∧ b = k then min z0 z2 else (if a = x ∧ b < k then min (Gp.at_ M a b) (Gp.sum (Gp.at_ g y b) (yc - xc - by_)) else Gp.at_ M a b)) (fun a _ b _ => by
          by_cases h1 : a = x ∧ b = k
          · rw [if_pos h1, if_pos (by omega), h1.1, h1.2, hz0, hz1, hz2]
          · rw [if_neg h1]
            by_cases h2 : a = x ∧ b < k
            · rw [if_pos h2, if_pos (by omega)]
            · rw [if_neg h2, if_neg (by omega)])]
        exact OwnS.kept s1 (dB _)
      have hB2 : Below w0.heap.size w0 (wr.setCell ⟨rb, k, none⟩ (.int .i64 (min z0 z2))).drew := (hbel.setCell (p := ⟨rb, k, none⟩) p4 _).drew
      have HK2 : Hid (KpI W2 (wr.setCell ⟨rb, k, none⟩ (.int .i64 (min z0 z2))).drew) := (KpI.set hkp.out ⟨cur, pcur⟩).drew
      have i3 : (0 : Int) ≤ (k : Int) := by omega
      have i4 : (k : Int) < (p : Int) := by omega
      have i5 : (0 : Int) ≤ (y : Int) := by omega
      have i6 : (y : Int) < (n : Int) := by omega
      have HSS : Hid (((wr.cell? ⟨PO, 0, none⟩ = some (.slice (some ⟨gb, 0, none⟩) n cp) ∧ wr.cell? ⟨PG, 0, none⟩ = some (.slice (some ⟨b1, o1, none⟩) n gc)) ∧ (wr.cell? ⟨B1, 0, none⟩ = some (.int .i64 (x : Int)) ∧ wr.cell? ⟨B1, 1, none⟩ = some (.int .i64 xc)) ∧ (wr.cell? ⟨B1 + 1, 0, none⟩ = some (.int .i64 (y : Int)) ∧ wr.cell? ⟨B1 + 1, 1, none⟩ = some (.int .i64 yc)) ∧ (wr.cell? ⟨gb, x, none⟩ = some (.slice (some ⟨rb, 0, none⟩) p rp) ∧ wr.cell? ⟨rb, k, none⟩ = some (.int .i64 z0)) ∧ wr.cell? ⟨b1, o1 + y, none⟩ = some (.slice (some ⟨c1, d1, none⟩) p e1) ∧ wr.cell? ⟨c1, d1 + k, none⟩ = some (.int .i64 z1))) := ⟨⟨q1, q2⟩, ⟨q3, q4⟩, ⟨q5, q6⟩, ⟨p1, p2⟩, m1, m3⟩
      clear s1 p5 hown hkp pcur hz0 hz1 hz2 hyb hP1 hP2 hxM hyg q1 q2 q3 q4 q5 q6 p1 m1 m3 hr1 hz3 c1z c2z
      go_wp2_with fail
      refine wp_region_any (by kernel_rfl) (wpAny_of_T (keys := [32]) (R := fun _ => (fun u => (u.cell? ⟨PO, 0, none⟩ = some (.slice (some ⟨gb, 0, none⟩) n cp) ∧ u.cell? ⟨PG, 0, none⟩ = some (.slice (some ⟨b1, o1, none⟩) n gc)) ∧ (u.cell? ⟨B1, 0, none⟩ = some (.int .i64 (x : Int)) ∧ u.cell? ⟨B1, 1, none⟩ = some (.int .i64 xc)) ∧ (u.cell? ⟨B1 + 1, 0, none⟩ = some (.int .i64 (y : Int)) ∧ u.cell? ⟨B1 + 1, 1, none⟩ = some (.int .i64 yc)) ∧ (u.cell? ⟨gb, x, none⟩ = some (.slice (some ⟨rb, 0, none⟩) p rp) ∧ u.cell? ⟨rb, k, none⟩ = some (.int .i64 z0)) ∧ u.cell? ⟨b1, o1 + y, none⟩ = some (.slice (some ⟨c1, d1, none⟩) p e1) ∧ u.cell? ⟨c1, d1 + k, none⟩ = some (.int .i64 z1))) _ _ _ _ ?_)
      have hHeld : Held [32] (fun _ => (fun u => (u.cell? ⟨PO, 0, none⟩ = some (.slice (some ⟨gb, 0, none⟩) n cp) ∧ u.cell? ⟨PG, 0, none⟩ = some (.slice (some ⟨b1, o1, none⟩) n gc)) ∧ (u.cell? ⟨B1, 0, none⟩ = some (.int .i64 (x : Int)) ∧ u.cell? ⟨B1, 1, none⟩ = some (.int .i64 xc)) ∧ (u.cell? ⟨B1 + 1, 0, none⟩ = some (.int .i64 (y : Int)) ∧ u.cell? ⟨B1 + 1, 1, none⟩ = some (.int .i64 yc)) ∧ (u.cell? ⟨gb, x, none⟩ = some (.slice (some ⟨rb, 0, none⟩) p rp) ∧ u.cell? ⟨rb, k, none⟩ = some (.int .i64 z0)) ∧ u.cell? ⟨b1, o1 + y, none⟩ = some (.slice (some ⟨c1, d1, none⟩) p e1) ∧ u.cell? ⟨c1, d1 + k, none⟩ = some (.int .i64 z1))) (Array.replicate 33 false) _ := fun _ _ _ => HSS.out
      refine wpAnyT_take 0 (some 18) ?_ rfl rfl (by kernel_rfl) (by kernel_rfl) (by kernel_rfl) (by kernel_rfl) (by kernel_rfl) (fun _ _ _ h => h) hHeld (by rfl) (fun w hh => ?_) (fun hHeld => ?_)
      rotate_left
      · (have hSw := hh 32 (by simp) (by kernel_rfl); (try dsimp only at hSw); go_simp; try with_reducible rfl)
      simp only [Act.put, List.setIfInBounds_toArray, List.set_cons_zero, List.set_cons_succ]
      refine wpAnyT_take 1 (some 19) ?_ rfl rfl (by kernel_rfl) (by kernel_rfl) (by kernel_rfl) (by kernel_rfl) (by kernel_rfl) (fun _ _ _ h => h) hHeld (by rfl) (fun w hh => ?_) (fun hHeld => ?_)
      rotate_left
      · (have hSw := hh 32 (by simp) (by kernel_rfl); (try dsimp only at hSw); go_simp; try with_reducible rfl)
      simp only [Act.put, List.setIfInBounds_toArray, List.set_cons_zero, List.set_cons_succ]
      refine wpAnyT_take 2 (some 20) ?_ rfl rfl (by kernel_rfl) (by kernel_rfl) (by kernel_rfl) (by kernel_rfl) (by kernel_rfl) (fun _ _ _ h => h) hHeld (by rfl) (fun w hh => ?_) (fun hHeld => ?_)
      rotate_left
      · (have hSw := hh 32 (by simp) (by kernel_rfl); (try dsimp only at hSw); go_simp; try with_reducible rfl)
      simp only [Act.put, List.setIfInBounds_toArray, List.set_cons_zero, List.set_cons_succ]
      refine wpAnyT_take 3 (some 21) ?_ rfl rfl (by kernel_rfl) (by kernel_rfl) (by kernel_rfl) (by kernel_rfl) (by kernel_rfl) (fun _ _ _ h => h) hHeld (by rfl) (fun w hh => ?_) (fun hHeld => ?_)
      rotate_left
      · (have hSw := hh 32 (by simp) (by kernel_rfl); (try dsimp only at hSw); go_simp; try with_reducible rfl)
      simp only [Act.put, List.setIfInBounds_toArray, List.set_cons_zero, List.set_cons_succ]
      refine wpAnyT_take 4 (some 22) ?_ rfl rfl (by kernel_rfl) (by kernel_rfl) (by kernel_rfl) (by kernel_rfl) (by kernel_rfl) (fun _ _ _ h => h) hHeld (by rfl) (fun w hh => ?_) (fun hHeld => ?_)
      rotate_left
      · (have hSw := hh 32 (by simp) (by kernel_rfl); (try dsimp only at hSw); go_simp; try with_reducible rfl)
      simp only [Act.put, List.setIfInBounds_toArray, List.set_cons_zero, List.set_cons_succ]
      refine wpAnyT_take 5 (some 23) ?_ rfl rfl (by kernel_rfl) (by kernel_rfl) (by kernel_rfl) (by kernel_rfl) (by kernel_rfl) (fun _ _ _ h => h) hHeld (by rfl) (fun w hh => ?_) (fun hHeld => ?_)
      rotate_left
      · (have hSw := hh 32 (by simp) (by kernel_rfl); (try dsimp only at hSw); go_simp; try with_reducible rfl)
      simp only [Act.put, List.setIfInBounds_toArray, List.set_cons_zero, List.set_cons_succ]
      refine wpAnyT_take 6 (some 24) ?_ rfl rfl (by kernel_rfl) (by kernel_rfl) (by kernel_rfl) (by kernel_rfl) (by kernel_rfl) (fun _ _ _ h => h) hHeld (by rfl) (fun w hh => ?_) (fun hHeld => ?_)
      rotate_left
      · (have hSw := hh 32 (by simp) (by kernel_rfl); (try dsimp only at hSw); go_simp; try with_reducible rfl)
      simp only [Act.put, List.setIfInBounds_toArray, List.set_cons_zero, List.set_cons_succ]
      refine wpAnyT_take 7 (some 25) ?_ rfl rfl (by kernel_rfl) (by kernel_rfl) (by kernel_rfl) (by kernel_rfl) (by kernel_rfl) (fun _ _ _ h => h) hHeld (by rfl) (fun w hh => ?_) (fun hHeld => ?_)
      rotate_left
      · (have hSw := hh 32 (by simp) (by kernel_rfl); (try dsimp only at hSw); go_simp; try with_reducible rfl)
      simp only [Act.put, List.setIfInBounds_toArray, List.set_cons_zero, List.set_cons_succ]
      refine wpAnyT_take 8 (some 26) ?_ rfl rfl (by kernel_rfl) (by kernel_rfl) (by kernel_rfl) (by kernel_rfl) (by kernel_rfl) (fun _ _ _ h => h) hHeld (by rfl) (fun w hh => ?_) (fun hHeld => ?_)
      rotate_left
      · (have hSw := hh 32 (by simp) (by kernel_rfl); (try dsimp only at hSw); go_simp; try with_reducible rfl)
      simp only [Act.put, List.setIfInBounds_toArray, List.set_cons_zero, List.set_cons_succ]
      refine wpAnyT_take 9 (some 27) ?_ rfl rfl (by kernel_rfl) (by kernel_rfl) (by kernel_rfl) (by kernel_rfl) (by kernel_rfl) (fun _ _ _ h => h) hHeld (by rfl) (fun w hh => ?_) (fun hHeld => ?_)
      rotate_left
      · (have hSw := hh 32 (by simp) (by kernel_rfl); (try dsimp only at hSw); go_simp; try with_reducible rfl)
      simp only [Act.put, List.setIfInBounds_toArray, List.set_cons_zero, List.set_cons_succ]
      refine wpAnyT_take 10 (some 28) ?_ rfl rfl (by kernel_rfl) (by kernel_rfl) (by kernel_rfl) (by kernel_rfl) (by kernel_rfl) (fun _ _ _ h => h) hHeld (by rfl) (fun w hh => ?_) (fun hHeld => ?_)
      rotate_left
      · (have hSw := hh 32 (by simp) (by kernel_rfl); (try dsimp only at hSw); go_simp; try with_reducible rfl)
      simp only [Act.put, List.setIfInBounds_toArray, List.set_cons_zero, List.set_cons_succ]
      refine wpAnyT_take 11 (some 29) ?_ rfl rfl (by kernel_rfl) (by kernel_rfl) (by kernel_rfl) (by kernel_rfl) (by kernel_rfl) (fun _ _ _ h => h) hHeld (by rfl) (fun w hh => ?_) (fun hHeld => ?_)
      rotate_left
      · (have hSw := hh 32 (by simp) (by kernel_rfl); (try dsimp only at hSw); go_simp; try with_reducible rfl)
      simp only [Act.put, List.setIfInBounds_toArray, List.set_cons_zero, List.set_cons_succ]
      refine wpAnyT_take 12 (some 30) ?_ rfl rfl (by kernel_rfl) (by kernel_rfl) (by kernel_rfl) (by kernel_rfl) (by kernel_rfl) (fun _ _ _ h => h) hHeld (by rfl) (fun w hh => ?_) (fun hHeld => ?_)
      rotate_left
      · (have hSw := hh 32 (by simp) (by kernel_rfl); (try dsimp only at hSw); go_simp; try with_reducible rfl)
      simp only [Act.put, List.setIfInBounds_toArray, List.set_cons_zero, List.set_cons_succ]
      refine wpAnyT_take 13 (some 31) ?_ rfl rfl (by kernel_rfl) (by kernel_rfl) (by kernel_rfl) (by kernel_rfl) (by kernel_rfl) (fun _ _ _ h => h) hHeld (by rfl) (fun w hh => ?_) (fun hHeld => ?_)
      rotate_left
      · (have hSw := hh 32 (by simp) (by kernel_rfl); (try dsimp only at hSw); go_simp; try with_reducible rfl)
      simp only [Act.put, List.setIfInBounds_toArray, List.set_cons_zero, List.set_cons_succ]
      refine wpAnyT_take 14 (some 32) ?_ rfl rfl (by kernel_rfl) (by kernel_rfl) (by kernel_rfl) (by kernel_rfl) (by kernel_rfl) (fun _ _ _ h => h) hHeld (by rfl) (fun w hh => ?_) (fun hHeld => ?_)
      rotate_left
      · (have hSw := hh 32 (by simp) (by kernel_rfl); (try dsimp only at hSw); go_simp; try with_reducible rfl)
      simp only [Act.put, List.setIfInBounds_toArray, List.set_cons_zero, List.set_cons_succ]
      refine wpAnyT_take 15 (some 33) ?_ rfl rfl (by kernel_rfl) (by kernel_rfl) (by kernel_rfl) (by kernel_rfl) (by kernel_rfl) (fun _ _ _ h => h) hHeld (by rfl) (fun w hh => ?_) (fun hHeld => ?_)
      rotate_left
      · (have hSw := hh 32 (by simp) (by kernel_rfl); (try dsimp only at hSw); go_simp; try with_reducible rfl)
      simp only [Act.put, List.setIfInBounds_toArray, List.set_cons_zero, List.set_cons_succ]
      refine wpAnyT_take 16 (some 34) ?_ rfl rfl (by kernel_rfl) (by kernel_rfl) (by kernel_rfl) (by kernel_rfl) (by kernel_rfl) (fun _ _ _ h => h) hHeld (by rfl) (fun w hh => ?_) (fun hHeld => ?_)
      rotate_left
      · (have hSw := hh 32 (by simp) (by kernel_rfl); (try dsimp only at hSw); go_simp; try with_reducible rfl)
      simp only [Act.put, List.setIfInBounds_toArray, List.set_cons_zero, List.set_cons_succ]
      refine wpAnyT_take 17 (some 35) ?_ rfl rfl (by kernel_rfl) (by kernel_rfl) (by kernel_rfl) (by kernel_rfl) (by kernel_rfl) (fun _ _ _ h => h) hHeld (by rfl) (fun w hh => ?_) (fun hHeld => ?_)
      rotate_left
      · (have hSw := hh 32 (by simp) (by kernel_rfl); (try dsimp only at hSw); go_simp; try with_reducible rfl)
      simp only [Act.put, List.setIfInBounds_toArray, List.set_cons_zero, List.set_cons_succ]
      refine wpAnyT_take 18 (some 36) ?_ rfl rfl (by kernel_rfl) (by kernel_rfl) (by kernel_rfl) (by kernel_rfl) (by kernel_rfl) (fun _ _ _ h => h) hHeld (by rfl) (fun w hh => ?_) (fun hHeld => ?_)
      rotate_left
      · (have hSw := hh 32 (by simp) (by kernel_rfl); (try dsimp only at hSw); go_simp; try with_reducible rfl)
      simp only [Act.put, List.setIfInBounds_toArray, List.set_cons_zero, List.set_cons_succ]
      refine wpAnyT_take 19 (some 37) ?_ rfl rfl (by kernel_rfl) (by kernel_rfl) (by kernel_rfl) (by kernel_rfl) (by kernel_rfl) (fun _ _ _ h => h) hHeld (by rfl) (fun w hh => ?_) (fun hHeld => ?_)
      rotate_left
      · (have hSw := hh 32 (by simp) (by kernel_rfl); (try dsimp only at hSw); go_simp; try with_reducible rfl)
      simp only [Act.put, List.setIfInBounds_toArray, List.set_cons_zero, List.set_cons_succ]
      refine wpAnyT_take 20 (some 38) ?_ rfl rfl (by kernel_rfl) (by kernel_rfl) (by kernel_rfl) (by kernel_rfl) (by kernel_rfl) (fun _ _ _ h => h) hHeld (by rfl) (fun w hh => ?_) (fun hHeld => ?_)
      rotate_left
      · (have hSw := hh 32 (by simp) (by kernel_rfl); (try dsimp only at hSw); go_simp; try with_reducible rfl)
      simp only [Act.put, List.setIfInBounds_toArray, List.set_cons_zero, List.set_cons_succ]
      refine wpAnyT_take 21 (some 39) ?_ rfl rfl (by kernel_rfl) (by kernel_rfl) (by kernel_rfl) (by kernel_rfl) (by kernel_rfl) (fun _ _ _ h => h) hHeld (by rfl) (fun w hh => ?_) (fun hHeld => ?_)
      rotate_left
      · (have hSw := hh 32 (by simp) (by kernel_rfl); (try dsimp only at hSw); go_simp; try with_reducible rfl)
      simp only [Act.put, List.setIfInBounds_toArray, List.set_cons_zero, List.set_cons_succ]
      refine wpAnyT_take 22 (some 40) ?_ rfl rfl (by kernel_rfl) (by kernel_rfl) (by kernel_rfl) (by kernel_rfl) (by kernel_rfl) (fun _ _ _ h => h) hHeld (by rfl) (fun w hh => ?_) (fun hHeld => ?_)
      rotate_left
      · (have hSw := hh 32 (by simp) (by kernel_rfl); (try dsimp only at hSw); go_simp; try with_reducible rfl)
      simp only [Act.put, List.setIfInBounds_toArray, List.set_cons_zero, List.set_cons_succ]
      refine wpAnyT_take 23 (some 41) ?_ rfl rfl (by kernel_rfl) (by kernel_rfl) (by kernel_rfl) (by kernel_rfl) (by kernel_rfl) (fun _ _ _ h => h) hHeld (by rfl) (fun w hh => ?_) (fun hHeld => ?_)
      rotate_left
      · (have hSw := hh 32 (by simp) (by kernel_rfl); (try dsimp only at hSw); go_simp; try with_reducible rfl)
      simp only [Act.put, List.setIfInBounds_toArray, List.set_cons_zero, List.set_cons_succ]
      refine wpAnyT_take 24 (some 42) ?_ rfl rfl (by kernel_rfl) (by kernel_rfl) (by kernel_rfl) (by kernel_rfl) (by kernel_rfl) (fun _ _ _ h => h) hHeld (by rfl) (fun w hh => ?_) (fun hHeld => ?_)
      rotate_left
      · (have hSw := hh 32 (by simp) (by kernel_rfl); (try dsimp only at hSw); go_simp; try with_reducible rfl)
      simp only [Act.put, List.setIfInBounds_toArray, List.set_cons_zero, List.set_cons_succ]
      refine wpAnyT_take 25 (some 43) ?_ rfl rfl (by kernel_rfl) (by kernel_rfl) (by kernel_rfl) (by kernel_rfl) (by kernel_rfl) (fun _ _ _ h => h) hHeld (by rfl) (fun w hh => ?_) (fun hHeld => ?_)
      rotate_left
      · (have hSw := hh 32 (by simp) (by kernel_rfl); (try dsimp only at hSw); go_simp; try with_reducible rfl)
      simp only [Act.put, List.setIfInBounds_toArray, List.set_cons_zero, List.set_cons_succ]
      refine wpAnyT_take 26 (some 44) ?_ rfl rfl (by kernel_rfl) (by kernel_rfl) (by kernel_rfl) (by kernel_rfl) (by kernel_rfl) (fun _ _ _ h => h) hHeld (by rfl) (fun w hh => ?_) (fun hHeld => ?_)
      rotate_left
      · (have hSw := hh 32 (by simp) (by kernel_rfl); (try dsimp only at hSw); go_simp; try with_reducible rfl)
      simp only [Act.put, List.setIfInBounds_toArray, List.set_cons_zero, List.set_cons_succ]
      refine wpAnyT_take 27 (some 45) ?_ rfl rfl (by kernel_rfl) (by kernel_rfl) (by kernel_rfl) (by kernel_rfl) (by kernel_rfl) (fun _ _ _ h => h) hHeld (by rfl) (fun w hh => ?_) (fun hHeld => ?_)
      rotate_left
      · (have hSw := hh 32 (by simp) (by kernel_rfl); (try dsimp only at hSw); go_simp; try with_reducible rfl)
      simp only [Act.put, List.setIfInBounds_toArray, List.set_cons_zero, List.set_cons_succ]
      refine wpAnyT_take 28 (some 46) ?_ rfl rfl (by kernel_rfl) (by kernel_rfl) (by kernel_rfl) (by kernel_rfl) (by kernel_rfl) (fun _ _ _ h => h) hHeld (by rfl) (fun w hh => ?_) (fun hHeld => ?_)
      rotate_left
      · (have hSw := hh 32 (by simp) (by kernel_rfl); (try dsimp only at hSw); go_simp; try with_reducible rfl)
      simp only [Act.put, List.setIfInBounds_toArray, List.set_cons_zero, List.set_cons_succ]
      refine wpAnyT_step 29 rfl (by kernel_rfl) (by rfl) ?_
      go_simp
      (with_reducible refine (cS.out _).mono ?_)
      rintro e w' ⟨rfl, rfl⟩
      have hHeld := Held.put (i := 29) hHeld
      refine ⟨hHeld, ?_⟩
      go_simp
      refine wpAnyT_take 30 (some 48) ?_ rfl rfl (by kernel_rfl) (by kernel_rfl) (by kernel_rfl) (by kernel_rfl) (by kernel_rfl) (fun _ _ _ h => h) hHeld (by rfl) (fun w hh => ?_) (fun hHeld => ?_)
      rotate_left
      · (have hSw := hh 32 (by simp) (by kernel_rfl); (try dsimp only at hSw); go_simp; try with_reducible rfl)
      simp only [Act.put, List.setIfInBounds_toArray, List.set_cons_zero, List.set_cons_succ]
      refine wpAnyT_take 31 (some 49) ?_ rfl rfl (by kernel_rfl) (by kernel_rfl) (by kernel_rfl) (by kernel_rfl) (by kernel_rfl) (fun _ _ _ h => h) hHeld (by rfl) (fun w hh => ?_) (fun hHeld => ?_)
      rotate_left
      · (have hSw := hh 32 (by simp) (by kernel_rfl); (try dsimp only at hSw); go_simp; try with_reducible rfl)
      simp only [Act.put, List.setIfInBounds_toArray, List.set_cons_zero, List.set_cons_succ]
      refine wpAnyT_step 32 rfl (by kernel_rfl) (by rfl) ?_
      go_simp
      refine ⟨Held.none (by kernel_rfl), wpAnyT_done (by kernel_rfl) ?_⟩
      go_wp2_with fail
      go_roundw
      case rel => exact ⟨k + 1, by go_num, by omega, HS2, hB2, HK2⟩
      case measure => simp [intOf]; omega
    · obtain rfl : k = p := by omega
      have HS2 : Hid (OwnM w0.heap.size wr (.slice (some ⟨gb, 0, none⟩) n cp) (Gp.less M g x y (yc - xc - by_))) := by
        show OwnM _ _ _ _
        unfold Gp.less
        rw [Gp.tab_congr (G' := fun a b => if a = x ∧ b < k then min (Gp.at_ M a b) (Gp.sum (Gp.at_ g y b) (yc - xc - by_)) else Gp.at_ M a b) (fun a ha b hb => by
          rw [HMR.out a ha] at hb
          by_cases h1 : a = x
          · rw [if_pos h1, if_pos ⟨h1, hb⟩]
          · rw [if_neg h1, if_neg (fun h => h1 h.1)])]
        exact hown.out
      have HK2 := hid (kp2.out.trans hkp.out)
      clear hown hkp c1z c2z hr1
      go_wp2_with fail
      go_end0
      exact ⟨⟨_, rfl⟩, HS2.out, hbel, HK2.out⟩
end Go.Proofs.Ytajlmkokfgbjdaa
