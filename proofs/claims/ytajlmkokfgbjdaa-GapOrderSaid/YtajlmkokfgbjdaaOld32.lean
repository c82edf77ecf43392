/- What tight computes. -/
import Derived.Test.YtajlmkokfgbjdaaOld31
set_option linter.unusedVariables false
set_option linter.unusedSimpArgs false
namespace Go.Proofs.Ytajlmkokfgbjdaa
open Go.RowKit

def Gp.more (l : List Int) (c : Nat) : Int := if l.length = 0 then 0 else l.getD (c % l.length) 0
def Gp.tightAt (p : Nat) (v more : List Int) (a b : Nat) : Int := if (Gp.more more (a * p + b)).tmod 4 = 3 then 1099511627776 else v.getD a 0 - v.getD b 0 + (Gp.more more (a * p + b)).tdiv 4
def Gp.tight (g : List (List Int)) (p : Nat) (v more : List Int) : List (List Int) := Gp.tab g (Gp.tightAt p v more)
theorem Gp.more_bounds {l : List Int} (h : ∀ i, 0 ≤ l.getD i 0 ∧ l.getD i 0 ≤ 255) (c : Nat) : 0 ≤ Gp.more l c ∧ Gp.more l c ≤ 255 := by
  unfold Gp.more
  split
  · omega
  · exact h _

set_option maxRecDepth 100000 in
set_option maxHeartbeats 8000000 in
theorem tight_any (gv vv mv : Value) (g : List (List Int)) (p : Nat) (v more : List Int) (w : World) (hg : Small g) (hr : Rect g p) (hp5 : p ≤ 5) (hn5 : g.length ≤ 5) (hpn : p ≤ g.length) (hv : v.length = g.length) (hvb : ∀ i, -2147483648 ≤ v.getD i 0 ∧ v.getD i 0 ≤ 2147483647)
    (hml : more.length ≤ 9223372036854775807) (hmb : ∀ i, 0 ≤ more.getD i 0 ∧ more.getD i 0 ≤ 255) (hs : Mx w gv g) (hsv : Sl .i64 w vv v) (hsm : Sl .u8 w mv more) :
    Calls Try.prog 12 #[gv, vv, mv] w fun e w' => ∃ v', e = .returned v' ∧ OwnM w.heap.size w' v' (Gp.tight g p v more) ∧ Below w.heap.size w w' := by
  unfold Gp.tight
  have cC := hid (copy_any gv g w hg hs)
  have H1 := hid hs
  have HR := hid hr
  have HVB := hid hvb
  have HMB := hid hmb
  obtain ⟨n, hn⟩ : ∃ n, g.length = n := ⟨_, rfl⟩
  obtain ⟨m, hm⟩ : ∃ m, more.length = m := ⟨_, rfl⟩
  have HN := hid hn
  have HM := hid hm
  have HV := hid (hv.trans hn)
  have n0 : 0 < n := by have := hg.1; omega
  have n5 : n ≤ 5 := by omega
  have pn : p ≤ n := by omega
  obtain ⟨va, vcap, hve, -, -, -, hvo⟩ := hsv
  obtain ⟨ma, mcap, hme, -, -, -, hmo⟩ := hsm
  subst hve hme
  have HVO := hid hvo
  have HMO := hid hmo
  obtain ⟨a1, cap1, rfl, _⟩ := hs
  rw [HV.out]
  rw [hm] at hml
  rw [hm]
  rw [hn] at cC H1 ⊢
  clear hg hr hn5 hpn hv hvb hmb hn hm hvo hmo
  go_enter Try.func12, Try.ntmps12
  go_wp2_with fail
  refine cC.out.mono ?_
  rintro e w1 ⟨v1, rfl, ho, hb⟩
  obtain ⟨gb, cp, rfl, hgb0, hgb1, hcp0, hcp1⟩ := OwnS.form ho (by rw [HN.out]; exact n0)
  rw [HN.out] at ho ⊢
  have HO := hid ho
  clear ho hcp1 cC
  go_wp2_with fail
  go_loopw [8, 9] (fun iv kv wr => ∃ k : Nat, iv = .int .i64 ((k * p : Nat) : Int) ∧ kv = .int .i64 k ∧ k ≤ n ∧ Hid (OwnM w.heap.size wr (.slice (some ⟨gb, 0, none⟩) n cp) (Gp.tab g (fun i j => if i < k then Gp.tightAt p v more i j else Gp.at_ g i j))) ∧ Below w.heap.size w wr) (fun _ kv _ => n - (intOf kv).toNat)
  case atStart => exact ⟨0, by simp, rfl, Nat.zero_le _, by show OwnM _ _ _ _; rw [Gp.tab_congr (G' := Gp.at_ g) (fun a _ b _ => by rw [if_neg (by omega)]), Gp.tab_self]; exact HO.out, hb⟩
  case round =>
    obtain ⟨k, rfl, rfl, hk, hown, hbel⟩ := hrel
    by_cases hlt : k < n
    · have hkg : k < g.length := by rw [HN.out]; exact hlt
      have i1 : (0 : Int) ≤ (k : Int) := by omega
      have i2 : (k : Int) < (n : Int) := by omega
      have HKG := hid hkg
      obtain ⟨q, hq⟩ : ∃ q, k * p = q := ⟨_, rfl⟩
      have hq2 : q ≤ 25 := by rw [← hq]; exact Nat.mul_le_mul (show k ≤ 5 by omega) hp5
      have HQ := hid hq
      rw [hq]
      clear HO hkg hq
      go_wp2_with fail
      obtain ⟨wo, hwo⟩ : ∃ wo : World, wo = wr := ⟨_, rfl⟩
      have HK0 : Hid (OwnM w.heap.size wr (.slice (some ⟨gb, 0, none⟩) n cp) (Gp.tab g (fun i j => if i < k ∨ (i = k ∧ j < 0) then Gp.tightAt p v more i j else Gp.at_ g i j))) := by
        show OwnM _ _ _ _
        rw [Gp.tab_congr (G' := fun i j => if i < k then Gp.tightAt p v more i j else Gp.at_ g i j) (fun a _ b _ => by
          by_cases hak : a < k
          · rw [if_pos (.inl hak), if_pos hak]
          · rw [if_neg (by omega), if_neg hak])]
        exact hown.out
      clear hown
      subst hwo
      go_loopw [8, 10] (fun iv lv wr => ∃ l : Nat, iv = .int .i64 ((q + l : Nat) : Int) ∧ lv = .int .i64 l ∧ l ≤ p ∧ Hid (OwnM w.heap.size wr (.slice (some ⟨gb, 0, none⟩) n cp) (Gp.tab g (fun i j => if i < k ∨ (i = k ∧ j < l) then Gp.tightAt p v more i j else Gp.at_ g i j))) ∧ Below w.heap.size w wr) (fun _ lv _ => p - (intOf lv).toNat)
      case atStart => exact ⟨0, by simp, rfl, Nat.zero_le _, HK0, hbel⟩
      case round =>
        obtain ⟨l, rfl, rfl, hl, hown, hbel⟩ := hrel
        obtain ⟨bz, oz, hz0, hz1, hz2⟩ := H1.out.row.2.2 (by rw [HN.out]; exact n0)
        obtain ⟨rz, hz3, hz4⟩ := hz2 k HKG.out
        obtain ⟨rza, rzc, rfl, _⟩ := hz4
        rw [HR.out k HKG.out] at hz3
        have hz3 := (hbel.cell (p := ⟨bz, oz + k, none⟩) hz1).trans hz3
        clear hz2
        subst hz0
        by_cases hll : l < p
        · have i3 : (0 : Int) ≤ (l : Int) := by omega
          have i4 : (l : Int) < (p : Int) := by omega
          have i9 : (l : Int) < (n : Int) := by omega
          obtain ⟨bv, ov, rfl, lbv, hvc⟩ := HVO.out (by rw [HV.out]; exact n0)
          have y1 := (hbel.cell (p := ⟨bv, ov + k, none⟩) lbv).trans (hvc k (by rw [HV.out]; exact hlt))
          have y2 := (hbel.cell (p := ⟨bv, ov + l, none⟩) lbv).trans (hvc l (by rw [HV.out]; omega))
          have x1 := HVB.out k
          have x2 := HVB.out l
          obtain ⟨x, hx⟩ : ∃ x, v.getD k 0 = x := ⟨_, rfl⟩
          obtain ⟨y, hy⟩ : ∃ y, v.getD l 0 = y := ⟨_, rfl⟩
          obtain ⟨t, ht⟩ : ∃ t, q + l = t := ⟨_, rfl⟩
          have ht2 : t ≤ 30 := by omega
          have HT := hid ht
          rw [hx] at y1 x1
          rw [hy] at y2 x2
          rw [ht]
          have x3 := Gp.more_bounds HMB.out t
          obtain ⟨e, he⟩ : ∃ e, Gp.more more t = e := ⟨_, rfl⟩
          obtain ⟨d, hd⟩ : ∃ d, e.tdiv 4 = d := ⟨_, rfl⟩
          obtain ⟨r, hr⟩ : ∃ r, e.tmod 4 = r := ⟨_, rfl⟩
          rw [he] at x3
          have hd2 : 0 ≤ d ∧ d ≤ 63 := by rw [← hd, Int.tdiv_eq_ediv_of_nonneg (by omega)]; omega
          have HTA : Hid (Gp.tightAt p v more k l = if r = 3 then 1099511627776 else x - y + d) := by
            show _ = _
            unfold Gp.tightAt
            rw [HQ.out, HT.out, hx, hy, he, hd, hr]
          have HE := hid he
          clear hx hy ht he hvc
          obtain ⟨rb, rp, p1, p2, p3, p4, _, p5⟩ := hown.out.place k l (by rw [Gp.tab_length]; exact HKG.out) (by rw [Gp.tab_rowlen, HR.out k HKG.out]; exact hll)
          rw [Gp.tab_rowlen, HR.out k HKG.out] at p1
          by_cases hm0 : m = 0
          · have h0 := HE.out
            unfold Gp.more at h0
            rw [HM.out, if_pos hm0] at h0
            subst h0
            obtain rfl : d = 0 := by rw [← hd]; rfl
            obtain rfl : r = 0 := by rw [← hr]; rfl
            clear hd hr
            subst hm0
            obtain ⟨u1, u2, u3, u4, u5⟩ := p5 (x - y)
            rw [Gp.tab_upd _ _ _ _ _ HKG.out] at u1
            have far : ∀ q j, q < w.heap.size → ((wr.setCell ⟨rb, l, none⟩ (.int .i64 (x - y))).drew).cell? ⟨q, j, none⟩ = wr.cell? ⟨q, j, none⟩ := fun q j hq => World.cell?_setCell_far wr ⟨rb, l, none⟩ ⟨q, j, none⟩ _ (by show rb ≠ q; omega)
            have hkeep : ((wr.setCell ⟨rb, l, none⟩ (.int .i64 (x - y))).drew).cell? ⟨gb, k, none⟩ = some (.slice (some ⟨rb, 0, none⟩) p rp) ∧ ((wr.setCell ⟨rb, l, none⟩ (.int .i64 (x - y))).drew).cell? ⟨bz, oz + k, none⟩ = some (.slice rza p rzc) ∧ ((wr.setCell ⟨rb, l, none⟩ (.int .i64 (x - y))).drew).cell? ⟨bv, ov + k, none⟩ = some (.int .i64 x) ∧ ((wr.setCell ⟨rb, l, none⟩ (.int .i64 (x - y))).drew).cell? ⟨bv, ov + l, none⟩ = some (.int .i64 y) := ⟨by rw [Gp.tab_rowlen, HR.out k HKG.out] at u2; exact u2, (far _ _ hz1).trans hz3, (far _ _ lbv).trans y1, (far _ _ lbv).trans y2⟩
            have HKP := hid hkeep
            have hB1 : Below w.heap.size w ((wr.setCell ⟨rb, l, none⟩ (.int .i64 (x - y))).drew) := (hbel.setCell (p := ⟨rb, l, none⟩) p4 _).drew
            have HS1 : Hid (OwnM w.heap.size ((wr.setCell ⟨rb, l, none⟩ (.int .i64 (x - y))).drew) (.slice (some ⟨gb, 0, none⟩) n cp) (Gp.tab g (fun a b => if a = k ∧ b = l then x - y else (if a < k ∨ (a = k ∧ b < l) then Gp.tightAt p v more a b else Gp.at_ g a b)))) := hid (OwnS.kept u1 (dB _))
            clear u1 u2 u3 u4 u5 p5 hown HK0 far hkeep
            have HWZ := hid (show IntKind.i64.wrap (IntKind.i64.wrap (x - y) + IntKind.i64.wrap 0) = x - y by rw [IntWalk.i64_in (x - y) (by omega), IntWalk.i64_in 0 (by omega), IntWalk.i64_in _ (by omega)]; omega)
            go_wp2_with fail
            go_region_held3 (fun u => u.cell? ⟨gb, k, none⟩ = some (.slice (some ⟨rb, 0, none⟩) p rp) ∧ u.cell? ⟨bz, oz + k, none⟩ = some (.slice rza p rzc) ∧ u.cell? ⟨bv, ov + k, none⟩ = some (.int .i64 x) ∧ u.cell? ⟨bv, ov + l, none⟩ = some (.int .i64 y)) (first | (rw [HWZ.out]; exact HKP.out) | go_keep)
              (fail)
            rw [HWZ.out]
            generalize ((wr.setCell ⟨rb, l, none⟩ (.int .i64 (x - y))).drew) = wb at HKP hB1 HS1 ⊢
            have HS2 : Hid (OwnM w.heap.size wb (.slice (some ⟨gb, 0, none⟩) n cp) (Gp.tab g (fun i j => if i < k ∨ (i = k ∧ j < l + 1) then Gp.tightAt p v more i j else Gp.at_ g i j))) := by
              show OwnM _ _ _ _
              rw [Gp.tab_congr (G' := fun a b => if a = k ∧ b = l then x - y else (if a < k ∨ (a = k ∧ b < l) then Gp.tightAt p v more a b else Gp.at_ g a b)) (fun a _ b _ => by
                by_cases h1 : a = k ∧ b = l
                · obtain ⟨rfl, rfl⟩ := h1
                  rw [if_pos (by omega), if_pos ⟨rfl, rfl⟩, HTA.out, if_neg (by omega)]; simp
                · rw [if_neg h1]
                  by_cases h2 : a < k ∨ (a = k ∧ b < l)
                  · rw [if_pos h2, if_pos (by omega)]
                  · rw [if_neg h2, if_neg (by omega)])]
              exact HS1.out
            clear HS1 HKP
            go_wp2_with fail
            go_roundw
            case rel => exact ⟨l + 1, by rw [show q + (l + 1) = t + 1 by have := HT.out; omega]; go_num, by go_num, by omega, HS2, hB1⟩
            case measure => simp [intOf]; omega
          · have h0 := HE.out
            unfold Gp.more at h0
            rw [HM.out, if_neg hm0] at h0
            have i5 : (0 : Int) < (m : Int) := by omega
            have i6 : ¬ (m : Int) = 0 := by omega
            obtain ⟨j, hj⟩ : ∃ j, t % m = j := ⟨_, rfl⟩
            have hjm : j < m := by rw [← hj]; exact Nat.mod_lt _ (by omega)
            have i7 : (0 : Int) ≤ (j : Int) := by omega
            have i8 : (j : Int) < (m : Int) := by omega
            have e1 : Int.tmod (t : Int) (m : Int) = (j : Int) := by rw [Int.tmod_eq_emod_of_nonneg (by omega), ← hj]; rfl
            rw [hj] at h0
            obtain ⟨bm, om, rfl, lbm, hmc⟩ := HMO.out (by rw [HM.out]; omega)
            have y3 := (hbel.cell (p := ⟨bm, om + j, none⟩) lbm).trans (hmc j (by rw [HM.out]; exact hjm))
            rw [h0] at y3
            clear hmc h0 hj
            by_cases hr3 : r = 3
            · subst hr3
              obtain ⟨u1, u2, u3, u4, u5⟩ := p5 (x - y + d)
              rw [Gp.tab_upd _ _ _ _ _ HKG.out] at u1
              have far : ∀ q j, q < w.heap.size → ((wr.setCell ⟨rb, l, none⟩ (.int .i64 (x - y + d))).drew).cell? ⟨q, j, none⟩ = wr.cell? ⟨q, j, none⟩ := fun q j hq => World.cell?_setCell_far wr ⟨rb, l, none⟩ ⟨q, j, none⟩ _ (by show rb ≠ q; omega)
              have hkeep : ((wr.setCell ⟨rb, l, none⟩ (.int .i64 (x - y + d))).drew).cell? ⟨gb, k, none⟩ = some (.slice (some ⟨rb, 0, none⟩) p rp) ∧ ((wr.setCell ⟨rb, l, none⟩ (.int .i64 (x - y + d))).drew).cell? ⟨bz, oz + k, none⟩ = some (.slice rza p rzc) ∧ ((wr.setCell ⟨rb, l, none⟩ (.int .i64 (x - y + d))).drew).cell? ⟨bv, ov + k, none⟩ = some (.int .i64 x) ∧ ((wr.setCell ⟨rb, l, none⟩ (.int .i64 (x - y + d))).drew).cell? ⟨bv, ov + l, none⟩ = some (.int .i64 y) := ⟨by rw [Gp.tab_rowlen, HR.out k HKG.out] at u2; exact u2, (far _ _ hz1).trans hz3, (far _ _ lbv).trans y1, (far _ _ lbv).trans y2⟩
              have HKP := hid hkeep
              have hB1 : Below w.heap.size w ((wr.setCell ⟨rb, l, none⟩ (.int .i64 (x - y + d))).drew) := (hbel.setCell (p := ⟨rb, l, none⟩) p4 _).drew
              have HS1 : Hid (OwnM w.heap.size ((wr.setCell ⟨rb, l, none⟩ (.int .i64 (x - y + d))).drew) (.slice (some ⟨gb, 0, none⟩) n cp) (Gp.tab g (fun a b => if a = k ∧ b = l then x - y + d else (if a < k ∨ (a = k ∧ b < l) then Gp.tightAt p v more a b else Gp.at_ g a b)))) := hid (OwnS.kept u1 (dB _))
              clear u1 u2 u3 u4 u5 p5 hown HK0 far hkeep
              have HWZ := hid (show IntKind.i64.wrap (IntKind.i64.wrap (x - y) + IntKind.i64.wrap d) = x - y + d by rw [IntWalk.i64_in (x - y) (by omega), IntWalk.i64_in d (by omega), IntWalk.i64_in _ (by omega)])
              go_wp2_with fail
              go_region_held3 (fun u => u.cell? ⟨gb, k, none⟩ = some (.slice (some ⟨rb, 0, none⟩) p rp) ∧ u.cell? ⟨bz, oz + k, none⟩ = some (.slice rza p rzc) ∧ u.cell? ⟨bv, ov + k, none⟩ = some (.int .i64 x) ∧ u.cell? ⟨bv, ov + l, none⟩ = some (.int .i64 y)) (first | (rw [HWZ.out]; exact HKP.out) | go_keep)
                (fail)
              rw [HWZ.out]
              generalize ((wr.setCell ⟨rb, l, none⟩ (.int .i64 (x - y + d))).drew) = wb at HKP hB1 HS1 ⊢
              obtain ⟨rb2, rp2, z1, z2, z3, z4, _, z5⟩ := HS1.out.place k l (by rw [Gp.tab_length]; exact HKG.out) (by rw [Gp.tab_rowlen, HR.out k HKG.out]; exact hll)
              rw [Gp.tab_rowlen, HR.out k HKG.out] at z1
              obtain ⟨u1, -⟩ := z5 1099511627776
              rw [Gp.tab_upd _ _ _ _ _ HKG.out] at u1
              have HS2 : Hid (OwnM w.heap.size (wb.setCell ⟨rb2, l, none⟩ (.int .i64 1099511627776)) (.slice (some ⟨gb, 0, none⟩) n cp) (Gp.tab g (fun i j => if i < k ∨ (i = k ∧ j < l + 1) then Gp.tightAt p v more i j else Gp.at_ g i j))) := by
                show OwnM _ _ _ _
                rw [Gp.tab_congr (G' := fun a b => if a = k ∧ b = l then 1099511627776 else (if a = k ∧ b = l then x - y + d else (if a < k ∨ (a = k ∧ b < l) then Gp.tightAt p v more a b else Gp.at_ g a b))) (fun a _ b _ => by
                  by_cases h1 : a = k ∧ b = l
                  · obtain ⟨rfl, rfl⟩ := h1
                    rw [if_pos (by omega), if_pos ⟨rfl, rfl⟩, HTA.out]; simp
                  · rw [if_neg h1, if_neg h1]
                    by_cases h2 : a < k ∨ (a = k ∧ b < l)
                    · rw [if_pos h2, if_pos (by omega)]
                    · rw [if_neg h2, if_neg (by omega)])]
                exact u1
              have hB2 : Below w.heap.size w (wb.setCell ⟨rb2, l, none⟩ (.int .i64 1099511627776)) := hB1.setCell (p := ⟨rb2, l, none⟩) z4 _
              clear u1 z5 HS1 HKP
              go_wp2_with fail
              go_roundw
              case rel => exact ⟨l + 1, by rw [show q + (l + 1) = t + 1 by have := HT.out; omega]; go_num, by go_num, by omega, HS2, hB2⟩
              case measure => simp [intOf]; omega
            · have t1 : (r == 3) = false := by simpa using hr3
              obtain ⟨u1, u2, u3, u4, u5⟩ := p5 (x - y + d)
              rw [Gp.tab_upd _ _ _ _ _ HKG.out] at u1
              have far : ∀ q j, q < w.heap.size → ((wr.setCell ⟨rb, l, none⟩ (.int .i64 (x - y + d))).drew).cell? ⟨q, j, none⟩ = wr.cell? ⟨q, j, none⟩ := fun q j hq => World.cell?_setCell_far wr ⟨rb, l, none⟩ ⟨q, j, none⟩ _ (by show rb ≠ q; omega)
              have hkeep : ((wr.setCell ⟨rb, l, none⟩ (.int .i64 (x - y + d))).drew).cell? ⟨gb, k, none⟩ = some (.slice (some ⟨rb, 0, none⟩) p rp) ∧ ((wr.setCell ⟨rb, l, none⟩ (.int .i64 (x - y + d))).drew).cell? ⟨bz, oz + k, none⟩ = some (.slice rza p rzc) ∧ ((wr.setCell ⟨rb, l, none⟩ (.int .i64 (x - y + d))).drew).cell? ⟨bv, ov + k, none⟩ = some (.int .i64 x) ∧ ((wr.setCell ⟨rb, l, none⟩ (.int .i64 (x - y + d))).drew).cell? ⟨bv, ov + l, none⟩ = some (.int .i64 y) := ⟨by rw [Gp.tab_rowlen, HR.out k HKG.out] at u2; exact u2, (far _ _ hz1).trans hz3, (far _ _ lbv).trans y1, (far _ _ lbv).trans y2⟩
              have HKP := hid hkeep
              have hB1 : Below w.heap.size w ((wr.setCell ⟨rb, l, none⟩ (.int .i64 (x - y + d))).drew) := (hbel.setCell (p := ⟨rb, l, none⟩) p4 _).drew
              have HS1 : Hid (OwnM w.heap.size ((wr.setCell ⟨rb, l, none⟩ (.int .i64 (x - y + d))).drew) (.slice (some ⟨gb, 0, none⟩) n cp) (Gp.tab g (fun a b => if a = k ∧ b = l then x - y + d else (if a < k ∨ (a = k ∧ b < l) then Gp.tightAt p v more a b else Gp.at_ g a b)))) := hid (OwnS.kept u1 (dB _))
              clear u1 u2 u3 u4 u5 p5 hown HK0 far hkeep
              have HWZ := hid (show IntKind.i64.wrap (IntKind.i64.wrap (x - y) + IntKind.i64.wrap d) = x - y + d by rw [IntWalk.i64_in (x - y) (by omega), IntWalk.i64_in d (by omega), IntWalk.i64_in _ (by omega)])
              go_wp2_with fail
              go_region_held3 (fun u => u.cell? ⟨gb, k, none⟩ = some (.slice (some ⟨rb, 0, none⟩) p rp) ∧ u.cell? ⟨bz, oz + k, none⟩ = some (.slice rza p rzc) ∧ u.cell? ⟨bv, ov + k, none⟩ = some (.int .i64 x) ∧ u.cell? ⟨bv, ov + l, none⟩ = some (.int .i64 y)) (first | (rw [HWZ.out]; exact HKP.out) | go_keep)
                (fail)
              rw [HWZ.out]
              generalize ((wr.setCell ⟨rb, l, none⟩ (.int .i64 (x - y + d))).drew) = wb at HKP hB1 HS1 ⊢
              have HS2 : Hid (OwnM w.heap.size wb (.slice (some ⟨gb, 0, none⟩) n cp) (Gp.tab g (fun i j => if i < k ∨ (i = k ∧ j < l + 1) then Gp.tightAt p v more i j else Gp.at_ g i j))) := by
                show OwnM _ _ _ _
                rw [Gp.tab_congr (G' := fun a b => if a = k ∧ b = l then x - y + d else (if a < k ∨ (a = k ∧ b < l) then Gp.tightAt p v more a b else Gp.at_ g a b)) (fun a _ b _ => by
                  by_cases h1 : a = k ∧ b = l
                  · obtain ⟨rfl, rfl⟩ := h1
                    rw [if_pos (by omega), if_pos ⟨rfl, rfl⟩, HTA.out, if_neg (by omega)]
                  · rw [if_neg h1]
                    by_cases h2 : a < k ∨ (a = k ∧ b < l)
                    · rw [if_pos h2, if_pos (by omega)]
                    · rw [if_neg h2, if_neg (by omega)])]
                exact HS1.out
              clear HS1 HKP
              go_wp2_with fail
              go_roundw
              case rel => exact ⟨l + 1, by rw [show q + (l + 1) = t + 1 by have := HT.out; omega]; go_num, by go_num, by omega, HS2, hB1⟩
              case measure => simp [intOf]; omega
        · obtain rfl : p = l := by omega
          have HS2' : Hid (OwnM w.heap.size wr (.slice (some ⟨gb, 0, none⟩) n cp) (Gp.tab g (fun i j => if i < k + 1 then Gp.tightAt p v more i j else Gp.at_ g i j))) := by
            show OwnM _ _ _ _
            rw [Gp.tab_congr (G' := fun i j => if i < k ∨ (i = k ∧ j < p) then Gp.tightAt p v more i j else Gp.at_ g i j) (fun a ha b hb => by
              rw [HR.out a ha] at hb
              by_cases h1 : a < k + 1
              · rw [if_pos h1, if_pos (by omega)]
              · rw [if_neg h1, if_neg (by omega)])]
            exact hown.out
          have hq3 : (k + 1) * p = q + p := by rw [Nat.succ_mul, HQ.out]
          clear hown HK0
          go_wp2_with fail
          go_roundw
          case rel => exact ⟨k + 1, by rw [hq3], by go_num, by omega, HS2', hbel⟩
          case measure => simp [intOf]; omega
    · obtain rfl : k = n := by omega
      have HS2' : Hid (OwnM w.heap.size wr (.slice (some ⟨gb, 0, none⟩) k cp) (Gp.tab g (Gp.tightAt p v more))) := by
        show OwnM _ _ _ _
        rw [Gp.tab_congr (G' := fun i j => if i < k then Gp.tightAt p v more i j else Gp.at_ g i j) (fun a ha b _ => by rw [HN.out] at ha; rw [if_pos ha])]
        exact hown.out
      clear hown HO
      go_wp2_with fail
      go_ret
      exact ⟨_, rfl, HS2'.out, hbel⟩
end Go.Proofs.Ytajlmkokfgbjdaa
