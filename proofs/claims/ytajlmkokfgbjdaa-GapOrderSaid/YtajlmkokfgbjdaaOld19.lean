/- What Widen of the reference computes. Conditions: sizes. -/
import Derived.Test.YtajlmkokfgbjdaaOld18
set_option linter.unusedVariables false
set_option linter.unusedSimpArgs false
namespace Go.Proofs.Ytajlmkokfgbjdaa
open Go.RowKit

theorem drewB (w : World) (q : Nat) : Below w.heap.size w (w.drewN q) := ⟨rfl, rfl, rfl, Nat.le_refl _, fun _ _ => rfl⟩

set_option maxRecDepth 100000 in
set_option maxHeartbeats 4000000 in
theorem rwiden_any (v1 v2 : Value) (g h : List (List Int)) (p : Nat) (w : World) (hg : Small g) (hr : Rect g p) (hc : h.length = g.length) (hr2 : Rect h p) (h1 : Mx w v1 g) (h2 : Mx w v2 h) :
    Calls Try.prog 35 #[v1, v2] w fun e w' => ∃ v', e = .returned v' ∧ OwnM w.heap.size w' v' (Gp.widen g h) ∧ Below w.heap.size w w' := by
  have cC := hid (copy_any v1 g w hg h1)
  have H1 := hid h1
  have H2 := hid h2
  have HR := hid hr
  have HR2 := hid hr2
  have HGS := hid hg
  obtain ⟨hg0, hg1, hg2⟩ := hg
  obtain ⟨a1, cap1, rfl, _⟩ := h1
  obtain ⟨a2, cap2, rfl, _⟩ := h2
  obtain ⟨n, hn⟩ : ∃ n, g.length = n := ⟨_, rfl⟩
  have HN := hid hn
  have HN2 := hid (hc.trans hn)
  have hp := HGS.out.2.2 0
  rw [hr 0 hg0] at hp
  rw [hc, hn]
  rw [hn] at hg0 hg1
  rw [hc, hn] at H2
  rw [hn] at cC H1
  clear hr hr2 hc hn hg2
  go_enter Try.func35, Try.ntmps35
  go_wp2_with fail
  refine cC.out.mono ?_
  rintro e w1 ⟨v1, rfl, ho, hb⟩
  obtain ⟨gb, cp, rfl, hgb0, hgb1, hcp0, hcp1⟩ := OwnS.form ho (by rw [HN.out]; exact hg0)
  rw [HN.out] at ho ⊢
  have HO := hid ho
  clear ho hcp1 cC
  go_wp2_with fail
  go_loopw [6] (fun kv wr => ∃ k : Nat, kv = .int .i64 k ∧ k ≤ n ∧ Hid (OwnM w.heap.size wr (.slice (some ⟨gb, 0, none⟩) n cp) (Gp.tab g (fun i j => if i < k then Gp.wid (Gp.at_ g i j) (Gp.at_ h i j) else Gp.at_ g i j))) ∧ Below w.heap.size w wr) (fun kv _ => n - (intOf kv).toNat)
  case atStart => exact ⟨0, rfl, Nat.zero_le _, by show OwnM _ _ _ _; rw [Gp.tab_congr (G' := Gp.at_ g) (fun a _ b _ => by rw [if_neg (by omega)]), Gp.tab_self]; exact HO.out, hb⟩
  case round =>
    obtain ⟨k, rfl, hk, hown, hbel⟩ := hrel
    by_cases hlt : k < n
    · have hkg : k < g.length := by rw [HN.out]; exact hlt
      have hkt : k < (Gp.tab g (fun i j => if i < k then Gp.wid (Gp.at_ g i j) (Gp.at_ h i j) else Gp.at_ g i j)).length := by rw [Gp.tab_length]; exact hkg
      obtain ⟨r, hr1, hr2, hr3, hr4⟩ := OwnS.row hown.out k hkt
      obtain ⟨ra, rc, rfl, _⟩ := hr3
      rw [Gp.tab_rowlen, HR.out k hkg] at hr1
      have i1 : (0 : Int) ≤ (k : Int) := by omega
      have i2 : (k : Int) < (n : Int) := by omega
      have HKG := hid hkg
      clear hr2 hr4 HO hkt hkg
      go_wp2_with fail
      obtain ⟨wo, hwo⟩ : ∃ wo : World, wo = wr := ⟨_, rfl⟩
      have HK0 : Hid (OwnM w.heap.size wr (.slice (some ⟨gb, 0, none⟩) n cp) (Gp.tab g (fun i j => if i < k ∨ (i = k ∧ j < 0) then Gp.wid (Gp.at_ g i j) (Gp.at_ h i j) else Gp.at_ g i j))) := by
        show OwnM _ _ _ _
        rw [Gp.tab_congr (G' := fun i j => if i < k then Gp.wid (Gp.at_ g i j) (Gp.at_ h i j) else Gp.at_ g i j) (fun a _ b _ => by
          by_cases hak : a < k
          · rw [if_pos (.inl hak), if_pos hak]
          · rw [if_neg (by omega), if_neg hak])]
        exact hown.out
      clear hown hr1
      subst hwo
      go_loopw [7] (fun lv wr => ∃ l : Nat, lv = .int .i64 l ∧ l ≤ p ∧ Hid (OwnM w.heap.size wr (.slice (some ⟨gb, 0, none⟩) n cp) (Gp.tab g (fun i j => if i < k ∨ (i = k ∧ j < l) then Gp.wid (Gp.at_ g i j) (Gp.at_ h i j) else Gp.at_ g i j))) ∧ Below w.heap.size w wr) (fun lv _ => p - (intOf lv).toNat)
      case atStart => exact ⟨0, rfl, Nat.zero_le _, HK0, hbel⟩
      case round =>
        obtain ⟨l, rfl, hl, hown, hbel⟩ := hrel
        obtain ⟨bz, oz, hz0, hz1, hz2⟩ := H1.out.row.2.2 (by rw [HN.out]; exact hg0)
        obtain ⟨rz, hz3, hz4⟩ := hz2 k HKG.out
        obtain ⟨rza, rzc, rfl, _⟩ := hz4
        rw [HR.out k HKG.out] at hz3
        have hz3 := (hbel.cell (p := ⟨bz, oz + k, none⟩) hz1).trans hz3
        clear hz2
        subst hz0
        by_cases hll : l < p
        · obtain ⟨rb, rp, p1, p2, p3, p4, _, p5⟩ := hown.out.place k l (by rw [Gp.tab_length]; exact HKG.out) (by rw [Gp.tab_rowlen, HR.out k HKG.out]; exact hll)
          rw [Gp.tab_rowlen, HR.out k HKG.out] at p1
          obtain ⟨s1, s2, s3, s4, _⟩ := p5 (Gp.wid (Gp.at_ g k l) (Gp.at_ h k l))
          rw [Gp.tab_upd _ _ _ _ _ HKG.out] at s1
          have HS1 : Hid (OwnM w.heap.size (wr.setCell ⟨rb, l, none⟩ (.int .i64 (Gp.wid (Gp.at_ g k l) (Gp.at_ h k l)))) (.slice (some ⟨gb, 0, none⟩) n cp) (Gp.tab g (fun i j => if i < k ∨ (i = k ∧ j < l + 1) then Gp.wid (Gp.at_ g i j) (Gp.at_ h i j) else Gp.at_ g i j))) := by
            show OwnM _ _ _ _
            rw [Gp.tab_congr (G' := fun a b => if a = k ∧ b = l then Gp.wid (Gp.at_ g k l) (Gp.at_ h k l) else (if a < k ∨ (a = k ∧ b < l) then Gp.wid (Gp.at_ g a b) (Gp.at_ h a b) else Gp.at_ g a b)) (fun a _ b _ => by
              by_cases h1 : a = k ∧ b = l
              · obtain ⟨rfl, rfl⟩ := h1
                rw [if_pos (by omega), if_pos ⟨rfl, rfl⟩]
              · rw [if_neg h1]
                by_cases h2 : a < k ∨ (a = k ∧ b < l)
                · rw [if_pos h2, if_pos (by omega)]
                · rw [if_neg h2, if_neg (by omega)])]
            exact s1
          obtain ⟨b1, o1, c1, d1, e1, hbz, lb1, m1, lc1, m3⟩ := H1.out.place k l HKG.out (by rw [HR.out k HKG.out]; exact hll)
          obtain ⟨b2, o2, c2, d2, e2, rfl, lb2, m4, lc2, m6⟩ := H2.out.place k l (by rw [HN2.out]; exact hlt) (by rw [HR2.out k (by rw [HN2.out]; exact hlt)]; exact hll)
          simp only [Option.some.injEq, Addr.mk.injEq, and_true] at hbz
          obtain ⟨rfl, rfl⟩ := hbz
          have m1 := (hbel.cell (p := ⟨bz, oz + k, none⟩) lb1).trans m1
          have m3 := (hbel.cell (p := ⟨c1, d1 + l, none⟩) lc1).trans m3
          have m4 := (hbel.cell (p := ⟨b2, o2 + k, none⟩) lb2).trans m4
          have m6 := (hbel.cell (p := ⟨c2, d2 + l, none⟩) lc2).trans m6
          rw [HR.out k HKG.out] at m1
          clear hz3
          rw [HR2.out k (by rw [HN2.out]; exact hlt)] at m4
          obtain ⟨x, hx⟩ : ∃ x, Gp.at_ g k l = x := ⟨_, rfl⟩
          obtain ⟨y, hy⟩ : ∃ y, Gp.at_ h k l = y := ⟨_, rfl⟩
          obtain ⟨z, hz⟩ : ∃ z, Gp.wid x y = z := ⟨_, rfl⟩
          rw [hx] at m3 HS1
          rw [hy] at m6 HS1
          rw [hz] at HS1
          have i3 : (0 : Int) ≤ (l : Int) := by omega
          have i4 : (l : Int) < (p : Int) := by omega
          by_cases hxy : x < y
          · have t1 : decide (x < y) = true := decide_eq_true hxy
            obtain rfl : z = 1099511627776 := by rw [← hz]; exact if_pos hxy
            have hB2 : Below w.heap.size w ((wr.setCell ⟨rb, l, none⟩ (.int .i64 1099511627776))) := (hbel.setCell (p := ⟨rb, l, none⟩) p4 _)
            have hx' := hx
            clear s1 s2 s3 s4 p5 hx hy hz hown HK0 hxy hx'
            go_wp2_with fail
            go_quiet (fail)
            have HS3 : Hid (OwnM w.heap.size ((wr.setCell ⟨rb, l, none⟩ (.int .i64 1099511627776)).drewN nq) (.slice (some ⟨gb, 0, none⟩) n cp) (Gp.tab g (fun i j => if i < k ∨ (i = k ∧ j < l + 1) then Gp.wid (Gp.at_ g i j) (Gp.at_ h i j) else Gp.at_ g i j))) := OwnS.kept HS1.out (drewB _ _)
            have hB3 : Below w.heap.size w ((wr.setCell ⟨rb, l, none⟩ (.int .i64 1099511627776)).drewN nq) := hB2.trans ((drewB _ nq).mono hB2.size)
            clear HS1 hB2
            go_wp2_with fail
            go_roundw
            case rel => exact ⟨l + 1, by go_num, by omega, HS3, hB3⟩
            case measure => simp [intOf]; omega
          · have t1 : decide (x < y) = false := decide_eq_false hxy
            have hzx : z = x := by rw [← hz]; exact if_neg hxy
            have HS3 : Hid (OwnM w.heap.size wr (.slice (some ⟨gb, 0, none⟩) n cp) (Gp.tab g (fun i j => if i < k ∨ (i = k ∧ j < l + 1) then Gp.wid (Gp.at_ g i j) (Gp.at_ h i j) else Gp.at_ g i j))) := by
              show OwnM _ _ _ _
              rw [Gp.tab_congr (G' := fun i j => if i < k ∨ (i = k ∧ j < l) then Gp.wid (Gp.at_ g i j) (Gp.at_ h i j) else Gp.at_ g i j) (fun a _ b _ => by
                by_cases h1 : a = k ∧ b = l
                · obtain ⟨rfl, rfl⟩ := h1
                  rw [if_pos (by omega), if_neg (by omega), hx, hy, hz, hzx]
                · by_cases h2 : a < k ∨ (a = k ∧ b < l)
                  · rw [if_pos h2, if_pos (by omega)]
                  · rw [if_neg h2, if_neg (by omega)])]
              exact hown.out
            clear s1 s2 s3 s4 p5 hx hy hz hown HK0 HS1 hxy hzx
            go_wp2_with fail
            go_quiet (fail)
            have HS4 := hid (OwnS.kept HS3.out (drewB wr nq))
            have hB3 : Below w.heap.size w (wr.drewN nq) := hbel.trans ((drewB _ nq).mono hbel.size)
            clear HS3
            go_wp2_with fail
            go_roundw
            case rel => exact ⟨l + 1, by go_num, by omega, HS4, hB3⟩
            case measure => simp [intOf]; omega
        · obtain rfl : l = p := by omega
          have HS2 : Hid (OwnM w.heap.size wr (.slice (some ⟨gb, 0, none⟩) n cp) (Gp.tab g (fun i j => if i < k + 1 then Gp.wid (Gp.at_ g i j) (Gp.at_ h i j) else Gp.at_ g i j))) := by
            show OwnM _ _ _ _
            rw [Gp.tab_congr (G' := fun i j => if i < k ∨ (i = k ∧ j < l) then Gp.wid (Gp.at_ g i j) (Gp.at_ h i j) else Gp.at_ g i j) (fun a ha b hb => by
              rw [HR.out a ha] at hb
              by_cases h1 : a < k + 1
              · rw [if_pos h1, if_pos (by omega)]
              · rw [if_neg h1, if_neg (by omega)])]
            exact hown.out
          clear hown HK0
          go_wp2_with fail
          go_roundw
          case rel => exact ⟨k + 1, by go_num, by omega, HS2, hbel⟩
          case measure => simp [intOf]; omega
    · obtain rfl : k = n := by omega
      have HS2 : Hid (OwnM w.heap.size wr (.slice (some ⟨gb, 0, none⟩) k cp) (Gp.tab g (fun i j => Gp.wid (Gp.at_ g i j) (Gp.at_ h i j)))) := by
        show OwnM _ _ _ _
        rw [Gp.tab_congr (G' := fun i j => if i < k then Gp.wid (Gp.at_ g i j) (Gp.at_ h i j) else Gp.at_ g i j) (fun a ha b _ => by rw [HN.out] at ha; rw [if_pos ha])]
        exact hown.out
      clear hown HO
      go_wp2_with fail
      go_ret
      exact ⟨_, rfl, HS2.out, hbel⟩
end Go.Proofs.Ytajlmkokfgbjdaa
