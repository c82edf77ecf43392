/- What Set of the reference computes. Conditions: sizes, bounds. -/
import Derived.Test.YtajlmkokfgbjdaaOld19
import Derived.Test.YtajlmkokfgbjdaaFb1
import Derived.Test.YtajlmkokfgbjdaaOld20
import Derived.Test.YtajlmkokfgbjdaaGapPure2
import Derived.Deep.Cut
import Derived.Deep.RegionHeld3
set_option linter.unusedVariables false
set_option linter.unusedSimpArgs false
namespace Go.Proofs.Ytajlmkokfgbjdaa
open Go.RowKit

set_option maxRecDepth 100000 in
set_option maxHeartbeats 4000000 in
theorem rset_any (v xv : Value) (g : List (List Int)) (x : Gp.X) (i : Int) (whole : Bool) (p : Nat) (w : World) (hg : Small g) (hr : Rect g p) (hfine : Gp.Fine g) (hs : Mx w v g) (hx : IsX w xv x) :
    Calls Try.prog 32 #[v, .int .i64 i, xv, .bool whole] w fun e w' => ∃ v', e = .returned v' ∧ OwnM w.heap.size w' v' (Gp.set_ g i x whole) ∧ Below w.heap.size w w' := by
  obtain ⟨q0, q1, q2, q3, hxv⟩ : ∃ q0 q1 q2 q3, xv = .agg #[.int .i64 q0, .int .i64 q1, .int .i64 q2, q3] ∧ ∃ a l c, q3 = .slice a l c := by
    obtain ⟨q0, q1, q2, a, l, c, h1⟩ := hx.form
    exact ⟨_, _, _, _, h1, _, _, _, rfl⟩
  obtain ⟨rfl, sa, sl, sc, rfl⟩ := hxv
  have HS := hid hs
  have HX := hid hx
  have HGS := hid hg
  have HF := hid hfine
  have HRE := hid hr
  obtain ⟨a, cap, rfl, _⟩ := hs
  clear hx hfine hr
  obtain ⟨n, hn⟩ : ∃ n, g.length = n := ⟨_, rfl⟩
  have hbox : Below w.heap.size w (w.alloc (.cells #[.int .i64 q0, .int .i64 q1, .int .i64 q2, .slice sa sl sc] 42)) := aB w _
  have x0 : (w.alloc (.cells #[.int .i64 q0, .int .i64 q1, .int .i64 q2, .slice sa sl sc] 42)).cell? ⟨w.heap.size, 0, none⟩ = some (.int .i64 q0) := by go_simp
  have x1 : (w.alloc (.cells #[.int .i64 q0, .int .i64 q1, .int .i64 q2, .slice sa sl sc] 42)).cell? ⟨w.heap.size, 1, none⟩ = some (.int .i64 q1) := by go_simp
  have x2 : (w.alloc (.cells #[.int .i64 q0, .int .i64 q1, .int .i64 q2, .slice sa sl sc] 42)).cell? ⟨w.heap.size, 2, none⟩ = some (.int .i64 q2) := by go_simp
  have x3 : (w.alloc (.cells #[.int .i64 q0, .int .i64 q1, .int .i64 q2, .slice sa sl sc] 42)).cell? ⟨w.heap.size, 3, none⟩ = some (.slice sa sl sc) := by go_simp
  have cC := hid (copy_any (.slice a g.length cap) g (w.alloc (.cells #[.int .i64 q0, .int .i64 q1, .int .i64 q2, .slice sa sl sc] 42)) hg (HS.out.stays hbox))
  obtain ⟨hg0, hg1, hg2⟩ := hg
  rw [hn] at cC hg0 hg1 ⊢
  have HN := hid hn
  clear hn hg2
  go_enter Try.func32, Try.ntmps32
  go_wp2_with fail
  generalize w.alloc (.cells #[.int .i64 q0, .int .i64 q1, .int .i64 q2, .slice sa sl sc] 42) = W0 at cC x0 x1 x2 x3 hbox ⊢
  have hwW : w.heap.size ≤ W0.heap.size := hbox.size
  generalize hXB : w.heap.size = XB at x0 x1 x2 x3 ⊢
  have HXB := hid hXB
  clear hXB
  refine cC.out.mono ?_
  rintro e w1 ⟨v1, rfl, ho, hb⟩
  have ho' := ho.mono hwW
  obtain ⟨gb, cp, rfl, hgb0, hgb1, hcp0, hcp1⟩ := OwnS.form ho' (by rw [HN.out]; exact hg0)
  rw [HN.out] at ho' ⊢
  have HO := hid ho'
  have bw1 := seqB hbox hb
  have y0 := (hb.cell (p := ⟨XB, 0, none⟩) (World.lt_of_cell x0)).trans x0
  have y1 := (hb.cell (p := ⟨XB, 1, none⟩) (World.lt_of_cell x1)).trans x1
  have y2 := (hb.cell (p := ⟨XB, 2, none⟩) (World.lt_of_cell x2)).trans x2
  have y3 := (hb.cell (p := ⟨XB, 3, none⟩) (World.lt_of_cell x3)).trans x3
  clear ho ho' hcp1 x0 x1 x2 x3 cC
  by_cases hi0 : i < 0
  · have t1 : decide (i < 0) = true := decide_eq_true hi0
    have hres : Gp.set_ g i x whole = g := by
      unfold Gp.set_
      rw [Gp.tab_congr (G' := Gp.at_ g) (fun a _ b _ => by rw [if_neg (by omega)]), Gp.tab_self]
    have HRES := hid hres
    clear hres hi0
    go_wp2_with fail
    go_ret
    exact ⟨_, rfl, by rw [HRES.out]; exact HO.out, bw1⟩
  · have t1 : decide (i < 0) = false := decide_eq_false hi0
    obtain ⟨i', rfl⟩ : ∃ i' : Nat, i = i' := ⟨i.toNat, by omega⟩
    by_cases hi1 : n ≤ i'
    · have t2 : decide ((n : Int) ≤ (i' : Int)) = true := decide_eq_true (by omega)
      have t3 : decide (n ≤ i') = true := decide_eq_true hi1
      have hres : Gp.set_ g i' x whole = g := by
        unfold Gp.set_
        rw [Gp.tab_congr (G' := Gp.at_ g) (fun a ha b _ => by rw [HN.out] at ha; rw [if_neg (by omega)]), Gp.tab_self]
      have HRES := hid hres
      clear hres hi1 hi0
      go_wp2_with fail
      go_ret
      exact ⟨_, rfl, by rw [HRES.out]; exact HO.out, bw1⟩
    · have t2 : decide ((n : Int) ≤ (i' : Int)) = false := decide_eq_false (by omega)
      have t3 : decide (n ≤ i') = false := decide_eq_false hi1
      have cS := hid (rshift_any (.agg #[.int .i64 q0, .int .i64 q1, .int .i64 q2, .slice sa sl sc]) x n w1 ((HX.out.stays hbox).stays hb))
      have j1 : (0 : Int) ≤ (i' : Int) := by omega
      have j2 : (i' : Int) < (n : Int) := by omega
      have hin : i' < g.length := by rw [HN.out]; omega
      have HIN := hid hin
      clear hi0 hi1 hin
      go_wp2_with fail
      refine cS.out.mono ?_
      rintro e w2 ⟨rfl, hb2⟩
      have bw2 := seqB bw1 hb2
      have HO2 := hid (OwnS.kept HO.out hb2)
      obtain ⟨r, hr1, hr2, hr3, hr4⟩ := OwnS.row HO2.out i' HIN.out
      obtain ⟨ra, rc, rfl, _⟩ := hr3
      have hrl := HRE.out i' HIN.out
      have hp1000 : p ≤ 1000 := by have := HGS.out.2.2 i'; omega
      rw [hrl] at hr1
      obtain ⟨s, hsh⟩ : ∃ s, Gp.shift n x = s := ⟨_, rfl⟩
      rw [hsh]
      have HSH := hid hsh
      have HRL := hid hrl
      clear hsh hrl hr4 hr2 y0 y1 y2 y3 cS HO
      cases s with
      | none =>
        dsimp only [shift3, Option.getD, Option.isSome]
        cases whole
        · obtain ⟨G, hG⟩ : ∃ G, Gp.shiftTo g none false = G := ⟨_, rfl⟩
          have HRES : Hid (Gp.set_ g i' x false = Gp.tab g (fun a b => if a = i' then G b else Gp.at_ g a b)) := by
            show _ = _
            unfold Gp.set_
            rw [HN.out, HSH.out, hG]
            exact Gp.tab_congr fun a _ b _ => by
              by_cases h : a = i'
              · rw [if_pos (by omega), if_pos h]
              · rw [if_neg (by omega), if_neg h]
          have HG := hid hG
          clear hG
          have HO3 := HO2
          have bw3 := bw2
          clear hr1
          go_wp2_with fail
          go_loopw [13] (fun kv wr => ∃ k : Nat, kv = .int .i64 k ∧ k ≤ p ∧ Hid (OwnM w.heap.size wr (.slice (some ⟨gb, 0, none⟩) n cp) (Gp.tab g (fun a b => if a = i' ∧ b < k then G b else Gp.at_ g a b))) ∧ Below w.heap.size w wr) (fun kv _ => p - (intOf kv).toNat)
          case atStart => exact ⟨0, rfl, Nat.zero_le _, by show OwnM _ _ _ _; rw [Gp.tab_congr (G' := Gp.at_ g) (fun a _ b _ => by rw [if_neg (by omega)]), Gp.tab_self]; exact HO3.out, bw3⟩
          case round =>
            obtain ⟨k, rfl, hk, hown, hbel⟩ := hrel
            obtain ⟨bz, oz, hz0, hz1, hz2⟩ := HS.out.row.2.2 (by rw [HN.out]; exact hg0)
            obtain ⟨rz, hz3, hz4⟩ := hz2 i' HIN.out
            obtain ⟨rza, rzc, rfl, _⟩ := hz4
            rw [HRL.out] at hz3
            have hz3 := (hbel.cell (p := ⟨bz, oz + i', none⟩) hz1).trans hz3
            clear hz2
            subst hz0
            by_cases hll : k < p
            · obtain ⟨rb, rp, p1, p2, p3, p4, ⟨cur, pcur⟩, p5⟩ := hown.out.place i' k (by rw [Gp.tab_length]; exact HIN.out) (by rw [Gp.tab_rowlen, HRL.out]; exact hll)
              rw [Gp.tab_rowlen, HRL.out] at p1
              obtain ⟨s1, s2, s3, s4, ⟨cur2, s5⟩⟩ := p5 1099511627776
              rw [Gp.tab_rowlen, HRL.out] at s2
              rw [Gp.tab_upd _ _ _ _ _ HIN.out] at s1
              have i3 : (0 : Int) ≤ (k : Int) := by omega
              have i4 : (k : Int) < (p : Int) := by omega
              have HS2 : Hid (OwnM w.heap.size (wr.setCell ⟨rb, k, none⟩ (.int .i64 1099511627776)) (.slice (some ⟨gb, 0, none⟩) n cp) (Gp.tab g (fun a b => if a = i' ∧ b < k + 1 then G b else Gp.at_ g a b))) := by
                show OwnM _ _ _ _
                rw [Gp.tab_congr (G' := fun a b => if a = i' ∧ b = k then 1099511627776 else (if a = i' ∧ b < k then G b else Gp.at_ g a b)) (fun a _ b _ => by
                  by_cases h1 : a = i' ∧ b = k
                  · rw [if_pos h1, if_pos (by omega), ← HG.out]; rfl
                  · rw [if_neg h1]
                    by_cases h2 : a = i' ∧ b < k
                    · rw [if_pos h2, if_pos (by omega)]
                    · rw [if_neg h2, if_neg (by omega)])]
                exact s1
              have hB2 : Below w.heap.size w (wr.setCell ⟨rb, k, none⟩ (.int .i64 1099511627776)) := hbel.setCell (p := ⟨rb, k, none⟩) p4 _
              clear s1 s2 s3 s4 s5 p5 hown pcur HO3
              go_wp2_with fail
              go_roundw
              case rel => exact ⟨k + 1, by go_num, by omega, HS2, hB2⟩
              case measure => simp [intOf]; omega
            · obtain rfl : k = p := by omega
              have HS2 : Hid (OwnM w.heap.size wr (.slice (some ⟨gb, 0, none⟩) n cp) (Gp.tab g (fun a b => if a = i' then G b else Gp.at_ g a b))) := by
                show OwnM _ _ _ _
                rw [Gp.tab_congr (G' := fun a b => if a = i' ∧ b < k then G b else Gp.at_ g a b) (fun a ha b hb => by
                  by_cases h1 : a = i'
                  · subst h1
                    rw [HRL.out] at hb
                    rw [if_pos rfl, if_pos ⟨rfl, hb⟩]
                  · rw [if_neg h1, if_neg (fun h => h1 h.1)])]
                exact hown.out
              clear hown HO3
              go_wp2_with fail
              go_ret
              exact ⟨_, rfl, by rw [HRES.out]; exact HS2.out, hbel⟩
        · obtain ⟨G, hG⟩ : ∃ G, Gp.shiftTo g none true = G := ⟨_, rfl⟩
          have HRES : Hid (Gp.set_ g i' x true = Gp.tab g (fun a b => if a = i' then G b else Gp.at_ g a b)) := by
            show _ = _
            unfold Gp.set_
            rw [HN.out, HSH.out, hG]
            exact Gp.tab_congr fun a _ b _ => by
              by_cases h : a = i'
              · rw [if_pos (by omega), if_pos h]
              · rw [if_neg (by omega), if_neg h]
          have HG := hid hG
          clear hG
          have HO3 := HO2
          have bw3 := bw2
          clear hr1
          go_wp2_with fail
          go_loopw [13] (fun kv wr => ∃ k : Nat, kv = .int .i64 k ∧ k ≤ p ∧ Hid (OwnM w.heap.size wr (.slice (some ⟨gb, 0, none⟩) n cp) (Gp.tab g (fun a b => if a = i' ∧ b < k then G b else Gp.at_ g a b))) ∧ Below w.heap.size w wr) (fun kv _ => p - (intOf kv).toNat)
          case atStart => exact ⟨0, rfl, Nat.zero_le _, by show OwnM _ _ _ _; rw [Gp.tab_congr (G' := Gp.at_ g) (fun a _ b _ => by rw [if_neg (by omega)]), Gp.tab_self]; exact HO3.out, bw3⟩
          case round =>
            obtain ⟨k, rfl, hk, hown, hbel⟩ := hrel
            obtain ⟨bz, oz, hz0, hz1, hz2⟩ := HS.out.row.2.2 (by rw [HN.out]; exact hg0)
            obtain ⟨rz, hz3, hz4⟩ := hz2 i' HIN.out
            obtain ⟨rza, rzc, rfl, _⟩ := hz4
            rw [HRL.out] at hz3
            have hz3 := (hbel.cell (p := ⟨bz, oz + i', none⟩) hz1).trans hz3
            clear hz2
            subst hz0
            by_cases hll : k < p
            · obtain ⟨rb, rp, p1, p2, p3, p4, ⟨cur, pcur⟩, p5⟩ := hown.out.place i' k (by rw [Gp.tab_length]; exact HIN.out) (by rw [Gp.tab_rowlen, HRL.out]; exact hll)
              rw [Gp.tab_rowlen, HRL.out] at p1
              obtain ⟨s1, s2, s3, s4, ⟨cur2, s5⟩⟩ := p5 1099511627776
              rw [Gp.tab_rowlen, HRL.out] at s2
              rw [Gp.tab_upd _ _ _ _ _ HIN.out] at s1
              have i3 : (0 : Int) ≤ (k : Int) := by omega
              have i4 : (k : Int) < (p : Int) := by omega
              have HS2 : Hid (OwnM w.heap.size (wr.setCell ⟨rb, k, none⟩ (.int .i64 1099511627776)) (.slice (some ⟨gb, 0, none⟩) n cp) (Gp.tab g (fun a b => if a = i' ∧ b < k + 1 then G b else Gp.at_ g a b))) := by
                show OwnM _ _ _ _
                rw [Gp.tab_congr (G' := fun a b => if a = i' ∧ b = k then 1099511627776 else (if a = i' ∧ b < k then G b else Gp.at_ g a b)) (fun a _ b _ => by
                  by_cases h1 : a = i' ∧ b = k
                  · rw [if_pos h1, if_pos (by omega), ← HG.out]; rfl
                  · rw [if_neg h1]
                    by_cases h2 : a = i' ∧ b < k
                    · rw [if_pos h2, if_pos (by omega)]
                    · rw [if_neg h2, if_neg (by omega)])]
                exact s1
              have hB2 : Below w.heap.size w (wr.setCell ⟨rb, k, none⟩ (.int .i64 1099511627776)) := hbel.setCell (p := ⟨rb, k, none⟩) p4 _
              clear s1 s2 s3 s4 s5 p5 hown pcur HO3
              go_wp2_with fail
              go_roundw
              case rel => exact ⟨k + 1, by go_num, by omega, HS2, hB2⟩
              case measure => simp [intOf]; omega
            · obtain rfl : k = p := by omega
              have HS2 : Hid (OwnM w.heap.size wr (.slice (some ⟨gb, 0, none⟩) n cp) (Gp.tab g (fun a b => if a = i' then G b else Gp.at_ g a b))) := by
                show OwnM _ _ _ _
                rw [Gp.tab_congr (G' := fun a b => if a = i' ∧ b < k then G b else Gp.at_ g a b) (fun a ha b hb => by
                  by_cases h1 : a = i'
                  · subst h1
                    rw [HRL.out] at hb
                    rw [if_pos rfl, if_pos ⟨rfl, hb⟩]
                  · rw [if_neg h1, if_neg (fun h => h1 h.1)])]
                exact hown.out
              clear hown HO3
              go_wp2_with fail
              go_ret
              exact ⟨_, rfl, by rw [HRES.out]; exact HS2.out, hbel⟩
      | some wc =>
        obtain ⟨wv, cv⟩ := wc
        obtain ⟨h0, h1, h2, h3⟩ := Gp.shift_bounds HSH.out
        obtain ⟨wn, rfl⟩ : ∃ wn : Nat, wv = wn := ⟨wv.toNat, by omega⟩
        dsimp only [shift3, Option.getD, Option.isSome]
        cases whole
        · obtain ⟨G, hG⟩ : ∃ G, Gp.shiftTo g (some ((wn : Int), cv)) false = G := ⟨_, rfl⟩
          have HRES : Hid (Gp.set_ g i' x false = Gp.tab g (fun a b => if a = i' then G b else Gp.at_ g a b)) := by
            show _ = _
            unfold Gp.set_
            rw [HN.out, HSH.out, hG]
            exact Gp.tab_congr fun a _ b _ => by
              by_cases h : a = i'
              · rw [if_pos (by omega), if_pos h]
              · rw [if_neg (by omega), if_neg h]
          have HG := hid hG
          clear hG
          have HO3 := HO2
          have bw3 := bw2
          clear hr1
          go_wp2_with fail
          go_loopw [13] (fun kv wr => ∃ k : Nat, kv = .int .i64 k ∧ k ≤ p ∧ Hid (OwnM w.heap.size wr (.slice (some ⟨gb, 0, none⟩) n cp) (Gp.tab g (fun a b => if a = i' ∧ b < k then G b else Gp.at_ g a b))) ∧ Below w.heap.size w wr) (fun kv _ => p - (intOf kv).toNat)
          case atStart => exact ⟨0, rfl, Nat.zero_le _, by show OwnM _ _ _ _; rw [Gp.tab_congr (G' := Gp.at_ g) (fun a _ b _ => by rw [if_neg (by omega)]), Gp.tab_self]; exact HO3.out, bw3⟩
          case round =>
            obtain ⟨k, rfl, hk, hown, hbel⟩ := hrel
            obtain ⟨bz, oz, hz0, hz1, hz2⟩ := HS.out.row.2.2 (by rw [HN.out]; exact hg0)
            obtain ⟨rz, hz3, hz4⟩ := hz2 i' HIN.out
            obtain ⟨rza, rzc, rfl, _⟩ := hz4
            rw [HRL.out] at hz3
            have hz3 := (hbel.cell (p := ⟨bz, oz + i', none⟩) hz1).trans hz3
            clear hz2
            subst hz0
            by_cases hll : k < p
            · obtain ⟨rb, rp, p1, p2, p3, p4, ⟨cur, pcur⟩, p5⟩ := hown.out.place i' k (by rw [Gp.tab_length]; exact HIN.out) (by rw [Gp.tab_rowlen, HRL.out]; exact hll)
              rw [Gp.tab_rowlen, HRL.out] at p1
              obtain ⟨s1, s2, s3, s4, ⟨cur2, s5⟩⟩ := p5 1099511627776
              rw [Gp.tab_rowlen, HRL.out] at s2
              rw [Gp.tab_upd _ _ _ _ _ HIN.out] at s1
              have i3 : (0 : Int) ≤ (k : Int) := by omega
              have i4 : (k : Int) < (p : Int) := by omega
              have HS2 : Hid (OwnM w.heap.size (wr.setCell ⟨rb, k, none⟩ (.int .i64 1099511627776)) (.slice (some ⟨gb, 0, none⟩) n cp) (Gp.tab g (fun a b => if a = i' ∧ b < k + 1 then G b else Gp.at_ g a b))) := by
                show OwnM _ _ _ _
                rw [Gp.tab_congr (G' := fun a b => if a = i' ∧ b = k then 1099511627776 else (if a = i' ∧ b < k then G b else Gp.at_ g a b)) (fun a _ b _ => by
                  by_cases h1 : a = i' ∧ b = k
                  · rw [if_pos h1, if_pos (by omega), ← HG.out]; rfl
                  · rw [if_neg h1]
                    by_cases h2 : a = i' ∧ b < k
                    · rw [if_pos h2, if_pos (by omega)]
                    · rw [if_neg h2, if_neg (by omega)])]
                exact s1
              have hB2 : Below w.heap.size w (wr.setCell ⟨rb, k, none⟩ (.int .i64 1099511627776)) := hbel.setCell (p := ⟨rb, k, none⟩) p4 _
              clear s1 s2 s3 s4 s5 p5 hown pcur HO3
              go_wp2_with fail
              go_roundw
              case rel => exact ⟨k + 1, by go_num, by omega, HS2, hB2⟩
              case measure => simp [intOf]; omega
            · obtain rfl : k = p := by omega
              have HS2 : Hid (OwnM w.heap.size wr (.slice (some ⟨gb, 0, none⟩) n cp) (Gp.tab g (fun a b => if a = i' then G b else Gp.at_ g a b))) := by
                show OwnM _ _ _ _
                rw [Gp.tab_congr (G' := fun a b => if a = i' ∧ b < k then G b else Gp.at_ g a b) (fun a ha b hb => by
                  by_cases h1 : a = i'
                  · subst h1
                    rw [HRL.out] at hb
                    rw [if_pos rfl, if_pos ⟨rfl, hb⟩]
                  · rw [if_neg h1, if_neg (fun h => h1 h.1)])]
                exact hown.out
              clear hown HO3
              go_wp2_with fail
              go_ret
              exact ⟨_, rfl, by rw [HRES.out]; exact HS2.out, hbel⟩
        · obtain ⟨G, hG⟩ : ∃ G, Gp.shiftTo g (some ((wn : Int), cv)) true = G := ⟨_, rfl⟩
          have HRES : Hid (Gp.set_ g i' x true = Gp.tab g (fun a b => if a = i' then G b else Gp.at_ g a b)) := by
            show _ = _
            unfold Gp.set_
            rw [HN.out, HSH.out, hG]
            exact Gp.tab_congr fun a _ b _ => by
              by_cases h : a = i'
              · rw [if_pos (by omega), if_pos h]
              · rw [if_neg (by omega), if_neg h]
          have HG := hid hG
          clear hG
          have HO3 := HO2
          have bw3 := bw2
          clear hr1
          go_wp2_with fail
          go_loopw [13] (fun kv wr => ∃ k : Nat, kv = .int .i64 k ∧ k ≤ p ∧ Hid (OwnM w.heap.size wr (.slice (some ⟨gb, 0, none⟩) n cp) (Gp.tab g (fun a b => if a = i' ∧ b < k then G b else Gp.at_ g a b))) ∧ Below w.heap.size w wr) (fun kv _ => p - (intOf kv).toNat)
          case atStart => exact ⟨0, rfl, Nat.zero_le _, by show OwnM _ _ _ _; rw [Gp.tab_congr (G' := Gp.at_ g) (fun a _ b _ => by rw [if_neg (by omega)]), Gp.tab_self]; exact HO3.out, bw3⟩
          case round =>
            obtain ⟨k, rfl, hk, hown, hbel⟩ := hrel
            obtain ⟨bz, oz, hz0, hz1, hz2⟩ := HS.out.row.2.2 (by rw [HN.out]; exact hg0)
            obtain ⟨rz, hz3, hz4⟩ := hz2 i' HIN.out
            obtain ⟨rza, rzc, rfl, _⟩ := hz4
            rw [HRL.out] at hz3
            have hz3 := (hbel.cell (p := ⟨bz, oz + i', none⟩) hz1).trans hz3
            clear hz2
            subst hz0
            by_cases hll : k < p
            · obtain ⟨rb, rp, p1, p2, p3, p4, ⟨cur, pcur⟩, p5⟩ := hown.out.place i' k (by rw [Gp.tab_length]; exact HIN.out) (by rw [Gp.tab_rowlen, HRL.out]; exact hll)
              rw [Gp.tab_rowlen, HRL.out] at p1
              obtain ⟨s1, s2, s3, s4, ⟨cur2, s5⟩⟩ := p5 1099511627776
              rw [Gp.tab_rowlen, HRL.out] at s2
              rw [Gp.tab_upd _ _ _ _ _ HIN.out] at s1
              have i3 : (0 : Int) ≤ (k : Int) := by omega
              have i4 : (k : Int) < (p : Int) := by omega
              obtain ⟨b1, o1, c1, d1, e1, hbz, lb1, m1, lc1, m3⟩ := HS.out.place wn k (by rw [HN.out]; omega) (by rw [HRE.out wn (by rw [HN.out]; omega)]; exact hll)
              rw [HRE.out wn (by rw [HN.out]; omega)] at m1
              simp only [Option.some.injEq, Addr.mk.injEq, and_true] at hbz
              obtain ⟨rfl, rfl⟩ := hbz
              obtain ⟨y, hy⟩ : ∃ y, Gp.at_ g wn k = y := ⟨_, rfl⟩
              have hyb := Gp.inR_bounds (HF.out wn k)
              rw [hy] at m3 hyb
              have cS := hid (fun u => rsum_any y cv u (by omega) (by omega))
              obtain ⟨z, hz⟩ : ∃ z, Gp.sum y cv = z := ⟨_, rfl⟩
              have hGk : G k = z := by rw [← HG.out, ← hz, ← hy]; rfl
              have HGK := hid hGk
              rw [hz] at cS
              have far0 : ∀ q j, q < w.heap.size → (wr.setCell ⟨rb, k, none⟩ (.int .i64 1099511627776)).cell? ⟨q, j, none⟩ = wr.cell? ⟨q, j, none⟩ := fun q j hq => World.cell?_setCell_far wr ⟨rb, k, none⟩ ⟨q, j, none⟩ _ (by show rb ≠ q; omega)
              have m1 := (far0 _ _ lb1).trans ((hbel.cell (p := ⟨bz, oz + wn, none⟩) lb1).trans m1)
              have m3 := (far0 _ _ lc1).trans ((hbel.cell (p := ⟨c1, d1 + k, none⟩) lc1).trans m3)
              have hB1 : Below w.heap.size w (wr.setCell ⟨rb, k, none⟩ (.int .i64 1099511627776)) := hbel.setCell (p := ⟨rb, k, none⟩) p4 _
              have HW1 := hid s1
              have HS1c := hid s3
              clear s1 p5 hown far0 HO3 hy hz hGk
              go_wp2_with fail
              generalize wr.setCell ⟨rb, k, none⟩ (.int .i64 1099511627776) = W at m1 m3 hB1 HW1 HS1c s2 s3 s4 s5 ⊢
              obtain ⟨rb', rp', t1', t2', t3', t4', _, t5'⟩ := HW1.out.place i' k (by rw [Gp.tab_length]; exact HIN.out) (by rw [Gp.tab_rowlen, HRL.out]; exact hll)
              rw [Gp.tab_rowlen, HRL.out, s2] at t1'
              simp only [Option.some.injEq, Value.slice.injEq, Addr.mk.injEq] at t1'
              obtain ⟨⟨rfl, _⟩, _, rfl⟩ := t1'
              obtain ⟨u1, u2, _, _, _⟩ := t5' z
              rw [Gp.tab_rowlen, HRL.out] at u2
              rw [Gp.tab_upd _ _ _ _ _ HIN.out] at u1
              have far : ∀ q j, q < w.heap.size → (W.setCell ⟨rb, k, none⟩ (.int .i64 z)).drew.cell? ⟨q, j, none⟩ = W.cell? ⟨q, j, none⟩ := fun q j hq => World.cell?_setCell_far W ⟨rb, k, none⟩ ⟨q, j, none⟩ _ (by show rb ≠ q; omega)
              have hkeep : (W.setCell ⟨rb, k, none⟩ (.int .i64 z)).drew.cell? ⟨gb, i', none⟩ = some (.slice (some ⟨rb, 0, none⟩) p rp) ∧ (W.setCell ⟨rb, k, none⟩ (.int .i64 z)).drew.cell? ⟨bz, oz + wn, none⟩ = some (.slice (some ⟨c1, d1, none⟩) p e1) ∧ (W.setCell ⟨rb, k, none⟩ (.int .i64 z)).drew.cell? ⟨c1, d1 + k, none⟩ = some (.int .i64 y) :=
                ⟨u2, (far _ _ lb1).trans m1, (far _ _ lc1).trans m3⟩
              have HKP := hid hkeep
              have HS2 : Hid (OwnM w.heap.size (W.setCell ⟨rb, k, none⟩ (.int .i64 z)).drew (.slice (some ⟨gb, 0, none⟩) n cp) (Gp.tab g (fun a b => if a = i' ∧ b < k + 1 then G b else Gp.at_ g a b))) := by
                show OwnM _ _ _ _
                rw [Gp.tab_congr (G' := fun a b => if a = i' ∧ b = k then z else (if a = i' ∧ b = k then 1099511627776 else (if a = i' ∧ b < k then G b else Gp.at_ g a b))) (fun a _ b _ => by
                  by_cases h1 : a = i' ∧ b = k
                  · rw [if_pos h1, if_pos (by omega), h1.2, HGK.out]
                  · rw [if_neg h1, if_neg h1]
                    by_cases h2 : a = i' ∧ b < k
                    · rw [if_pos h2, if_pos (by omega)]
                    · rw [if_neg h2, if_neg (by omega)])]
                exact OwnS.kept u1 (dB _)
              have hB2 : Below w.heap.size w (W.setCell ⟨rb, k, none⟩ (.int .i64 z)).drew := (hB1.setCell (p := ⟨rb, k, none⟩) p4 _).drew
              have n1 : (0 : Int) ≤ (wn : Int) := by omega
              have n2 : (wn : Int) < (n : Int) := by omega
              clear u1 u2 far hkeep HW1 t5' s5 HS1c t2' t3' t4' hyb
              go_region_held3 (fun u => u.cell? ⟨gb, i', none⟩ = some (.slice (some ⟨rb, 0, none⟩) p rp) ∧ u.cell? ⟨bz, oz + wn, none⟩ = some (.slice (some ⟨c1, d1, none⟩) p e1) ∧ u.cell? ⟨c1, d1 + k, none⟩ = some (.int .i64 y)) (first | exact HKP.out | go_keep)
                (first
                  | (go_at_call 65; (with_reducible refine (cS.out _).mono ?_); rintro e w' ⟨rfl, rfl⟩)
                  | fail)
              go_wp2_with fail
              go_roundw
              case rel => exact ⟨k + 1, by go_num, by omega, HS2, hB2⟩
              case measure => simp [intOf]; omega
            · obtain rfl : k = p := by omega
              have HS2 : Hid (OwnM w.heap.size wr (.slice (some ⟨gb, 0, none⟩) n cp) (Gp.tab g (fun a b => if a = i' then G b else Gp.at_ g a b))) := by
                show OwnM _ _ _ _
                rw [Gp.tab_congr (G' := fun a b => if a = i' ∧ b < k then G b else Gp.at_ g a b) (fun a ha b hb => by
                  by_cases h1 : a = i'
                  · subst h1
                    rw [HRL.out] at hb
                    rw [if_pos rfl, if_pos ⟨rfl, hb⟩]
                  · rw [if_neg h1, if_neg (fun h => h1 h.1)])]
                exact hown.out
              clear hown HO3
              go_wp2_with fail
              go_ret
              exact ⟨_, rfl, by rw [HRES.out]; exact HS2.out, hbel⟩
end Go.Proofs.Ytajlmkokfgbjdaa
