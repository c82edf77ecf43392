/- What Made computes. -/
import Derived.Test.YtajlmkokfgbjdaaOld20
import Derived.Test.YtajlmkokfgbjdaaOld18
set_option linter.unusedVariables false
set_option linter.unusedSimpArgs false
namespace Go.Proofs.Ytajlmkokfgbjdaa
open Go.RowKit

def Gp.pick (N : List Int) (i : Nat) (z : Int) : Int := if i < N.length ∧ Gp.inR (N.getD i 0) = true then N.getD i 0 else z
def Gp.madeOf (n p : Nat) (N : List Int) : List (List Int) := Gp.tab (Gp.new n p) fun a b => Gp.pick N (a * p + b) (Gp.at_ (Gp.new n p) a b)
def Gp.made (V P : Nat) (N : List Int) : List (List Int) := Gp.madeOf (1 + V % 5) (min (P % 4) (1 + V % 5)) N

set_option maxRecDepth 100000 in
set_option maxHeartbeats 4000000 in
theorem made_any (V P : Nat) (v : Value) (N : List Int) (w : World) (hV : V < 256) (hP : P < 256) (hN : N.length ≤ 9223372036854775807) (hs : Sl .i64 w v N) :
    Calls Try.prog 10 #[.agg #[.int .u8 V, .int .u8 P, v]] w fun e w' => ∃ v', e = .returned v' ∧ OwnM w.heap.size w' v' (Gp.made V P N) ∧ Below w.heap.size w w' := by
  unfold Gp.made
  have HS := hid hs
  obtain ⟨na, ncap, rfl, _⟩ := hs
  obtain ⟨m, hm⟩ : ∃ m, N.length = m := ⟨_, rfl⟩
  have HM := hid hm
  rw [hm] at hN HS ⊢
  obtain ⟨n, hn⟩ : ∃ n, 1 + V % 5 = n := ⟨_, rfl⟩
  obtain ⟨p, hp⟩ : ∃ p, min (P % 4) n = p := ⟨_, rfl⟩
  have e1 : Int.tmod (V : Int) 5 = ((n : Int) - 1) := by rw [Int.tmod_eq_emod_of_nonneg (by omega)]; omega
  obtain ⟨q, hq⟩ : ∃ q, P % 4 = q := ⟨_, rfl⟩
  have e2 : Int.tmod (P : Int) 4 = (q : Int) := by rw [Int.tmod_eq_emod_of_nonneg (by omega)]; omega
  have q0 : q < 4 := by omega
  have n0 : 0 < n := by omega
  have n1 : n ≤ 5 := by omega
  rw [hn, hp]
  rw [hq] at hp
  have p0 : p ≤ 3 := by omega
  have p1 : (if (q : Int) ≤ (n : Int) then (q : Int) else n) = p := by split <;> omega
  have p2 : min (q : Int) (n : Int) = p := by omega
  clear hn hq hp
  have hgl : (Gp.new n p).length = n := Gp.newTo_length _ _ _
  have hgr : ∀ i, i < n → ((Gp.new n p).getD i []).length = p := fun i hi => by rw [show Gp.new n p = Gp.newTo n p n from rfl, Gp.newTo_getD _ _ _ _ hi, if_pos hi]; exact Gp.row0_length p i
  obtain ⟨g, hgd⟩ : ∃ g, Gp.new n p = g := ⟨_, rfl⟩
  unfold Gp.madeOf
  rw [hgd] at hgl hgr ⊢
  have HN := hid hgl
  have HR := hid hgr
  have HGD := hid hgd
  clear hgl hgr hgd
  go_enter Try.func10, Try.ntmps10
  go_wp2_with fail
  have ex1 : 1 + ((n : Int) - 1) = n := by omega
  simp only [ex1, p2]
  have HS2 := hid (HS.out.stays (aB w (.cells #[.int .u8 V, .int .u8 P, .slice na m ncap] 24)))
  have y2 : (w.alloc (.cells #[.int .u8 V, .int .u8 P, .slice na m ncap] 24)).cell? ⟨w.heap.size, 2, none⟩ = some (.slice na m ncap) := by go_simp
  have bw0 : Below w.heap.size w (w.alloc (.cells #[.int .u8 V, .int .u8 P, .slice na m ncap] 24)) := aB w _
  have hsz : w.heap.size < (w.alloc (.cells #[.int .u8 V, .int .u8 P, .slice na m ncap] 24)).heap.size := by simp
  have cN := hid (rnew_any n p (w.alloc (.cells #[.int .u8 V, .int .u8 P, .slice na m ncap] 24)) n0 (by omega) (by omega))
  rw [HGD.out] at cN
  clear HS e1 e2 p1 p2 ex1
  generalize (w.alloc (.cells #[.int .u8 V, .int .u8 P, .slice na m ncap] 24)) = W0 at HS2 y2 bw0 hsz cN ⊢
  refine cN.out.mono ?_
  rintro e w1 ⟨v1, rfl, ho, hb⟩
  obtain ⟨gb, cp, rfl, hgb0, hgb1, hcp0, hcp1⟩ := OwnS.form ho (by rw [HN.out]; exact n0)
  rw [HN.out] at ho ⊢
  have HO := hid ho
  clear ho hcp1 cN
  go_wp2_with fail
  go_loopw [6, 7] (fun iv kv wr => ∃ k : Nat, iv = .int .i64 ((k * p : Nat) : Int) ∧ kv = .int .i64 k ∧ k ≤ n ∧ Hid (OwnM W0.heap.size wr (.slice (some ⟨gb, 0, none⟩) n cp) (Gp.tab g (fun i j => if i < k then Gp.pick N (i * p + j) (Gp.at_ g i j) else Gp.at_ g i j))) ∧ Below W0.heap.size W0 wr) (fun _ kv _ => n - (intOf kv).toNat)
  case atStart => exact ⟨0, by simp, rfl, Nat.zero_le _, by show OwnM _ _ _ _; rw [Gp.tab_congr (G' := Gp.at_ g) (fun a _ b _ => by rw [if_neg (by omega)]), Gp.tab_self]; exact HO.out, hb⟩
  case round =>
    obtain ⟨k, rfl, rfl, hk, hown, hbel⟩ := hrel
    by_cases hlt : k < n
    · have hkg : k < g.length := by rw [HN.out]; exact hlt
      have i1 : (0 : Int) ≤ (k : Int) := by omega
      have i2 : (k : Int) < (n : Int) := by omega
      have HKG := hid hkg
      obtain ⟨q, hq⟩ : ∃ q, k * p = q := ⟨_, rfl⟩
      have hq2 : q ≤ 15 := by rw [← hq]; exact Nat.mul_le_mul (show k ≤ 5 by omega) p0
      have HQ := hid hq
      rw [hq]
      clear HO hkg hq
      go_wp2_with fail
      obtain ⟨wo, hwo⟩ : ∃ wo : World, wo = wr := ⟨_, rfl⟩
      have HK0 : Hid (OwnM W0.heap.size wr (.slice (some ⟨gb, 0, none⟩) n cp) (Gp.tab g (fun i j => if i < k ∨ (i = k ∧ j < 0) then Gp.pick N (i * p + j) (Gp.at_ g i j) else Gp.at_ g i j))) := by
        show OwnM _ _ _ _
        rw [Gp.tab_congr (G' := fun i j => if i < k then Gp.pick N (i * p + j) (Gp.at_ g i j) else Gp.at_ g i j) (fun a _ b _ => by
          by_cases hak : a < k
          · rw [if_pos (.inl hak), if_pos hak]
          · rw [if_neg (by omega), if_neg hak])]
        exact hown.out
      clear hown
      subst hwo
      go_loopw [6, 8] (fun iv lv wr => ∃ l : Nat, iv = .int .i64 ((q + l : Nat) : Int) ∧ lv = .int .i64 l ∧ l ≤ p ∧ Hid (OwnM W0.heap.size wr (.slice (some ⟨gb, 0, none⟩) n cp) (Gp.tab g (fun i j => if i < k ∨ (i = k ∧ j < l) then Gp.pick N (i * p + j) (Gp.at_ g i j) else Gp.at_ g i j))) ∧ Below W0.heap.size W0 wr) (fun _ lv _ => p - (intOf lv).toNat)
      case atStart => exact ⟨0, by simp, rfl, Nat.zero_le _, HK0, hbel⟩
      case round =>
        obtain ⟨l, rfl, rfl, hl, hown, hbel⟩ := hrel
        by_cases hll : l < p
        · have y2r := (hbel.cell (p := ⟨w.heap.size, 2, none⟩) hsz).trans y2
          have i3 : (0 : Int) ≤ (l : Int) := by omega
          have i4 : (l : Int) < (p : Int) := by omega
          have same : Gp.pick N (q + l) (Gp.at_ g k l) = Gp.at_ g k l → Hid (OwnM W0.heap.size wr (.slice (some ⟨gb, 0, none⟩) n cp) (Gp.tab g (fun i j => if i < k ∨ (i = k ∧ j < l + 1) then Gp.pick N (i * p + j) (Gp.at_ g i j) else Gp.at_ g i j))) := fun he => by
            show OwnM _ _ _ _
            rw [Gp.tab_congr (G' := fun i j => if i < k ∨ (i = k ∧ j < l) then Gp.pick N (i * p + j) (Gp.at_ g i j) else Gp.at_ g i j) (fun a _ b _ => by
              by_cases h1 : a = k ∧ b = l
              · obtain ⟨rfl, rfl⟩ := h1
                rw [if_pos (by omega), if_neg (by omega), HQ.out, he]
              · by_cases h2 : a < k ∨ (a = k ∧ b < l)
                · rw [if_pos h2, if_pos (by omega)]
                · rw [if_neg h2, if_neg (by omega)])]
            exact hown.out
          obtain ⟨t, ht⟩ : ∃ t, q + l = t := ⟨_, rfl⟩
          have HT := hid ht
          have ht2 : t ≤ 18 := by omega
          rw [ht] at same ⊢
          clear ht
          by_cases hm1 : t < m
          · have i5 : (t : Int) < (m : Int) := by omega
            have i6 : (0 : Int) ≤ (t : Int) := by omega
            obtain ⟨a', cap', he, -, -, -, hfo⟩ := HS2.out
            simp only [Value.slice.injEq] at he
            obtain ⟨rfl, -, rfl⟩ := he
            obtain ⟨b, o, rfl, hlb, hc⟩ := hfo (by rw [HM.out]; omega)
            have hcc := (hbel.cell (p := ⟨b, o + t, none⟩) hlb).trans (hc t (by rw [HM.out]; exact hm1))
            obtain ⟨x, hx⟩ : ∃ x, N.getD t 0 = x := ⟨_, rfl⟩
            rw [hx] at hcc
            clear hc hfo
            go_wp2_with fail
            refine (fine_any x _).mono ?_
            rintro e w3 ⟨rfl, rfl⟩
            by_cases hfi : Gp.inR x = true
            · have hpk : Gp.pick N t (Gp.at_ g k l) = x := by unfold Gp.pick; rw [hx, if_pos ⟨by rw [HM.out]; exact hm1, hfi⟩]
              obtain ⟨rb, rp, p1, p2, p3, p4, _, p5⟩ := hown.out.place k l (by rw [Gp.tab_length]; exact HKG.out) (by rw [Gp.tab_rowlen, HR.out k hlt]; exact hll)
              rw [Gp.tab_rowlen, HR.out k hlt] at p1
              obtain ⟨s1, s2, s3, s4, _⟩ := p5 x
              rw [Gp.tab_upd _ _ _ _ _ HKG.out] at s1
              have HS3 : Hid (OwnM W0.heap.size ((wr.setCell ⟨rb, l, none⟩ (.int .i64 x)).drew) (.slice (some ⟨gb, 0, none⟩) n cp) (Gp.tab g (fun i j => if i < k ∨ (i = k ∧ j < l + 1) then Gp.pick N (i * p + j) (Gp.at_ g i j) else Gp.at_ g i j))) := by
                refine hid (OwnS.kept ?_ (dB _))
                show OwnM _ _ _ _
                rw [Gp.tab_congr (G' := fun a b => if a = k ∧ b = l then x else (if a < k ∨ (a = k ∧ b < l) then Gp.pick N (a * p + b) (Gp.at_ g a b) else Gp.at_ g a b)) (fun a _ b _ => by
                  by_cases h1 : a = k ∧ b = l
                  · obtain ⟨rfl, rfl⟩ := h1
                    rw [if_pos (by omega), if_pos ⟨rfl, rfl⟩, HQ.out, HT.out, hpk]
                  · rw [if_neg h1]
                    by_cases h2 : a < k ∨ (a = k ∧ b < l)
                    · rw [if_pos h2, if_pos (by omega)]
                    · rw [if_neg h2, if_neg (by omega)])]
                exact s1
              have hB2 : Below W0.heap.size W0 ((wr.setCell ⟨rb, l, none⟩ (.int .i64 x)).drew) := (hbel.setCell (p := ⟨rb, l, none⟩) p4 _).drew
              have far : ∀ q j, q < W0.heap.size → ((wr.setCell ⟨rb, l, none⟩ (.int .i64 x)).drew).cell? ⟨q, j, none⟩ = wr.cell? ⟨q, j, none⟩ := fun q j hq => World.cell?_setCell_far wr ⟨rb, l, none⟩ ⟨q, j, none⟩ _ (by show rb ≠ q; omega)
              have hkeep : ((wr.setCell ⟨rb, l, none⟩ (.int .i64 x)).drew).cell? ⟨gb, k, none⟩ = some (.slice (some ⟨rb, 0, none⟩) p rp) ∧ ((wr.setCell ⟨rb, l, none⟩ (.int .i64 x)).drew).cell? ⟨w.heap.size, 2, none⟩ = some (.slice (some ⟨b, o, none⟩) m ncap) ∧ ((wr.setCell ⟨rb, l, none⟩ (.int .i64 x)).drew).cell? ⟨b, o + t, none⟩ = some (.int .i64 x) := ⟨by rw [Gp.tab_rowlen, HR.out k hlt] at s2; exact s2, (far _ _ hsz).trans y2r, (far _ _ hlb).trans hcc⟩
              have HKP := hid hkeep
              rw [hfi]
              clear s1 s2 s3 s4 p5 hx hown HK0 far hkeep same hpk
              go_wp2_with fail
              go_region_held3 (fun u => u.cell? ⟨gb, k, none⟩ = some (.slice (some ⟨rb, 0, none⟩) p rp) ∧ u.cell? ⟨w.heap.size, 2, none⟩ = some (.slice (some ⟨b, o, none⟩) m ncap) ∧ u.cell? ⟨b, o + t, none⟩ = some (.int .i64 x)) (first | exact HKP.out | go_keep)
                (fail)
              go_wp2_with fail
              go_roundw
              case rel => exact ⟨l + 1, by rw [show q + (l + 1) = t + 1 by have := HT.out; omega]; go_num, by go_num, by omega, HS3, hB2⟩
              case measure => simp [intOf]; omega
            · have HS3 := same (by unfold Gp.pick; rw [hx, if_neg (fun h => hfi h.2)])
              rw [show Gp.inR x = false by simpa using hfi]
              clear same hown HK0
              go_wp2_with fail
              go_roundw
              case rel => exact ⟨l + 1, by rw [show q + (l + 1) = t + 1 by have := HT.out; omega]; go_num, by go_num, by omega, HS3, hbel⟩
              case measure => simp [intOf]; omega
          · have HS3 := same (if_neg (fun h => hm1 (HM.out ▸ h.1)))
            have i5 : ¬ (t : Int) < (m : Int) := by omega
            clear same hown HK0
            go_wp2_with fail
            go_roundw
            case rel => exact ⟨l + 1, by rw [show q + (l + 1) = t + 1 by have := HT.out; omega]; go_num, by go_num, by omega, HS3, hbel⟩
            case measure => simp [intOf]; omega
        · obtain rfl : p = l := by omega
          have HS2' : Hid (OwnM W0.heap.size wr (.slice (some ⟨gb, 0, none⟩) n cp) (Gp.tab g (fun i j => if i < k + 1 then Gp.pick N (i * p + j) (Gp.at_ g i j) else Gp.at_ g i j))) := by
            show OwnM _ _ _ _
            rw [Gp.tab_congr (G' := fun i j => if i < k ∨ (i = k ∧ j < p) then Gp.pick N (i * p + j) (Gp.at_ g i j) else Gp.at_ g i j) (fun a ha b hb => by
              rw [HR.out a (by rw [HN.out] at ha; exact ha)] at hb
              by_cases h1 : a < k + 1
              · rw [if_pos h1, if_pos (by omega)]
              · rw [if_neg h1, if_neg (by omega)])]
            exact hown.out
          have hq3 : (k + 1) * p = q + p := by rw [Nat.succ_mul, HQ.out]
          clear hown HK0
          go_wp2_with fail
          go_roundw
          case rel => exact ⟨k + 1, by rw [hq3], by go_num, by omega, HS2', hbel⟩
          case measure => simp [intOf]; omega
    · obtain rfl : k = n := by omega
      have HS2' : Hid (OwnM W0.heap.size wr (.slice (some ⟨gb, 0, none⟩) k cp) (Gp.tab g (fun i j => Gp.pick N (i * p + j) (Gp.at_ g i j)))) := by
        show OwnM _ _ _ _
        rw [Gp.tab_congr (G' := fun i j => if i < k then Gp.pick N (i * p + j) (Gp.at_ g i j) else Gp.at_ g i j) (fun a ha b _ => by rw [HN.out] at ha; rw [if_pos ha])]
        exact hown.out
      clear hown HO
      go_wp2_with fail
      go_ret
      exact ⟨_, rfl, OwnM.mono HS2'.out bw0.size, seqB bw0 hbel⟩
end Go.Proofs.Ytajlmkokfgbjdaa
