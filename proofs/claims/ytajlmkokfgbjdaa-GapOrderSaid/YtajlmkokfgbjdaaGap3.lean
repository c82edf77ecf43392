/- What New of package gap computes. Conditions: sizes. -/
import Derived.Test.YtajlmkokfgbjdaaGap2
import Derived.Test.YtajlmkokfgbjdaaGapPure
set_option linter.unusedVariables false
set_option linter.unusedSimpArgs false
namespace Go.Proofs.Ytajlmkokfgbjdaa
open Go.RowKit

set_option maxRecDepth 100000 in
set_option maxHeartbeats 1000000 in
theorem new_any (vars params : Nat) (w : World) (h0 : 0 < vars) (h1 : vars ≤ 1000) (h2 : params ≤ 1000) :
    Calls Try.prog 23 #[.int .i64 vars, .int .i64 params] w fun e w' => ∃ v', e = .returned v' ∧ OwnM w.heap.size w' v' (Gp.new vars params) ∧ Below w.heap.size w w' := by
  obtain ⟨i0, hi, hz0, hz1, hz2⟩ := info_parts infoRow
  have hby : i0.bytes * vars ≤ 281474976710656 := by rw [hz2]; omega
  have HBY := hid hby
  clear hby
  go_enter Try.func23, Try.ntmps23
  go_wp2_with ((refine wpList_make_full _ rfl (.tmp 7) (.tmp 7) 34 rfl w.heap.size 22 i0 (.slice none 0 0) 1 Try.underlying34 hi hz0 hz1 .i64 .i64 vars vars vars rfl rfl rfl rfl HBY.out (by unfold maxLen; omega) (Nat.le_refl _) ?_); apply Hid.out)
  refine hid ?_
  intro w1 ho1 hg1
  have hrows : (madeCells (Value.slice none 0 0).cells (vars * 1)).toList = List.replicate vars (.slice none 0 0) := by
    rw [Nat.mul_one]; exact toList_madeCells_one _ vars
  have hown : OwnM w.heap.size w1 (.slice (some ⟨w.heap.size, 0, none⟩) vars vars) (Gp.newTo vars params 0) := by
    have hgd : ∀ i, i < vars → (List.replicate vars (Value.slice none 0 0)).getD i undef = .slice none 0 0 := fun i hi => by simp [List.getD, hi]
    refine ⟨List.replicate vars (.slice none 0 0), ?_, fun i _ h => absurd trivial h, fun i hi _ => ?_, fun i j b hi hj hne _ _ hb => ?_⟩
    · rw [Gp.newTo_length, ← hrows]; rw [Nat.mul_one]; exact ho1
    · rw [Gp.newTo_length] at hi
      rw [hgd i hi, Gp.newTo_getD _ _ _ _ hi, if_neg (by omega)]
      exact Own.nil _ _ _ _
    · rw [Gp.newTo_length] at hi
      rw [hgd i hi] at hb
      simp [Value.ownBlock] at hb
  have hb1 : Below w.heap.size w w1 := (Below.refl _ _).grown hg1 (Nat.le_refl _) (by simp)
  have HO := hid hown
  have hgs : w.heap.size < w1.heap.size := by
    obtain ⟨gb, cap, h3, _, h5, _⟩ := hown.form (by rw [Gp.newTo_length]; exact h0)
    simp only [Value.slice.injEq, Option.some.injEq, Addr.mk.injEq] at h3
    omega
  clear ho1 hg1 hrows hown HBY
  go_wp2_with fail
  go_loopw [11] (fun kv wr => ∃ k : Nat, kv = .int .i64 k ∧ k ≤ vars ∧ Hid (OwnM w.heap.size wr (.slice (some ⟨w.heap.size, 0, none⟩) vars vars) (Gp.newTo vars params k)) ∧ Below w.heap.size w wr ∧ w.heap.size < wr.heap.size) (fun kv _ => vars - (intOf kv).toNat)
  case atStart => exact ⟨0, rfl, Nat.zero_le _, HO, hb1, hgs⟩
  case round =>
    obtain ⟨k, rfl, hk, hown, hbel, hgs⟩ := hrel
    by_cases hlt : k < vars
    · have hlow : w.heap.size ≤ wr.heap.size := hbel.size
      have i1 : (0 : Int) ≤ (k : Int) := by omega
      have i2 : (k : Int) < (vars : Int) := by omega
      have cR := hid (repeat_any (.slice (some ⟨wr.heap.size, 0, none⟩) 1 1) 1099511627776 params (wr.alloc (.cells #[.int .i64 1099511627776] 3)) (by omega) (Sl.one .i64 wr 3 1099511627776))
      clear HO
      go_wp2_with fail
      refine cR.out.mono ?_
      rintro e w2 ⟨r', rfl, ho2, hb2⟩
      obtain ⟨ra, rc, rfl, _⟩ := ho2.sl
      rw [List.length_replicate] at ho2 ⊢
      have hba : Below wr.heap.size wr w2 := seqB (aB wr _) hb2
      have hk2 := hown.out.kept hba
      obtain ⟨q, hq1, hq2, _, _⟩ := OwnS.row hk2 k (by rw [Gp.newTo_length]; exact hlt)
      have ho3 : Own wr.heap.size 3 .i64 w2 (.slice ra params rc) (List.replicate params Gp.noGap) := ho2.mono (by simp)
      have hput := OwnS.put hk2 k (by rw [Gp.newTo_length]; exact hlt) (r := .slice ra params rc) (xs := List.replicate params Gp.noGap) (ho3.mono hlow) (H := wr.heap.size) (fun b hb => ho3.block_ge b hb) (by
        intro j q' hj hcq hjk b' hb'
        obtain ⟨q'', h1, _⟩ := OwnS.row hown.out j hj
        have h2 := (hba.cell (p := ⟨w.heap.size, j, none⟩) hgs).trans h1
        rw [hcq] at h2
        obtain rfl := Option.some.inj h2
        exact OwnS.rowBlock hown.out j _ hj h1 hjk b' hb')
      have hput := hput.all (fun i _ => Or.inl trivial)
      have hB : Below w.heap.size w (w2.setCell ⟨w.heap.size, k, none⟩ (.slice ra params rc)) := ((hbel.trans (hba.mono hlow))).setCell (p := ⟨w.heap.size, k, none⟩) (Nat.le_refl _) _
      have hgs2 : w.heap.size < (w2.setCell ⟨w.heap.size, k, none⟩ (.slice ra params rc)).heap.size := by have := hba.size; simp [World.setCell]; omega
      by_cases hp : k < params
      · have t1 : decide ((k : Int) < (params : Int)) = true := decide_eq_true (by omega)
        obtain ⟨gb, gc, hv, _, _, _, _⟩ := ho3.form (by rw [List.length_replicate]; omega)
        simp only [Value.slice.injEq] at hv
        obtain ⟨rfl, -, -⟩ := hv
        have hcell := World.cell?_setCell_same w2 (a := ⟨w.heap.size, k, none⟩) (v := .slice (some ⟨gb, 0, none⟩) params rc) hq1
        have hgd : ((Gp.newTo vars params k).set k (List.replicate params Gp.noGap)).getD k [] = List.replicate params Gp.noGap := by
          rw [getD_set _ _ _ _ _ (by rw [Gp.newTo_length]; exact hlt), if_pos rfl]
        obtain ⟨r3, hr3, hr4, hr5, hr6⟩ := OwnS.row hput k (by rw [List.length_set, Gp.newTo_length]; exact hlt)
        rw [hcell] at hr3
        obtain rfl := Option.some.inj hr3
        rw [hgd] at hr6
        obtain ⟨c1, c2⟩ := (show Own w.heap.size 3 .i64 _ (.slice (some ⟨gb, 0, none⟩) params rc) (List.replicate params Gp.noGap) from hr6 trivial).cellAt k (by rw [List.length_replicate]; exact hp)
        obtain ⟨hst, hst2, hst3⟩ := hput.store k k 0 (by rw [List.length_set, Gp.newTo_length]; exact hlt) hcell (by rw [hgd, List.length_replicate]) hp
        rw [hgd, Gp.set_set] at hst
        have HS : Hid (OwnM w.heap.size ((w2.setCell ⟨w.heap.size, k, none⟩ (.slice (some ⟨gb, 0, none⟩) params rc)).setCell ⟨gb, k, none⟩ (.int .i64 0)) (.slice (some ⟨w.heap.size, 0, none⟩) vars vars) (Gp.newTo vars params (k + 1))) := by
          rw [← Gp.newTo_succ _ _ _ hlt]; exact hst
        have i3 : (k : Int) < (params : Int) := by omega
        have hB2 := hB.setCell (p := ⟨gb, k, none⟩) hst3 (.int .i64 0)
        have hgs3 : w.heap.size < ((w2.setCell ⟨w.heap.size, k, none⟩ (.slice (some ⟨gb, 0, none⟩) params rc)).setCell ⟨gb, k, none⟩ (.int .i64 0)).heap.size := by simp [World.setCell] at hgs2 ⊢; omega
        clear hput hk2 ho2 ho3 hgd hst hst2 hr6 hr5 hown cR
        go_wp2_with fail
        go_roundw
        case rel => exact ⟨k + 1, by go_num, by omega, HS, hB2, hgs3⟩
        case measure => simp [intOf]; omega
      · have t1 : decide ((k : Int) < (params : Int)) = false := decide_eq_false (by omega)
        have HS : Hid (OwnM w.heap.size (w2.setCell ⟨w.heap.size, k, none⟩ (.slice ra params rc)) (.slice (some ⟨w.heap.size, 0, none⟩) vars vars) (Gp.newTo vars params (k + 1))) := by
          rw [← Gp.newTo_succ _ _ _ hlt, Gp.row0_ge _ _ (by omega)]; exact hput
        clear hput hk2 ho2 ho3 hown cR
        go_wp2_with fail
        go_roundw
        case rel => exact ⟨k + 1, by go_num, by omega, HS, hB, hgs2⟩
        case measure => simp [intOf]; omega
    · obtain rfl : k = vars := by omega
      go_wp2_with fail
      go_ret
      exact ⟨_, rfl, hown.out, hbel⟩
end Go.Proofs.Ytajlmkokfgbjdaa
