/- What Copy and New of the reference compute. Conditions: sizes. -/
import Derived.Test.YtajlmkokfgbjdaaOld16
set_option linter.unusedVariables false
set_option linter.unusedSimpArgs false
namespace Go.Proofs.Ytajlmkokfgbjdaa
open Go.RowKit

theorem OwnM.empty (w : World) : OwnM w.heap.size (w.alloc (.cells #[] 22)) (.slice (some ⟨w.heap.size, 0, none⟩) 0 0) [] :=
  ⟨[], World.ownsRow_lit w #[] 0 (Nat.le_refl _) (Nat.zero_le _) rfl, fun i hi => absurd hi (by simp), fun i hi => absurd hi (by simp), fun i j b hi => absurd hi (by simp)⟩

set_option maxRecDepth 100000 in
set_option maxHeartbeats 2000000 in
theorem copy_any (v : Value) (g : List (List Int)) (w : World) (hg : Small g) (hs : Mx w v g) :
    Calls Try.prog 38 #[v] w fun e w' => ∃ v', e = .returned v' ∧ OwnM w.heap.size w' v' g ∧ Below w.heap.size w w' := by
  have HS := hid hs
  have HG := hid hg.2.2
  obtain ⟨a, cap, rfl, _⟩ := hs
  obtain ⟨n, hn⟩ : ∃ n, g.length = n := ⟨_, rfl⟩
  have HN := hid hn
  obtain ⟨hg0, hg1, _⟩ := hg
  rw [hn] at hg0 hg1 HS ⊢
  have hm0 := hid (OwnM.empty w)
  have hb0 := aB w (.cells #[] 22)
  clear hn
  go_enter Try.func38, Try.ntmps38
  go_wp2_with fail
  go_loopw [3, 4] (fun ov kv wr => ∃ (k : Nat) (oa : Option Addr) (oc : Nat), ov = .slice oa k oc ∧ kv = .int .i64 k ∧ k ≤ n ∧ Hid (OwnM w.heap.size wr (.slice oa k oc) (g.take k)) ∧ Below w.heap.size w wr) (fun _ kv _ => n - (intOf kv).toNat)
  case atStart => exact ⟨0, _, _, rfl, rfl, Nat.zero_le _, hm0, hb0⟩
  case round =>
    obtain ⟨k, oa, oc, rfl, rfl, hk, hown, hbel⟩ := hrel
    by_cases hlt : k < n
    · have hlow : w.heap.size ≤ wr.heap.size := hbel.size
      obtain ⟨b, o, rfl, hlb, hrow⟩ := HS.out.row.2.2 (by rw [HN.out]; exact hg0)
      obtain ⟨r, hr1, hr2⟩ := hrow k (by rw [HN.out]; exact hlt)
      have hr1 := (hbel.cell (p := ⟨b, o + k, none⟩) hlb).trans hr1
      have hr2 := hr2.stays hbel
      obtain ⟨xs, hxs⟩ : ∃ xs, g.getD k [] = xs := ⟨_, rfl⟩
      have hxl := HG.out k
      rw [hxs] at hr2 hxl
      have HXS := hid hxs
      have HR2 := hid hr2
      obtain ⟨ra, rc, rfl, _⟩ := hr2
      have i1 : (0 : Int) ≤ (k : Int) := by omega
      have i2 : (k : Int) < (n : Int) := by omega
      have hr1a := ((aB wr (.cells #[] 3)).cell (p := ⟨b, o + k, none⟩) (World.lt_of_cell hr1)).trans hr1
      clear hxs hrow
      go_wp2_with (at_builtin; apply Hid.out)
      refine hid ?_
      refine wpList_appendI elInt rfl (.tmp 13) (.tmp 17) rfl wr.heap.size [] xs (.slice (some ⟨wr.heap.size, 0, none⟩) 0 0) (.slice ra xs.length rc) rfl rfl (Own.empty _ _ _ wr (Nat.le_refl _)) (HR2.out.stays (aB wr _)) (by simp; omega) (by simp) ?_
      intro v1 w1 ho1 hg1
      have hb1 : Below wr.heap.size wr w1 := (aB wr _).trans ((Own.empty wr.heap.size 3 .i64 wr (Nat.le_refl _)).below hg1 (by simp))
      rw [List.nil_append] at ho1
      obtain ⟨va, vc, rfl, _⟩ := ho1.sl
      have HO1 := hid (ho1.kept (aB w1 (.cells #[.slice va xs.length vc] 22)))
      have hb2 : Below wr.heap.size wr (w1.alloc (.cells #[.slice va xs.length vc] 22)) := seqB hb1 (aB w1 _)
      clear ho1 hg1
      go_wp2_with (at_builtin; apply Hid.out)
      refine hid ?_
      refine wpList_appendM rfl (.tmp 12) (.tmp 19) rfl w.heap.size wr (g.take k) xs (.slice oa k oc) (.slice va xs.length vc) w1.heap.size rfl rfl hown.out hb2 (HO1.out.mono hlow) (fun b hb => HO1.out.block_ge b hb) (by go_simp) (by rw [List.length_take, HN.out]; omega) hlow ?_
      intro v2 w2 ho2 hb3
      have hB : Below w.heap.size w w2 := (hbel.trans (hb2.mono hlow)).trans hb3
      have htk : g.take k ++ [xs] = g.take (k + 1) := by
        rw [List.take_succ_eq_append_getElem (by rw [HN.out]; exact hlt), ← HXS.out]
        simp [List.getD, HN.out, hlt]
      rw [htk] at ho2
      obtain ⟨gb, gc, hv2, _⟩ := OwnS.form ho2 (by rw [List.length_take, HN.out]; omega)
      rw [List.length_take, HN.out, show min (k + 1) n = k + 1 by omega] at hv2
      subst hv2
      have HO2 := hid ho2
      clear ho2 hb3 htk hown
      go_wp2_with fail
      go_roundw
      case rel => exact ⟨k + 1, _, _, rfl, by go_num, by omega, HO2, hB⟩
      case measure => simp [intOf]; omega
    · obtain rfl : k = n := by omega
      have HF : Hid (OwnM w.heap.size wr (.slice oa k oc) g) := by
        have h := hown.out
        rw [List.take_of_length_le (by rw [HN.out]; exact Nat.le_refl _)] at h
        exact h
      clear hown hm0
      go_wp2_with fail
      go_ret
      exact ⟨_, rfl, HF.out, hbel⟩

set_option maxRecDepth 100000 in
set_option maxHeartbeats 2000000 in
theorem rnew_any (vars params : Nat) (w : World) (h0 : 0 < vars) (h1 : vars ≤ 1000) (h2 : params ≤ 1000) :
    Calls Try.prog 31 #[.int .i64 vars, .int .i64 params] w fun e w' => ∃ v', e = .returned v' ∧ OwnM w.heap.size w' v' (Gp.new vars params) ∧ Below w.heap.size w w' := by
  have hm0 := hid (OwnM.empty w)
  have hb0 := aB w (.cells #[] 22)
  obtain ⟨g, hgd⟩ : ∃ g, Gp.new vars params = g := ⟨_, rfl⟩
  have hgl : g.length = vars := by rw [← hgd]; exact Gp.newTo_length _ _ _
  have hgr : ∀ i, i < vars → g.getD i [] = Gp.row0 params i := fun i hi => by rw [← hgd]; exact (Gp.newTo_getD _ _ _ _ hi).trans (if_pos hi)
  rw [hgd]
  have HGL := hid hgl
  have HGR := hid hgr
  clear hgd hgl hgr
  go_enter Try.func31, Try.ntmps31
  go_wp2_with fail
  go_loopw [5, 6] (fun ov kv wr => ∃ (k : Nat) (oa : Option Addr) (oc : Nat), ov = .slice oa k oc ∧ kv = .int .i64 k ∧ k ≤ vars ∧ Hid (OwnM w.heap.size wr (.slice oa k oc) (g.take k)) ∧ Below w.heap.size w wr) (fun _ kv _ => vars - (intOf kv).toNat)
  case atStart => exact ⟨0, _, _, rfl, rfl, Nat.zero_le _, hm0, hb0⟩
  case round =>
    obtain ⟨k, oa, oc, rfl, rfl, hk, hown, hbel⟩ := hrel
    by_cases hlt : k < vars
    · have hlow : w.heap.size ≤ wr.heap.size := hbel.size
      have hgk := HGR.out k hlt
      have HGK := hid hgk
      have he := hid (Own.empty wr.heap.size 3 .i64 wr (Nat.le_refl _))
      have hbe := aB wr (.cells #[] 3)
      clear hgk hm0
      obtain ⟨wo, hwo⟩ : ∃ wo : World, wo = wr := ⟨_, rfl⟩
      go_wp2_with fail
      subst hwo
      go_loopw [7, 8] (fun rv lv wr => ∃ (l : Nat) (ra : Option Addr) (rc : Nat), rv = .slice ra l rc ∧ lv = .int .i64 l ∧ l ≤ params ∧ Hid (Own wo.heap.size 3 .i64 wr (.slice ra l rc) ((Gp.row0 params k).take l)) ∧ Below wo.heap.size wo wr) (fun _ lv _ => params - (intOf lv).toNat)
      case atStart => exact ⟨0, _, _, rfl, rfl, Nat.zero_le _, he, hbe⟩
      case round =>
        obtain ⟨l, ra, rc, rfl, rfl, hl, hro, hbl⟩ := hrel
        by_cases hll : l < params
        · have hat : ∀ x : Int, (if l = k then (0 : Int) else 1099511627776) = x → (Gp.row0 params k).take l ++ [x] = (Gp.row0 params k).take (l + 1) := by
            intro x hx
            rw [List.take_succ_eq_append_getElem (by rw [Gp.row0_length]; exact hll), ← hx]
            congr 2
            unfold Gp.row0
            rw [List.getElem_set]
            by_cases h : l = k
            · rw [if_pos h, if_pos h.symm]
            · rw [if_neg h, if_neg (Ne.symm h), List.getElem_replicate]; rfl
          have htl : ((Gp.row0 params k).take l).length = l := by rw [List.length_take, Gp.row0_length]; omega
          have hlow2 := hbl.size
          by_cases hlk : k = l
          · have t1 : ((k : Int) == (l : Int)) = true := by rw [beq_iff_eq]; omega
            have HAT := hid (hat 0 (if_pos hlk.symm))
            have HTL := hid htl
            clear hat hlk htl
            go_wp2_with (at_builtin; apply Hid.out)
            refine hid ?_
            refine wpList_appendI elInt rfl (.tmp 24) (.tmp 25) rfl wo.heap.size ((Gp.row0 params k).take l) [0] (.slice ra l rc) (.slice (some ⟨wr.heap.size, 0, none⟩) 1 1) rfl rfl (hro.out.kept (aB wr _)) (Sl.one .i64 wr 3 0) (by rw [HTL.out]; simp; omega) (by simp; omega) ?_
            intro v2 w2 ho2 hg2
            have hb2 : Below wo.heap.size wo w2 := (hbl.alloc hlow2 _).trans ((hro.out.kept (aB wr _)).below hg2 (by simp; omega))
            rw [HAT.out] at ho2
            obtain ⟨va, vc, hv2, _⟩ := ho2.sl
            rw [List.length_take, Gp.row0_length, show min (l + 1) params = l + 1 by omega] at hv2
            subst hv2
            have HO2 := hid ho2
            clear ho2 hg2 hro
            go_wp2_with fail
            go_roundw
            case rel => exact ⟨l + 1, _, _, rfl, by go_num, by omega, HO2, hb2⟩
            case measure => simp [intOf]; omega
          · have t1 : ((k : Int) == (l : Int)) = false := by rw [beq_eq_false_iff_ne]; omega
            have HAT := hid (hat 1099511627776 (if_neg (Ne.symm hlk)))
            have HTL := hid htl
            clear hat hlk htl
            go_wp2_with (at_builtin; apply Hid.out)
            refine hid ?_
            refine wpList_appendI elInt rfl (.tmp 27) (.tmp 28) rfl wo.heap.size ((Gp.row0 params k).take l) [1099511627776] (.slice ra l rc) (.slice (some ⟨wr.heap.size, 0, none⟩) 1 1) rfl rfl (hro.out.kept (aB wr _)) (Sl.one .i64 wr 3 1099511627776) (by rw [HTL.out]; simp; omega) (by simp; omega) ?_
            intro v2 w2 ho2 hg2
            have hb2 : Below wo.heap.size wo w2 := (hbl.alloc hlow2 _).trans ((hro.out.kept (aB wr _)).below hg2 (by simp; omega))
            rw [HAT.out] at ho2
            obtain ⟨va, vc, hv2, _⟩ := ho2.sl
            rw [List.length_take, Gp.row0_length, show min (l + 1) params = l + 1 by omega] at hv2
            subst hv2
            have HO2 := hid ho2
            clear ho2 hg2 hro
            go_wp2_with fail
            go_roundw
            case rel => exact ⟨l + 1, _, _, rfl, by go_num, by omega, HO2, hb2⟩
            case measure => simp [intOf]; omega
        · obtain rfl : l = params := by omega
          have hro' := hro.out
          rw [List.take_of_length_le (by rw [Gp.row0_length]; exact Nat.le_refl _)] at hro'
          have HO1 := hid (hro'.kept (aB wr (.cells #[.slice ra l rc] 22)))
          have hb2 : Below wo.heap.size wo (wr.alloc (.cells #[.slice ra l rc] 22)) := hbl.alloc hbl.size _
          clear hro hro' he
          go_wp2_with (at_builtin; apply Hid.out)
          refine hid ?_
          refine wpList_appendM rfl (.tmp 30) (.tmp 32) rfl w.heap.size wo (g.take k) (Gp.row0 l k) (.slice oa k oc) (.slice ra l rc) wr.heap.size rfl rfl hown.out hb2 (HO1.out.mono hlow) (fun b hb => HO1.out.block_ge b hb) (by go_simp) (by rw [List.length_take, HGL.out]; omega) hlow ?_
          intro v2 w2 ho2 hb3
          have hB : Below w.heap.size w w2 := (hbel.trans (hb2.mono hlow)).trans hb3
          have htk : g.take k ++ [Gp.row0 l k] = g.take (k + 1) := by
            rw [List.take_succ_eq_append_getElem (by rw [HGL.out]; exact hlt), ← HGK.out]
            simp [List.getD, HGL.out, hlt]
          rw [htk] at ho2
          obtain ⟨gb, gc, hv2, _⟩ := OwnS.form ho2 (by rw [List.length_take, HGL.out]; omega)
          rw [List.length_take, HGL.out, show min (k + 1) vars = k + 1 by omega] at hv2
          subst hv2
          have HO2 := hid ho2
          clear ho2 hb3 htk hown
          go_wp2_with fail
          go_roundw
          case rel => exact ⟨k + 1, _, _, rfl, by go_num, by omega, HO2, hB⟩
          case measure => simp [intOf]; omega
    · obtain rfl : k = vars := by omega
      have HF : Hid (OwnM w.heap.size wr (.slice oa k oc) g) := by
        have h := hown.out
        rw [List.take_of_length_le (by rw [HGL.out]; exact Nat.le_refl _)] at h
        exact h
      clear hown hm0
      go_wp2_with fail
      go_ret
      exact ⟨_, rfl, HF.out, hbel⟩
end Go.Proofs.Ytajlmkokfgbjdaa
