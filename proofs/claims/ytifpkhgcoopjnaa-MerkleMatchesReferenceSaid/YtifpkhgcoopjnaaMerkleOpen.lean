/- What Open computes. Conditions: lists of at most 4096 words. -/
import Derived.Test.YtifpkhgcoopjnaaMerkleWalk
import Derived.Deep.RegionHeld3
import Derived.IntWalk
namespace Go.Proofs.Ytifpkhgcoopjnaa
open Go.RowKit

theorem elU64 : IntEl Try.prog 41 22 .u64 := IntEl.of Try.underlying41 (b := 8) (by kernel_rfl) (by omega)

set_option maxRecDepth 100000 in
set_option maxHeartbeats 400000 in
theorem open_any (v : Value) (xs : List Int) (i : Nat) (w : World) (hx : xs.length ≤ 4096) (hi : i < xs.length) (hs : Sl .u64 w v xs) :
    Calls Try.prog 47 #[v, .int .i64 i] w fun e w' => ∃ v', e = .returned (.tuple #[v', .int .i64 0]) ∧ Own w.heap.size 22 .u64 w' v' (Mk.path xs i) ∧ Below w.heap.size w w' := by
  have HS := hid hs
  obtain ⟨a, cap, rfl, hcap, hmax, _, hf⟩ := hs
  obtain ⟨b, o, rfl, hb, _⟩ := hf (by omega)
  unfold maxLen at hmax
  clear hf
  have hpl : Mk.place (xs.length : Int) (i : Int) = 0 := by unfold Mk.place; rw [if_neg (by omega), if_neg (by omega)]
  have HPL := hid hpl; clear hpl
  go_enter Try.func47, Try.ntmps47
  go_wp2_with fail
  refine (place_any _ _ _).mono ?_
  rw [HPL.out]
  rintro e w' ⟨rfl, rfl⟩
  go_wp2_with fail
  go_loopw [0, 1, 7] (fun l j p wr => ∃ (ys ps : List Int) (k b o cap : Nat), l = .slice (some ⟨b, o, none⟩) ys.length cap ∧ j = .int .i64 k ∧ k < ys.length ∧ ys.length ≤ 4096 ∧ ys.length ≤ cap ∧ cap ≤ 2 ^ 63 - 1 ∧ ps.length + ys.length ≤ 4096 ∧ Hid (Sl .u64 w (.slice (some ⟨b, o, none⟩) ys.length cap) ys) ∧
      Hid (Own w.heap.size 22 .u64 wr p ps) ∧ Hid (Mk.down xs i = ps ++ Mk.down ys k) ∧ Below w.heap.size w wr) (fun l _ _ _ => match l with | .slice _ n _ => n | _ => 0)
  case atStart => exact ⟨xs, [], i, b, o, cap, rfl, rfl, hi, hx, hcap, hmax, by simp; omega, HS, Own.nil _ _ _ _, rfl, Below.refl _ _⟩
  case round =>
    obtain ⟨ys, ps, k, b, o, cap, rfl, rfl, hk, hy, hyc, hcm, hps, hsl, hown, hdn, hbel⟩ := hrel
    clear hx hi hcap hmax HPL hb HS
    by_cases h2 : 2 ≤ ys.length
    · have hh := Mk.half_lt h2
      have hp := Mk.half_pos ys.length
      have cH := hid (fun w => halves_any b o ys.length cap w h2 hyc (by omega))
      by_cases hlt : k < Mk.half ys.length
      · go_wp2_with fail
        refine (cH.out _).mono ?_
        rintro e w1 ⟨rfl, q1, rfl⟩
        go_wp2_with fail
        refine (top_any _ (ys.drop (Mk.half ys.length)) _ (by rw [List.length_drop]; omega) (((hsl.out.drop _ (by omega)).stays hbel).stays (drewB _ _))).mono ?_
        rintro e w2 ⟨rfl, q2, rfl⟩
        go_wp2_with (at_builtin; apply Hid.out)
        refine hid ?_
        refine wpList_appendI elU64 rfl (.tmp 31) (.tmp 34) rfl w.heap.size ps [I (Mk.top (ys.drop (Mk.half ys.length)))] _ (.slice (some ⟨wr.heap.size, 0, none⟩) 1 1) rfl rfl ((hown.out.kept (aB wr _)).kept (drewB _ _)) ((Sl.one _ wr _ _).stays (drewB _ _)) (by simp; omega) (by have := hbel.size; simp; omega) ?_
        intro v1 w1 ho1 hg1
        have hb1 : Below w.heap.size w w1 := ((hbel.alloc hbel.size _).trans (Go.Joins.below_draws _ _ _)).trans (((hown.out.kept (aB wr _)).kept (drewB _ _)).below hg1 (by have := hbel.size; simp; omega))
        clear hg1
        go_wp2_with fail
        refine ⟨⟨ys.take (Mk.half ys.length), ps ++ [I (Mk.top (ys.drop (Mk.half ys.length)))], k, b, o, cap, ?_, rfl, ?_, ?_, ?_, hcm, ?_, ?_, ho1, ?_, hb1⟩, ?_⟩
        · rw [List.length_take, Nat.min_eq_left (by omega)]
        · rw [List.length_take]; omega
        · rw [List.length_take]; omega
        · rw [List.length_take]; omega
        · rw [List.length_append, List.length_take, List.length_singleton]; omega
        · show Sl _ _ _ _
          rw [List.length_take, Nat.min_eq_left (by omega)]
          exact hsl.out.take _ (by omega)
        · show _ = _
          rw [hdn.out, Mk.down_left h2 hlt, List.append_assoc]; rfl
        · show Mk.half ys.length < ys.length; exact hh
      · go_wp2_with fail
        refine (cH.out _).mono ?_
        rintro e w1 ⟨rfl, q1, rfl⟩
        have h1 : (0 : Int) ≤ (k : Int) - (Mk.half ys.length : Int) := by omega
        have h3 : (k : Int) - (Mk.half ys.length : Int) = ((k - Mk.half ys.length : Nat) : Int) := by omega
        go_wp2_with fail
        refine (top_any _ (ys.take (Mk.half ys.length)) _ (by rw [List.length_take]; omega) (((hsl.out.take _ (by omega)).stays hbel).stays (drewB _ _))).mono ?_
        rintro e w2 ⟨rfl, q2, rfl⟩
        go_wp2_with (at_builtin; apply Hid.out)
        refine hid ?_
        refine wpList_appendI elU64 rfl (.tmp 37) (.tmp 40) rfl w.heap.size ps [I (Mk.top (ys.take (Mk.half ys.length)))] _ (.slice (some ⟨wr.heap.size, 0, none⟩) 1 1) rfl rfl ((hown.out.kept (aB wr _)).kept (drewB _ _)) ((Sl.one _ wr _ _).stays (drewB _ _)) (by simp; omega) (by have := hbel.size; simp; omega) ?_
        intro v1 w1 ho1 hg1
        have hb1 : Below w.heap.size w w1 := ((hbel.alloc hbel.size _).trans (Go.Joins.below_draws _ _ _)).trans (((hown.out.kept (aB wr _)).kept (drewB _ _)).below hg1 (by have := hbel.size; simp; omega))
        clear hg1
        go_wp2_with fail
        refine ⟨⟨ys.drop (Mk.half ys.length), ps ++ [I (Mk.top (ys.take (Mk.half ys.length)))], k - Mk.half ys.length, b, o + Mk.half ys.length, cap - Mk.half ys.length, ?_, rfl, ?_, ?_, ?_, ?_, ?_, ?_, ho1, ?_, hb1⟩, ?_⟩
        · rw [List.length_drop]
        · rw [List.length_drop]; omega
        · rw [List.length_drop]; omega
        · rw [List.length_drop]; omega
        · omega
        · rw [List.length_append, List.length_drop, List.length_singleton]; omega
        · show Sl _ _ _ _
          rw [List.length_drop]
          exact hsl.out.drop _ (by omega)
        · show _ = _
          rw [hdn.out, Mk.down_right h2 (by omega), List.append_assoc]; rfl
        · show ys.length - Mk.half ys.length < ys.length; omega
    · have hlen : ys.length = 1 := by omega
      have hdn1 : Mk.down xs i = ps := by rw [hdn.out, Mk.down_one k (by omega), List.append_nil]
      have HDN := hid hdn1
      clear hdn1 hdn
      have hl1 : ¬ ((1 : Int) < (ys.length : Int)) := by omega
      clear hlen
      by_cases hp0 : 0 < ps.length
      · obtain ⟨g, cap', hv, hg1, hg2, hcc, hcm'⟩ := hown.out.form hp0
        subst hv
        have hpl : ps.length ≤ 4096 := by omega
        clear hcc hcm' hps
        go_wp2_with fail
        go_loopw [10, 11] (fun x y wq => ∃ (t : Nat), x = .int .i64 t ∧ y = .int .i64 ((ps.length : Int) - 1 - t) ∧ t ≤ ps.length ∧ Hid (Own w.heap.size 22 .u64 wq (.slice (some ⟨g, 0, none⟩) ps.length cap') (Mk.revTo ps t)) ∧ Below w.heap.size w wq) (fun x _ _ => ps.length - (intOf x).toNat)
        case atStart =>
          refine ⟨0, rfl, ?_, by omega, ?_, hbel⟩
          · simp
          · show Own _ _ _ _ _ _
            rw [Mk.revTo_zero]; exact hown.out
        case round =>
          obtain ⟨t, rfl, rfl, ht, hown2, hbel2⟩ := hrel
          by_cases hlt : 2 * t + 1 < ps.length
          · obtain ⟨u, hu⟩ : ∃ u : Nat, ps.length - 1 - t = u := ⟨_, rfl⟩
            have huI : (ps.length : Int) - 1 - (t : Int) = (u : Int) := by omega
            have hup : u < ps.length := by omega
            have htu : t < u := by omega
            have hne1 : ¬ t = u := by omega
            have hne2 : ¬ u = t := by omega
            have c1 := (hown2.out.cellAt t (by rw [Mk.revTo_length]; omega))
            have c2 := (hown2.out.cellAt u (by rw [Mk.revTo_length]; omega))
            obtain ⟨A, hA⟩ : ∃ A, (Mk.revTo ps t).getD t 0 = A := ⟨_, rfl⟩
            obtain ⟨C, hC⟩ : ∃ C, (Mk.revTo ps t).getD u 0 = C := ⟨_, rfl⟩
            rw [hA] at c1
            rw [hC] at c2
            have c11 := c1.1
            have c12 := c1.2
            have c21 := c2.1
            have c22 := c2.2
            have i1 : (0 : Int) ≤ (t : Int) := by omega
            have i2 : (t : Int) < (ps.length : Int) := by omega
            have i3 : (0 : Int) ≤ (u : Int) := by omega
            have i4 : (u : Int) < (ps.length : Int) := by omega
            have HA := hid hA
            have HC := hid hC
            have HU := hid hu
            have HO := hown2
            clear c1 c2 hA hC hu hown hown2 hsl
            go_wp2_with fail
            go_region
            go_wp2_with fail
            have hO1 := HO.out
            rw [← Mk.revTo_length ps t] at hO1
            have hO2 := hO1.stored t C
            have hO3 := hO2.stored u A
            simp only [List.length_set, Mk.revTo_length] at hO3
            have hrev := Mk.revTo_succ ps t hlt
            rw [HU.out, HA.out, HC.out] at hrev
            rw [hrev] at hO3
            refine ⟨⟨t + 1, by go_num, ?_, by omega, hO3.kept (dB _), ((hbel2.setCell (p := ⟨g, t, none⟩) hg1 _).setCell (p := ⟨g, u, none⟩) hg1 _).drew⟩, ?_⟩
            · congr 1; omega
            · simp [intOf]; omega
          · have hrev := Mk.revTo_end ps t (by omega)
            rw [hrev] at hown2
            have hge : ¬ ((t : Int) < (ps.length : Int) - 1 - (t : Int)) := by omega
            go_wp2_with fail
            go_ret2
            refine ⟨_, rfl, ?_, hbel2⟩
            unfold Mk.path
            rw [HDN.out]
            have h := hown2.out
            exact h
      · obtain rfl : ps = [] := List.eq_nil_of_length_eq_zero (by omega)
        obtain ⟨a', cap', hv, _⟩ := hown.out.sl
        subst hv
        go_wp2_with fail
        go_rounds 1
        go_ret2
        refine ⟨_, rfl, ?_, hbel⟩
        unfold Mk.path
        rw [HDN.out]
        exact hown.out
end Go.Proofs.Ytifpkhgcoopjnaa
