/- The law DigestLists: its call returns true. No conditions. -/
import Derived.Test.YtifpkhgcoopjnaaDigestLaws3
import Derived.Test.YtifpkhgcoopjnaaDigestInj
import Derived.Deep.RegionHeld3
import Derived.IntWalk
namespace Go.Proofs.Ytifpkhgcoopjnaa
open Go.RowKit

theorem bits_and_i64 (n : Int) (c : Nat) (hc : c < 9223372036854775808) : 0 ≤ bits .and .i64 n c ∧ bits .and .i64 n c ≤ c := by
  unfold bits
  show 0 ≤ IntKind.i64.wrap (((BitVec.ofInt 64 n &&& BitVec.ofInt 64 (c : Int)).toNat : Nat) : Int) ∧ IntKind.i64.wrap (((BitVec.ofInt 64 n &&& BitVec.ofInt 64 (c : Int)).toNat : Nat) : Int) ≤ c
  have e : (BitVec.ofInt 64 (c : Int)).toNat = c := by rw [BitVec.ofInt_natCast, BitVec.toNat_ofNat]; omega
  have h : (BitVec.ofInt 64 n &&& BitVec.ofInt 64 (c : Int)).toNat ≤ c := by
    rw [BitVec.toNat_and, e]; exact Nat.and_le_right
  rw [IntKind.wrap_i64]
  omega

theorem bounds_of_mem {xs : List Int} (hwf : ∀ x ∈ xs, (Lit.int .i64 x).wf = true) (k : Nat) (hk : k < xs.length) : -9223372036854775808 ≤ xs.getD k 0 ∧ xs.getD k 0 < 9223372036854775808 := by
  have h : xs.getD k 0 = xs[k] := by simp [List.getD, hk]
  rw [h]
  have := bounds_i64 (hwf _ (List.getElem_mem hk))
  omega

set_option maxRecDepth 100000 in
set_option maxHeartbeats 400000 in
theorem digestLists_true (a : Option Addr) (len cap : Nat) (zs : List Int) (i v : Int) (w : World) (hr : IsRow .i64 w a len cap zs) (hi : (Lit.int .i64 i).wf = true) (hv : (Lit.int .i64 v).wf = true) :
    Calls Try.prog 6 #[.slice a len cap, .int .i64 i, .int .i64 v] w fun e w' => e = .returned (.bool true) ∧ Below w.heap.size w w' := by
  obtain ⟨xs, rfl, hs, hwf⟩ := Sl.of_row hr
  have hvb := bounds_i64 hv
  clear hr hv hi
  by_cases hp : 0 < xs.length
  · by_cases hl : xs.length ≤ 60
    · have hd : decide ((60 : Int) < (xs.length : Int)) = false := by simp; omega
      have hz : ((xs.length : Int) == 0) = false := by rw [beq_eq_false_iff_ne]; omega
      have ha := bits_and_i64 i 63 (by omega)
      obtain ⟨m, hm⟩ : ∃ m : Nat, bits .and .i64 i 63 % (xs.length : Int) = m := ⟨(bits .and .i64 i 63 % (xs.length : Int)).toNat, by have := Int.emod_nonneg (bits .and .i64 i 63) (b := (xs.length : Int)) (by omega); omega⟩
      have hml : m < xs.length := by have := Int.emod_lt_of_pos (bits .and .i64 i 63) (b := (xs.length : Int)) (by omega); omega
      have ha0 : 0 ≤ bits .and .i64 i 63 := ha.1
      have ha1 : bits .and .i64 i 63 ≤ 63 := ha.2
      clear ha
      go_enter Try.func6, Try.ntmps6
      go_wp2_with fail
      refine (examples3_any _).mono ?_
      rintro e w1 ⟨rfl, b1⟩
      have hs1 := hs.stays b1
      have HS := hid hs1
      obtain ⟨a', cap', he, _, _, _, hne⟩ := hs1
      simp only [Value.slice.injEq] at he
      obtain ⟨rfl, _, rfl⟩ := he
      obtain ⟨b, o, rfl, hb, hc⟩ := hne hp
      have HC := hid hc
      clear hne hc hs
      go_wp2_with (at_builtin; go_must (refine wpList_appendI elInt rfl (.tmp 30) (.tmp 31) rfl w1.heap.size [] xs (.slice (some ⟨w1.heap.size, 0, none⟩) 0 0) (.slice (some ⟨b, o, none⟩) xs.length cap) rfl rfl (Own.empty _ _ _ w1 (Nat.le_refl _)) (HS.out.stays (aB w1 _)) (by simp; omega) (by simp) ?_); apply Hid.out)
      refine hid ?_
      intro v1 w2 ho1 hg1
      have hb2 : Below w1.heap.size w1 w2 := (aB w1 _).trans ((Own.empty w1.heap.size 3 .i64 w1 (Nat.le_refl _)).below hg1 (by simp))
      clear hg1
      obtain ⟨g, cap1, rfl, hg1, hg2, hc1, hc2⟩ := ho1.form hp
      have hcell := ho1.cellAt m hml
      have hcell1 := hcell.1
      have hcell2 := hcell.2
      clear hcell
      have HO1 := hid ho1; clear ho1
      have HC1 := hid hc1; clear hc1
      generalize hA : w2.setCell ⟨g, m, none⟩ (.int .i64 v) = A
      have HO2 : Hid (Own w1.heap.size 3 .i64 A (.slice (some ⟨g, 0, none⟩) xs.length cap1) (xs.set m v)) := by
        show Own _ _ _ _ _ _
        have h := HO1.out.stored m v
        rw [List.length_set] at h
        rw [← hA]; exact h
      have hbA : Below w1.heap.size w1 A := by rw [← hA]; exact hb2.setCell hg1 _
      have hzA : A.heap.size = w2.heap.size := by rw [← hA]; simp
      have HA := hid hA; clear hA
      have HZA := hid hzA; clear hzA
      go_wp2_with (at_builtin; apply Hid.out)
      refine hid ?_
      rw [HA.out, ← HZA.out]
      refine wpList_appendI elInt rfl (.tmp 37) (.tmp 42) rfl A.heap.size [] (xs.take (xs.length - 1)) (.slice (some ⟨A.heap.size, 0, none⟩) 0 0) (.slice (some ⟨b, o, none⟩) (xs.length - 1) cap) rfl rfl (Own.empty _ _ _ A (Nat.le_refl _)) (((HS.out.stays hbA).take _ (by omega)).stays (aB A _)) (by simp; omega) (by simp) ?_
      intro v3 w3 ho3 hg3
      have hb3 : Below A.heap.size A w3 := (aB A _).trans ((Own.empty A.heap.size 3 .i64 A (Nat.le_refl _)).below hg3 (by simp))
      clear hg3
      have HO3 := hid ho3; clear ho3
      go_wp2_with (at_builtin; apply Hid.out)
      refine hid ?_
      refine wpList_appendI elInt rfl (.tmp 43) (.tmp 45) rfl A.heap.size ([] ++ xs.take (xs.length - 1)) [v] v3 (.slice (some ⟨w3.heap.size, 0, none⟩) 1 1) rfl rfl (HO3.out.kept (aB w3 _)) (Sl.one _ w3 _ _) (by simp; omega) (by have := hb3.size; simp; omega) ?_
      intro v4 w4 ho4 hg4
      have hb4 : Below A.heap.size A w4 := (hb3.alloc hb3.size _).trans ((HO3.out.kept (aB w3 _)).below hg4 (by have := hb3.size; simp; omega))
      rw [List.nil_append, Dg.set_last xs v hp] at ho4
      have HO4 := hid ho4; clear ho4 hg4
      -- from here on all that is known is kept in short facts
      have hbW : Below w1.heap.size w1 w4 := hbA.trans (hb4.mono hbA.size)
      have S1 := hid (HS.out.stays hbW)
      have S2 : Hid (Sl .i64 w4 (.slice (some ⟨g, 0, none⟩) xs.length cap1) (xs.set m v)) := HO2.out.sl.stays hb4
      have S3 := hid HO4.out.sl
      have hgA : g < A.heap.size := by rw [HZA.out]; exact hg2
      have y1 : w4.cell? ⟨b, o + m, none⟩ = some (.int .i64 (xs.getD m 0)) := by rw [hbW.cell (p := ⟨b, o + m, none⟩) hb]; exact HC.out m hml
      have z1 : w4.cell? ⟨b, o + (xs.length - 1), none⟩ = some (.int .i64 (xs.getD (xs.length - 1) 0)) := by rw [hbW.cell (p := ⟨b, o + (xs.length - 1), none⟩) hb]; exact HC.out _ (by omega)
      have k1 : (I (Dg.words xs) == I (Dg.words (xs.set m v))) = (v == xs.getD m 0) := by
        have hy := bounds_of_mem hwf m hml
        rw [I_beq, Bool.eq_iff_iff, beq_iff_eq, beq_iff_eq, Dg.words_set xs m v hml]
        exact ⟨fun h => (Dg.B_inj64 hy.1 hy.2 hvb.1 (by omega) h).symm, fun h => by rw [h]⟩
      have k2 : (I (Dg.words xs) == I (Dg.words (xs.set (xs.length - 1) v))) = (v == xs.getD (xs.length - 1) 0) := by
        have hy := bounds_of_mem hwf (xs.length - 1) (by omega)
        rw [I_beq, Bool.eq_iff_iff, beq_iff_eq, beq_iff_eq, Dg.words_set xs (xs.length - 1) v (by omega)]
        exact ⟨fun h => (Dg.B_inj64 hy.1 hy.2 hvb.1 (by omega) h).symm, fun h => by rw [h]⟩
      obtain ⟨ra, ea⟩ : ∃ r, I (Dg.words xs) = r := ⟨_, rfl⟩
      obtain ⟨rb, eb⟩ : ∃ r, I (Dg.words (xs.set m v)) = r := ⟨_, rfl⟩
      obtain ⟨rc, ec⟩ : ∃ r, I (Dg.words (xs.set (xs.length - 1) v)) = r := ⟨_, rfl⟩
      obtain ⟨y, hy⟩ : ∃ y, xs.getD m 0 = y := ⟨_, rfl⟩
      obtain ⟨z, hz1⟩ : ∃ z, xs.getD (xs.length - 1) 0 = z := ⟨_, rfl⟩
      rw [hy] at y1 k1
      rw [hz1] at z1 k2
      rw [ea, eb] at k1
      rw [ea, ec] at k2
      have EA := hid ea
      have EB := hid eb
      have EC := hid ec
      have hbT : Below w1.heap.size w1 w4 := hbW
      clear ea eb ec hy hz1 HO1 HC1 hcell1 hcell2 HO2 HO3 HO4 hbA HA HZA hb3 hb4 hgA HS HC hwf hvb hb2 hg1 hg2 hc2 hbW
      go_wp2_with fail
      refine (words_at _ _ _ _ S1.out EA.out).mono ?_
      rintro e w' ⟨rfl, rfl⟩
      go_wp2_with fail
      refine (words_at _ _ _ _ S3.out EC.out).mono ?_
      rintro e w' ⟨rfl, rfl⟩
      go_wp2_with fail
      have n1 : (0 : Int) ≤ (m : Int) := by omega
      have n2 : (m : Int) < (xs.length : Int) := by omega
      have n3 : IntKind.i64.wrap ((xs.length : Int) - 1) = (xs.length : Int) - 1 := IntWalk.i64_in _ (by omega)
      have n4 : (0 : Int) ≤ (xs.length : Int) - 1 := by omega
      have n5 : (xs.length : Int) - 1 < (xs.length : Int) := by omega
      have n6 : ((xs.length : Int) - 1).toNat = xs.length - 1 := by omega
      have n7 : (1 : Int) ≤ (xs.length : Int) := by omega
      have hbb : ∀ x : Bool, (x == x) = true := by simp
      have hbs := Nat.lt_of_lt_of_le hb hbT.size
      go_region_held3 (fun w' => w'.cell? ⟨b, o + m, none⟩ = some (.int .i64 y) ∧ w'.cell? ⟨b, o + (xs.length - 1), none⟩ = some (.int .i64 z))
        (first | go_keep | (go_split_ands; have hh := (seqB (aB w4 _) (dB _)).trans hbel; exact ⟨(hh.cell (p := ⟨b, o + m, none⟩) hbs).trans y1, (hh.cell (p := ⟨b, o + (xs.length - 1), none⟩) hbs).trans z1⟩))
        (first
          | (refine step_appendI elInt (by rfl) (.tmp 64) (.tmp 65) (by rfl) w4.heap.size [] xs (.slice (some ⟨w4.heap.size, 0, none⟩) 0 0) (.slice (some ⟨b, o, none⟩) xs.length cap) (by rfl) (by rfl) (Own.empty _ _ _ _ (by simp)) (S1.out.stays (seqB (dB _) (aB _ _))) (by simp; omega) (by simp) ?_; intro v5 w5 ho5 hbel; (try rw [List.nil_append] at ho5))
          | (go_at_call 22; (with_reducible refine (words_at _ _ _ _ (S2.out.stays (dB _)) EB.out).mono ?_); rintro e w' ⟨rfl, rfl⟩)
          | (go_at_call 22; (with_reducible refine (words_at _ _ _ _ ho5.sl EA.out).mono ?_); rintro e w' ⟨rfl, rfl⟩))
      go_wp2
      go_ret
      exact ⟨rfl, seqB b1 (hbT.trans (((seqB (aB w4 _) (dB _)).trans hbel).mono hbT.size))⟩
    · have hd : decide ((60 : Int) < (xs.length : Int)) = true := by simp; omega
      have hz : ((xs.length : Int) == 0) = false := by rw [beq_eq_false_iff_ne]; omega
      clear hs hwf hvb
      go_enter Try.func6, Try.ntmps6
      go_wp2_with fail
      refine (examples3_any _).mono ?_
      rintro e w1 ⟨rfl, b1⟩
      go_wp2_with fail
      go_ret
      exact ⟨rfl, b1⟩
  · obtain rfl : xs = [] := List.eq_nil_of_length_eq_zero (by omega)
    clear hs hwf hvb hp
    go_enter Try.func6, Try.ntmps6
    go_wp2_with fail
    refine (examples3_any _).mono ?_
    rintro e w1 ⟨rfl, b1⟩
    go_wp2_with fail
    go_ret
    exact ⟨rfl, b1⟩
end Go.Proofs.Ytifpkhgcoopjnaa
