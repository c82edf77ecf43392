/- The law DigestBytes: its call returns true. No conditions. -/
import Derived.Test.YtifpkhgcoopjnaaDigestLaws4
import Derived.Test.YtifpkhgcoopjnaaDigestInjB
namespace Go.Proofs.Ytifpkhgcoopjnaa
open Go.RowKit

theorem bytes_at (v : Value) (xs : List Int) (r : Int) (w : World) (hs : Sl .u8 w v xs) (e : I (Dg.bytes xs) = r) :
    Calls Try.prog 23 #[v] w fun e w' => e = .returned (.int .u64 r) ∧ Below w.heap.size w w' := e ▸ bytes_any v xs w hs
theorem bytes_of_wf {xs : List Int} (h : ∀ x ∈ xs, (Lit.int .u8 x).wf = true) : Dg.Bytes xs := fun x hx => by
  have := bounds_u8 (h x hx); unfold Dg.IsByte; omega

set_option maxRecDepth 100000 in
set_option maxHeartbeats 400000 in
theorem digestBytes_true (a : Option Addr) (len cap : Nat) (zs : List Int) (i v : Int) (w : World) (hr : IsRow .u8 w a len cap zs) (hi : (Lit.int .i64 i).wf = true) (hv : (Lit.int .u8 v).wf = true) :
    Calls Try.prog 8 #[.slice a len cap, .int .i64 i, .int .u8 v] w fun e w' => e = .returned (.bool true) ∧ Below w.heap.size w w' := by
  obtain ⟨xs, rfl, hs, hwf⟩ := Sl.of_row hr
  have hvb := bounds_u8 hv
  have hwb := bytes_of_wf hwf
  clear hr hv hi hwf
  by_cases hp : 0 < xs.length
  · by_cases hl : xs.length ≤ 200
    · have hd : decide ((200 : Int) < (xs.length : Int)) = false := by simp; omega
      have hz : ((xs.length : Int) == 0) = false := by rw [beq_eq_false_iff_ne]; omega
      have ha := bits_and_i64 i 1023 (by omega)
      obtain ⟨m, hm⟩ : ∃ m : Nat, bits .and .i64 i 1023 % (xs.length : Int) = m := ⟨(bits .and .i64 i 1023 % (xs.length : Int)).toNat, by have := Int.emod_nonneg (bits .and .i64 i 1023) (b := (xs.length : Int)) (by omega); omega⟩
      have hml : m < xs.length := by have := Int.emod_lt_of_pos (bits .and .i64 i 1023) (b := (xs.length : Int)) (by omega); omega
      have ha0 : 0 ≤ bits .and .i64 i 1023 := ha.1
      have ha1 : bits .and .i64 i 1023 ≤ 1023 := ha.2
      have k1 : (I (Dg.bytes xs) == I (Dg.bytes (xs.set m v))) = (v == xs.getD m 0) := by
        rw [I_beq, Bool.eq_iff_iff, beq_iff_eq, beq_iff_eq]
        exact Dg.bytes_set xs m v hml hwb ⟨hvb.1, by omega⟩
      have k2 : xs.length < 8 → (I (Dg.bytes xs) != I (Dg.bytes (xs ++ [0]))) = true := fun h8 => by
        rw [I_bne, bne_iff_ne]; exact Dg.bytes_short xs hp h8
      clear ha
      go_enter Try.func8, Try.ntmps8
      go_wp2_with fail
      refine (examples3_any _).mono ?_
      rintro e w1 ⟨rfl, b1⟩
      have hs1 := hs.stays b1
      have HS := hid hs1
      obtain ⟨a', cap', he, _, _, _, hne⟩ := hs1
      simp only [Value.slice.injEq] at he
      obtain ⟨rfl, _, rfl⟩ := he
      obtain ⟨b, o, rfl, hb, hc⟩ := hne hp
      have HC := hid hc
      have HK2 := hid k2
      clear hne hc hs k2
      go_wp2_with (at_builtin; go_must (refine wpList_appendI elU8 rfl (.tmp 27) (.tmp 28) rfl w1.heap.size [] xs (.slice (some ⟨w1.heap.size, 0, none⟩) 0 0) (.slice (some ⟨b, o, none⟩) xs.length cap) rfl rfl (Own.empty _ _ _ w1 (Nat.le_refl _)) (HS.out.stays (aB w1 _)) (by simp; omega) (by simp) ?_); apply Hid.out)
      refine hid ?_
      intro v1 w2 ho1 hg1
      have hb2 : Below w1.heap.size w1 w2 := (aB w1 _).trans ((Own.empty w1.heap.size 5 .u8 w1 (Nat.le_refl _)).below hg1 (by simp))
      clear hg1
      obtain ⟨g, cap1, rfl, hg1, hg2, hc1, hc2⟩ := ho1.form hp
      have hcell := ho1.cellAt m hml
      have hcell1 := hcell.1
      have hcell2 := hcell.2
      have HO2 := ho1.stored m v
      rw [List.length_set] at HO2
      have S2 := hid HO2.sl
      have hbA : Below w1.heap.size w1 (w2.setCell ⟨g, m, none⟩ (.int .u8 v)) := hb2.setCell hg1 _
      have y1 : (w2.setCell ⟨g, m, none⟩ (.int .u8 v)).cell? ⟨b, o + m, none⟩ = some (.int .u8 (xs.getD m 0)) := by rw [hbA.cell (p := ⟨b, o + m, none⟩) hb]; exact HC.out m hml
      have Y1 := hid y1
      have HC1 := hid hc1
      clear hcell hc1 ho1 HO2 y1
      obtain ⟨ra, ea⟩ : ∃ r, I (Dg.bytes xs) = r := ⟨_, rfl⟩
      obtain ⟨rb, eb⟩ : ∃ r, I (Dg.bytes (xs.set m v)) = r := ⟨_, rfl⟩
      obtain ⟨y, hy⟩ : ∃ y, xs.getD m 0 = y := ⟨_, rfl⟩
      rw [ea, eb, hy] at k1
      rw [hy] at Y1
      have EA := hid ea
      have EB := hid eb
      clear ea eb hy
      go_wp2_with fail
      generalize w2.setCell ⟨g, m, none⟩ (.int .u8 v) = A at S2 hbA Y1 ⊢
      have n1 : (0 : Int) ≤ (m : Int) := by omega
      have n2 : (m : Int) < (xs.length : Int) := by omega
      have hbb : ∀ x : Bool, (x == x) = true := by simp
      have hbs : b < A.heap.size := Nat.lt_of_lt_of_le hb hbA.size
      have HSA := hid (HS.out.stays hbA)
      clear hcell1 hcell2 hg2 hc2 HC1 hg1 hb2 HC hwb hvb hm hml ha0 ha1 HS
      go_region_held3 (fun w' => w'.cell? ⟨b, o + m, none⟩ = some (.int .u8 y))
        (first | exact Y1.out | exact (b3.cell (p := ⟨b, o + m, none⟩) hbs).trans Y1.out | exact ((seqB b3 b4).cell (p := ⟨b, o + m, none⟩) hbs).trans Y1.out)
        (first
          | (go_at_call 23; (with_reducible refine (bytes_at _ _ _ _ (HSA.out.stays (dB _)) EA.out).mono ?_); rintro e w3 ⟨rfl, b3⟩)
          | (go_at_call 23; (with_reducible refine (bytes_at _ _ _ _ ((S2.out.stays (dB _)).stays b3) EB.out).mono ?_); rintro e w4 ⟨rfl, b4⟩))
      by_cases h8 : xs.length < 8
      · have h8' : decide ((8 : Int) ≤ (xs.length : Int)) = false := by simp; omega
        obtain ⟨rd, ed⟩ : ∃ r, I (Dg.bytes (xs ++ [0])) = r := ⟨_, rfl⟩
        have hk2 := HK2.out h8
        rw [EA.out, ed] at hk2
        have ED := hid ed
        have S5 := hid (HSA.out.stays (seqB (dB _) (seqB b3 b4)))
        have hb5 := seqB (dB A) (seqB b3 b4)
        clear ed
        go_wp2_with fail
        refine (bytes_at _ _ _ _ S5.out EA.out).mono ?_
        rintro e w5 ⟨rfl, b5⟩
        have S6 := hid (S5.out.stays b5)
        go_wp2_with (at_builtin; apply Hid.out)
        refine hid ?_
        refine wpList_appendI elU8 rfl (.tmp 52) (.tmp 53) rfl w5.heap.size [] xs (.slice (some ⟨w5.heap.size, 0, none⟩) 0 0) (.slice (some ⟨b, o, none⟩) xs.length cap) rfl rfl (Own.empty _ _ _ w5 (Nat.le_refl _)) (S6.out.stays (aB w5 _)) (by simp; omega) (by simp) ?_
        intro v6 w6 ho6 hg6
        have b6 : Below w5.heap.size w5 w6 := (aB w5 _).trans ((Own.empty w5.heap.size 5 .u8 w5 (Nat.le_refl _)).below hg6 (by simp))
        have HO6 := hid ho6
        clear hg6 ho6
        go_wp2_with (at_builtin; apply Hid.out)
        refine hid ?_
        refine wpList_appendI elU8 rfl (.tmp 54) (.tmp 55) rfl w5.heap.size ([] ++ xs) [0] v6 (.slice (some ⟨w6.heap.size, 0, none⟩) 1 1) rfl rfl (HO6.out.kept (aB w6 _)) (Sl.one _ w6 _ _) (by simp; omega) (by have := b6.size; simp; omega) ?_
        intro v7 w7 ho7 hg7
        have b7 : Below w5.heap.size w5 w7 := (b6.alloc b6.size _).trans ((HO6.out.kept (aB w6 _)).below hg7 (by have := b6.size; simp; omega))
        rw [List.nil_append] at ho7
        have S7 := hid ho7.sl
        clear hg7 ho7
        go_wp2_with fail
        refine (bytes_at _ _ _ _ S7.out ED.out).mono ?_
        rintro e w8 ⟨rfl, b8⟩
        go_wp2_with fail
        go_ret
        exact ⟨rfl, seqB b1 (hbA.trans ((seqB hb5 (seqB b5 (seqB b7 b8))).mono hbA.size))⟩
      · have h8' : decide ((8 : Int) ≤ (xs.length : Int)) = true := by simp; omega
        go_wp2
        go_ret
        exact ⟨rfl, seqB b1 (hbA.trans ((seqB (dB A) (seqB b3 b4)).mono hbA.size))⟩
    · have hd : decide ((200 : Int) < (xs.length : Int)) = true := by simp; omega
      have hz : ((xs.length : Int) == 0) = false := by rw [beq_eq_false_iff_ne]; omega
      clear hs hwb hvb
      go_enter Try.func8, Try.ntmps8
      go_wp2_with fail
      refine (examples3_any _).mono ?_
      rintro e w1 ⟨rfl, b1⟩
      go_wp2_with fail
      go_ret
      exact ⟨rfl, b1⟩
  · obtain rfl : xs = [] := List.eq_nil_of_length_eq_zero (by omega)
    clear hs hwb hvb hp
    go_enter Try.func8, Try.ntmps8
    go_wp2_with fail
    refine (examples3_any _).mono ?_
    rintro e w1 ⟨rfl, b1⟩
    go_wp2_with fail
    go_ret
    exact ⟨rfl, b1⟩
end Go.Proofs.Ytifpkhgcoopjnaa
