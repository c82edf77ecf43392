/- The law DigestForged: its call returns true. No conditions. -/
import Derived.Test.YtifpkhgcoopjnaaDigestLists
import Derived.Test.YtifpkhgcoopjnaaOwn
import Derived.Test.YtifpkhgcoopjnaaDigestLaws1
namespace Go.Proofs.Ytifpkhgcoopjnaa
open Go.RowKit

theorem elInt : IntEl Try.prog 34 3 .i64 := IntEl.of Try.underlying34 (b := 8) (by kernel_rfl) (by omega)
theorem elU8 : IntEl Try.prog 32 5 .u8 := IntEl.of Try.underlying32 (b := 1) (by kernel_rfl) (by omega)

set_option maxRecDepth 100000 in
set_option maxHeartbeats 400000 in
theorem digestForged_true (a : Option Addr) (len cap : Nat) (zs : List Int) (want : Int) (w : World) (hr : IsRow .i64 w a len cap zs) (hw : (Lit.int .u64 want).wf = true) :
    Calls Try.prog 7 #[.slice a len cap, .int .u64 want] w fun e w' => e = .returned (.bool true) ∧ Below w.heap.size w w' := by
  obtain ⟨xs, rfl, hs, hwf⟩ := Sl.of_row hr
  obtain ⟨want, rfl⟩ := U_of_wf hw
  clear hr hw
  go_enter Try.func7, Try.ntmps7
  go_wp2_with fail
  refine (examples3_any _).mono ?_
  rintro e w1 ⟨rfl, b1⟩
  by_cases hl : xs.length ≤ 60
  · have hd : decide ((60 : Int) < (xs.length : Int)) = false := by simp; omega
    have hs1 := hs.stays b1
    have hne : 0 < xs.length → ∃ b o, a = some ⟨b, o, none⟩ ∧ ∀ i, i < xs.length → w1.cell? ⟨b, o + i, none⟩ = some (.int .i64 (xs.getD i 0)) := by
      obtain ⟨a', cap', he, _, _, _, h⟩ := hs1
      simp only [Value.slice.injEq] at he
      obtain ⟨rfl, _, rfl⟩ := he
      intro hp
      obtain ⟨b, o, h1, _, h2⟩ := h hp
      exact ⟨b, o, h1, h2⟩
    have hB : B 2611923443488327891 = 2611923443488327891#64 := by decide +kernel
    have HB := hid hB; clear hB
    have HNE := hid hne; clear hne
    have HS := hid hs1; clear hs hs1
    have hl2 : xs.length ≤ 60 := hl
    go_wp2_with (go_at_call 18; refine (step_any _ _ _).mono ?_; rintro e w' ⟨rfl, rfl⟩)
    go_loop [6, 7] (fun h i => ∃ k : Nat, k ≤ xs.length ∧ i = .int .i64 k ∧ h = .int .u64 (I (Dg.wordsFrom (xs.length + 1) (xs.take k)))) (fun _ i => xs.length - (intOf i).toNat)
    case atStart => exact ⟨0, by omega, rfl, by rw [HB.out]; rfl⟩
    case round =>
      obtain ⟨k, hk, rfl, rfl⟩ := hrel
      by_cases hlt : k < xs.length
      · obtain ⟨b, o, rfl, hc⟩ := HNE.out (by omega)
        have hck := hc k hlt
        clear hc
        go_wp2_with (go_at_call 18; refine (step_any _ _ _).mono ?_; rintro e w' ⟨rfl, rfl⟩)
        refine ⟨⟨k + 1, by omega, by go_num, ?_⟩, by simp [intOf]; omega⟩
        rw [take_snocD xs k 0 hlt, Dg.wordsFrom_snoc, B_I, wrap_u64, B_I]
        simp [List.getD, hlt]
      · obtain rfl : k = xs.length := by omega
        have hend : I (Dg.words (xs ++ [wrap64 (I (Dg.back (Dg.wordsFrom (xs.length + 1) xs) want))])) = I want := by
          unfold Dg.words
          rw [Dg.wordsFrom_snoc, List.length_append, List.length_singleton, B_wrap64', B_I, Dg.step_back]
        have HE := hid hend; clear hend
        have hB := B_I
        go_wp2_with (first | (go_at_call 17; refine (back_any _ _ _ (U_I _)).mono ?_; rintro e w' ⟨rfl, rfl⟩) | (at_builtin; go_must (refine wpList_appendI elInt rfl (.tmp 37) (.tmp 38) rfl w1.heap.size [] xs (.slice (some ⟨w1.heap.size, 0, none⟩) 0 0) (.slice a xs.length cap) rfl rfl (Own.empty _ _ _ w1 (Nat.le_refl _)) (HS.out.stays (aB w1 _)) (by simp; omega) (by simp) ?_); apply Hid.out))
        refine hid ?_
        intro v1 w2 ho1 hg1
        have hb2 : Below w1.heap.size w1 w2 := (aB w1 _).trans ((Own.empty w1.heap.size 3 .i64 w1 (Nat.le_refl _)).below hg1 (by simp))
        clear hg1
        go_wp2_with (at_builtin; go_must (refine wpList_appendI elInt rfl (.tmp 39) (.tmp 42) rfl w1.heap.size xs [wrap64 (I (Dg.back (Dg.wordsFrom (xs.length + 1) xs) want))] v1 (.slice (some ⟨w2.heap.size, 0, none⟩) 1 1) rfl rfl (ho1.kept (aB w2 _)) (Sl.one _ w2 _ _) (by simp; omega) (by have := hb2.size; simp; omega) ?_); apply Hid.out)
        refine hid ?_
        intro v2 w3 ho2 hg2
        have hb3 : Below w1.heap.size w1 w3 := (hb2.alloc hb2.size _).trans ((ho1.kept (aB w2 _)).below hg2 (by have := hb2.size; simp; omega))
        clear hg2 ho1
        go_wp2_with fail
        refine (words_at _ _ _ _ ho2.sl HE.out).mono ?_
        rintro e w' ⟨rfl, rfl⟩
        go_wp2_with fail
        go_ret
        exact ⟨rfl, seqB b1 hb3⟩
  · go_wp2_with fail
    go_ret
    exact ⟨rfl, b1⟩
end Go.Proofs.Ytifpkhgcoopjnaa
