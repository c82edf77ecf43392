/- What the reference's Check computes. No conditions. -/
import Derived.Test.YtifpkhgcoopjnaaMerkleRef3
import Derived.Test.YtifpkhgcoopjnaaCheck
namespace Go.Proofs.Ytifpkhgcoopjnaa
open Go.RowKit

set_option maxRecDepth 100000 in
set_option maxHeartbeats 1000000 in
theorem rcheck_any (root n i leaf : Int) (v : Value) (ps : List Int) (w : World) (hs : Sl .u64 w v ps) :
    Calls Try.prog 39 #[.int .u64 root, .int .i64 n, .int .i64 i, .agg #[.int .u64 leaf, v]] w fun e w' => e = .returned (.int .i64 (Mk.check root n i leaf ps)) ∧ Below w.heap.size w w' := by
  obtain ⟨p, hpe⟩ : ∃ p, Mk.place n i = p := ⟨_, rfl⟩
  have HS := hid hs
  obtain ⟨a, cap, rfl, _⟩ := hs
  by_cases hp : p = 0
  · subst hp
    obtain ⟨n', i', rfl, rfl, hi, hn⟩ := Mk.place_zero hpe
    have hck : Mk.check root n' i' leaf ps = Mk.checkAt root n' i' leaf ps := by unfold Mk.check; rw [if_pos hpe]; rfl
    have HCK := hid hck
    have HP := hid hpe
    have hsl := Mk.steps_length hi
    obtain ⟨L, hL⟩ : ∃ L, (Mk.steps n' i').length = L := ⟨_, rfl⟩
    have HL := hid hL
    rw [hL] at hsl
    have x0 : (w.alloc (.cells #[.int .u64 leaf, .slice a ps.length cap] 50)).cell? ⟨w.heap.size, 0, none⟩ = some (.int .u64 leaf) := by go_simp
    have x1 : (w.alloc (.cells #[.int .u64 leaf, .slice a ps.length cap] 50)).cell? ⟨w.heap.size, 1, none⟩ = some (.slice a ps.length cap) := by go_simp
    have bw : Below w.heap.size w (w.alloc (.cells #[.int .u64 leaf, .slice a ps.length cap] 50)) := aB w _
    clear hck hpe hL
    go_enter Try.func39, Try.ntmps39
    go_wp2_with fail
    generalize w.alloc (.cells #[.int .u64 leaf, .slice a ps.length cap] 50) = W at x0 x1 bw ⊢
    generalize w.heap.size = X at x0 x1 ⊢
    refine (rplace_any _ _ _).mono ?_
    rw [HP.out]
    rintro e w' ⟨rfl, rfl⟩
    have cS := hid (rsteps_ind n' n' i' W.drew (Nat.le_refl _) hn hi)
    have hlx := World.lt_of_cell x1
    by_cases hl : ps.length = L
    · have t1 : ((ps.length : Int) == (L : Int)) = true := by rw [beq_iff_eq]; omega
      have HLL := hid hl
      clear hl
      go_wp2_with fail
      go_region_held3 (fun u => u.cell? ⟨X, 1, none⟩ = some (.slice a ps.length cap))
        (first | exact x1 | exact (hst.cell (p := ⟨X, 1, none⟩) hlx).trans x1 | assumption)
        (first
          | (go_at_call 52; (with_reducible refine cS.out.mono ?_); rintro e w1 ⟨v1, rfl, ho1, b1⟩; have hst := seqB (dB W) b1; obtain ⟨sa, sc, rfl, _⟩ := ho1.form; rw [HL.out]))
      have y0 := (hst.cell (p := ⟨X, 0, none⟩) (World.lt_of_cell x0)).trans x0
      have y1 := (hst.cell (p := ⟨X, 1, none⟩) hlx).trans x1
      clear ho1 b1 cS x0 x1
      go_wp2_with fail
      refine (rpairs_any n' i' leaf (.slice a ps.length cap) ps w1 hn hi (HLL.out.trans HL.out.symm) ((HS.out.stays bw).stays hst)).mono ?_
      rintro e w2 ⟨v', rfl, hr, b2⟩
      have hB := seqB bw (seqB hst b2)
      have hln := Mk.pairs_length n' i' leaf ps
      rw [HL.out] at hln
      obtain ⟨g, gc, hv, hg0, hg1, hg2, hg3⟩ := hr.form (by omega)
      obtain ⟨m, hm⟩ : ∃ m, L + 1 = m := ⟨_, rfl⟩
      rw [hln, show L + 2 = m + 1 by omega] at hv
      subst hv
      have hc := hr.cells m (by omega)
      have hlast : (Mk.pairs n' i' leaf ps).getD m (0, 0) = ((n' : Int), Mk.upAt (Mk.steps n' i') ps leaf (Mk.steps n' i').length) := by
        unfold Mk.pairs
        rw [List.getD_eq_getElem?_getD, List.getElem?_append_right (by rw [Mk.pairsTo_length, HL.out]; omega), Mk.pairsTo_length, HL.out, hm, Nat.sub_self]
        rfl
      rw [hlast] at hc
      obtain ⟨u, hu⟩ : ∃ u, Mk.upAt (Mk.steps n' i') ps leaf (Mk.steps n' i').length = u := ⟨_, rfl⟩
      rw [hu] at hc
      have c1 : w2.cell? ⟨g, m * 2, none⟩ = some (.int .u64 n') := by rw [Nat.mul_comm]; exact hc.1
      have c2 : w2.cell? ⟨g, m * 2 + 1, none⟩ = some (.int .u64 u) := by rw [Nat.mul_comm]; exact hc.2
      have n1 : IntKind.i64.wrap (((m + 1 : Nat) : Int) - 1) = (m : Int) := by rw [IntWalk.i64_in _ (by omega)]; omega
      have n2 : (0 : Int) ≤ (m : Int) := by omega
      have n3 : (m : Int) < ((m + 1 : Nat) : Int) := by omega
      have n4 : IntKind.i64.wrap ((m : Int) + 1 - 1) = (m : Int) := by rw [IntWalk.i64_in _ (by omega)]; omega
      have n6 : IntKind.i64.wrap (m : Int) = (m : Int) := IntWalk.i64_in _ (by omega)
      have n5 : (m : Int) < (m : Int) + 1 := by omega
      have HH := hid (And.intro hu hB)
      have z2 := aB w2 (.cells #[.int .u64 n', .int .u64 u] 59)
      clear hc hlast hr hu hB b2 hln hm hg2 hg3 hsl hst bw y0 y1
      obtain ⟨j, hje⟩ : ∃ j, Mk.joinI ((n' : Int), u) = j := ⟨_, rfl⟩
      have hj : ∀ (w : World), Calls Try.prog 26 #[.int .u64 n', .int .u64 u] w fun e w' => e = .returned (.int .u64 j) ∧ w' = w := fun w => (rjoin_any _ _ _).mono (by rintro e w' ⟨rfl, rfl⟩; exact ⟨by rw [← hje]; rfl, rfl⟩)
      have HJ := hid hje
      have HJC := hid hj
      clear hje hj
      by_cases hroot : j = root
      · have t1 : (j == root) = true := by simpa using hroot
        have t2 : (j != root) = false := by simpa using hroot
        go_wp2_with fail
        refine (HJC.out _).mono ?_
        rintro e w' ⟨rfl, rfl⟩
        go_wp2_with fail
        go_ret
        obtain ⟨h2, h3⟩ := HH.out
        refine ⟨?_, h3.trans (z2.mono h3.size)⟩
        rw [HCK.out]
        unfold Mk.checkAt
        rw [if_pos ⟨HLL.out.trans HL.out.symm, by rw [h2, HJ.out]; exact hroot⟩]
        rfl
      · have t1 : (j == root) = false := by simpa using hroot
        have t2 : (j != root) = true := by simpa using hroot
        go_wp2_with fail
        refine (HJC.out _).mono ?_
        rintro e w' ⟨rfl, rfl⟩
        go_wp2_with fail
        go_ret
        obtain ⟨h2, h3⟩ := HH.out
        refine ⟨?_, h3.trans (z2.mono h3.size)⟩
        rw [HCK.out]
        unfold Mk.checkAt
        rw [if_neg (by rintro ⟨_, h⟩; rw [h2, HJ.out] at h; exact hroot h)]
        rfl
    · have t1 : ((ps.length : Int) == (L : Int)) = false := by rw [beq_eq_false_iff_ne]; omega
      have HLL := hid hl
      clear hl
      go_wp2_with fail
      go_region_held3 (fun u => u.cell? ⟨X, 1, none⟩ = some (.slice a ps.length cap))
        (first | exact x1 | exact (hst.cell (p := ⟨X, 1, none⟩) hlx).trans x1 | assumption)
        (first
          | (go_at_call 52; (with_reducible refine cS.out.mono ?_); rintro e w1 ⟨v1, rfl, ho1, b1⟩; have hst := seqB (dB W) b1; obtain ⟨sa, sc, rfl, _⟩ := ho1.form; rw [HL.out]))
      go_wp2_with fail
      go_ret
      refine ⟨?_, seqB bw hst⟩
      rw [HCK.out]
      unfold Mk.checkAt
      rw [if_neg (by rintro ⟨h, _⟩; exact HLL.out (h.trans HL.out))]
      rfl
  · have hck : Mk.check root n i leaf ps = p := by unfold Mk.check; rw [hpe, if_neg hp]
    have hp1 : (p == 0) = false := by simpa using hp
    rw [hck]
    have HP := hid hpe
    clear hck hpe hp
    go_enter Try.func39, Try.ntmps39
    go_wp2_with fail
    refine (rplace_any _ _ _).mono ?_
    rw [HP.out]
    rintro e w' ⟨rfl, rfl⟩
    go_wp2_with fail
    go_ret
    exact ⟨rfl, aB w _⟩
end Go.Proofs.Ytifpkhgcoopjnaa
