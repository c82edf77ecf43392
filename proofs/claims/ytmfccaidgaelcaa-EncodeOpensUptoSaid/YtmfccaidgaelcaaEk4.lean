/- Whether an opening is accepted. No conditions. -/
import Derived.Test.YtmfccaidgaelcaaEk3
import Derived.Deep.RegionHeld3
import Derived.IntWalk
set_option linter.unusedVariables false
set_option linter.unusedSimpArgs false
namespace Go.Proofs.Ytmfccaidgaelcaa.Old
open Go.RowKit
open Go.Proofs.Ytmfccaidgaelcaa.Mk (I B)

theorem drewB' (w : World) (q b : Nat) : Below b w (w.drewN q) := ⟨rfl, rfl, rfl, Nat.le_refl _, fun _ _ => rfl⟩

set_option maxRecDepth 100000 in
set_option maxHeartbeats 1000000 in
theorem check_any (root n i leaf : Int) (v : Value) (ps : List Int) (w : World) (hs : Sl .u64 w v ps) :
    Calls Try.prog 32 #[.int .u64 root, .int .i64 n, .int .i64 i, .int .u64 leaf, v] w fun e w' => e = .returned (.int .i64 (Mk.check root n i leaf ps)) ∧ Below w.heap.size w w' := by
  obtain ⟨p, hpe⟩ : ∃ p, Mk.place n i = p := ⟨_, rfl⟩
  by_cases hp : p = 0
  · subst hp
    obtain ⟨n', i', rfl, rfl, hi, hn⟩ := Mk.place_zero hpe
    have hck : Mk.check root n' i' leaf ps = Mk.checkAt root n' i' leaf ps := by unfold Mk.check; rw [if_pos hpe]; rfl
    have HCK := hid hck
    have HP := hid hpe
    have HS := hid hs
    clear hck hpe hs
    go_enter Try.func32, Try.ntmps32
    go_wp2_with fail
    refine (place_any _ _ _).mono ?_
    rw [HP.out]
    rintro e w' ⟨rfl, rfl⟩
    go_wp2_with fail
    refine (pairs_any n' i' leaf v ps w hn hi HS.out).mono ?_
    rintro e w1 ⟨v', rfl, ho, hb⟩
    by_cases hl : ps.length = (Mk.steps n' i').length
    · have hd : decide (ps.length = (Mk.steps n' i').length) = true := by simpa using hl
      have hr := ho hl
      have hln := Mk.pairs_length n' i' leaf ps
      have hsl := Mk.steps_length hi
      obtain ⟨g, gc, hv, hg0, hg1, hg2, hg3⟩ := hr.form (by omega)
      obtain ⟨m, hm⟩ : ∃ m, (Mk.steps n' i').length + 1 = m := ⟨_, rfl⟩
      rw [hln, show (Mk.steps n' i').length + 2 = m + 1 by omega] at hv
      subst hv
      have hc := hr.cells m (by omega)
      have hlast : (Mk.pairs n' i' leaf ps).getD m (0, 0) = ((n' : Int), Mk.upAt (Mk.steps n' i') ps leaf (Mk.steps n' i').length) := by
        unfold Mk.pairs
        rw [List.getD_eq_getElem?_getD, List.getElem?_append_right (by rw [Mk.pairsTo_length]; omega), Mk.pairsTo_length, hm, Nat.sub_self]
        rfl
      rw [hlast] at hc
      obtain ⟨u, hu⟩ : ∃ u, Mk.upAt (Mk.steps n' i') ps leaf (Mk.steps n' i').length = u := ⟨_, rfl⟩
      rw [hu] at hc
      have c1 : w1.cell? ⟨g, m * 2, none⟩ = some (.int .u64 n') := by rw [Nat.mul_comm]; exact hc.1
      have c2 : w1.cell? ⟨g, m * 2 + 1, none⟩ = some (.int .u64 u) := by rw [Nat.mul_comm]; exact hc.2
      have n1 : IntKind.i64.wrap (((m + 1 : Nat) : Int) - 1) = (m : Int) := by rw [IntWalk.i64_in _ (by omega)]; omega
      have n2 : (0 : Int) ≤ (m : Int) := by omega
      have n3 : (m : Int) < ((m + 1 : Nat) : Int) := by omega
      have n4 : IntKind.i64.wrap ((m : Int) + 1 - 1) = (m : Int) := by rw [IntWalk.i64_in _ (by omega)]; omega
      have n6 : IntKind.i64.wrap (m : Int) = (m : Int) := IntWalk.i64_in _ (by omega)
      have n5 : (m : Int) < (m : Int) + 1 := by omega
      have HH := hid (And.intro hl (And.intro hu hb))
      clear hc hlast hr ho hl hu hb hln hm hg2 hg3 hsl
      rw [hd]
      clear hd
      have hj : ∀ (w : World), Calls Try.prog 58 #[.int .u64 n', .int .u64 u] w fun e w' => e = .returned (.int .u64 (Mk.joinI (n', u))) ∧ w' = w := fun w => (join_any _ _ _).mono (by rintro e w' ⟨rfl, rfl⟩; exact ⟨rfl, rfl⟩)
      obtain ⟨j, hje⟩ : ∃ j, Mk.joinI ((n' : Int), u) = j := ⟨_, rfl⟩
      rw [hje] at hj
      have HJ := hid hje
      have HJC := hid hj
      clear hje hj
      by_cases hroot : j = root
      · have t1 : (j == root) = true := by simpa using hroot
        have t2 : (j != root) = false := by simpa using hroot
        go_wp2_with fail
        go_quiet ((go_at_call 58; exact Calls.quiet_of_same (HJC.out _)))
        go_wp2_with fail
        go_ret
        obtain ⟨h1, h2, h3⟩ := HH.out
        refine ⟨?_, h3.trans (drewB' w1 nq _)⟩
        rw [HCK.out]
        unfold Mk.checkAt
        rw [if_pos ⟨h1, by rw [h2, HJ.out]; exact hroot⟩]
        rfl
      · have t1 : (j == root) = false := by simpa using hroot
        have t2 : (j != root) = true := by simpa using hroot
        go_wp2_with fail
        go_quiet ((go_at_call 58; exact Calls.quiet_of_same (HJC.out _)))
        go_wp2_with fail
        go_ret
        obtain ⟨h1, h2, h3⟩ := HH.out
        refine ⟨?_, h3.trans (drewB' w1 nq _)⟩
        rw [HCK.out]
        unfold Mk.checkAt
        rw [if_neg (by rintro ⟨_, h⟩; rw [h2, HJ.out] at h; exact hroot h)]
        rfl
    · have hd : decide (ps.length = (Mk.steps n' i').length) = false := by simpa using hl
      rw [hd]
      have HH := hid (And.intro hl hb)
      clear ho hl hb hd
      go_wp2_with fail
      go_quiet (fail)
      go_wp2_with fail
      go_ret
      obtain ⟨h1, h3⟩ := HH.out
      refine ⟨?_, h3.trans (drewB' w1 nq _)⟩
      rw [HCK.out]
      unfold Mk.checkAt
      rw [if_neg (by rintro ⟨h, _⟩; exact h1 h)]
      rfl
  · have hck : Mk.check root n i leaf ps = p := by unfold Mk.check; rw [hpe, if_neg hp]
    have hp1 : (p == 0) = false := by simpa using hp
    rw [hck]
    have HP := hid hpe
    clear hck hpe hp hs
    go_enter Try.func32, Try.ntmps32
    go_wp2_with fail
    refine (place_any _ _ _).mono ?_
    rw [HP.out]
    rintro e w' ⟨rfl, rfl⟩
    go_wp2_with fail
    go_ret
    exact ⟨rfl, Below.refl _ _⟩
end Go.Proofs.Ytmfccaidgaelcaa.Old
