/- What the helpers of the Merkle laws compute: Same, Grown, open, check. Conditions: sizes. -/
import Derived.Test.YtifpkhgcoopjnaaCheck
namespace Go.Proofs.Ytifpkhgcoopjnaa
open Go.RowKit

set_option maxHeartbeats 400000 in
theorem same_any (v1 v2 : Value) (xs ys : List Int) (w : World) (hx : xs.length ≤ 1099511627776) (h1 : Sl .u64 w v1 xs) (h2 : Sl .u64 w v2 ys) :
    Calls Try.prog 36 #[v1, v2] w fun e w' => e = .returned (.bool (decide (xs = ys))) ∧ ∃ q, w' = w.drewN q := by
  obtain ⟨a1, cap1, rfl, _, _, _, hf1⟩ := h1
  obtain ⟨a2, cap2, rfl, _, _, _, hf2⟩ := h2
  by_cases hl : xs.length = ys.length
  · have hz : ((xs.length : Int) != (ys.length : Int)) = false := by simp [hl]
    have hz' : ((xs.length : Int) == (ys.length : Int)) = true := by simp [hl]
    by_cases hp : 0 < xs.length
    · obtain ⟨b1, o1, rfl, hb1, hc1⟩ := hf1 hp
      obtain ⟨b2, o2, rfl, hb2, hc2⟩ := hf2 (by omega)
      have HC1 := hid hc1
      have HC2 := hid hc2
      have HL := hid hl
      clear hc1 hc2 hf1 hf2 hl
      go_enter Try.func36, Try.ntmps36
      go_wp2
      go_loopw [5] (fun i wr => ∃ k : Nat, i = .int .i64 k ∧ k ≤ xs.length ∧ Hid (∀ j, j < k → xs.getD j 0 = ys.getD j 0) ∧ ∃ q, wr = w.drewN q) (fun i _ => xs.length - (intOf i).toNat)
      case atStart => exact ⟨0, rfl, by omega, fun j hj => by omega, 0, rfl⟩
      case round =>
        obtain ⟨k, rfl, hk, hpre, q, rfl⟩ := hrel
        by_cases hlt : k < xs.length
        · have hlt2 : k < ys.length := by rw [← HL.out]; exact hlt
          have c1 := HC1.out k hlt
          have c2 := HC2.out k hlt2
          obtain ⟨x, hx⟩ : ∃ x, xs.getD k 0 = x := ⟨_, rfl⟩
          obtain ⟨y, hy⟩ : ∃ y, ys.getD k 0 = y := ⟨_, rfl⟩
          rw [hx] at c1
          rw [hy] at c2
          have i1 : (0 : Int) ≤ (k : Int) := by omega
          have i2 : (k : Int) < (xs.length : Int) := by omega
          have i3 : (k : Int) < (ys.length : Int) := by omega
          have HX := hid hx
          have HY := hid hy
          clear hx hy
          by_cases hxy : x = y
          · have t1 : (x == y) = true := by simpa using hxy
            have t2 : (x != y) = false := by simpa using hxy
            clear hxy
            go_wp2
            go_quiet (fail)
            go_wp2
            refine ⟨⟨k + 1, by go_num, by omega, ?_, _, rfl⟩, by simp [intOf]; omega⟩
            intro j hj
            by_cases hjk : j = k
            · subst hjk; rw [HX.out, HY.out]; exact eq_of_beq t1
            · exact hpre.out j (by omega)
          · have t1 : (x == y) = false := by simpa using hxy
            have t2 : (x != y) = true := by simpa using hxy
            have hne : decide (xs = ys) = false := by
              rw [decide_eq_false_iff_not]
              rintro rfl
              exact hxy (HX.out.symm.trans HY.out)
            have HNE := hid hne
            clear hxy hne
            go_wp2
            go_quiet (fail)
            go_wp2
            go_ret
            exact ⟨by rw [HNE.out]; rfl, q + nq, by rw [World.drewN_drewN]⟩
        · have hke : k = xs.length := by omega
          subst hke
          have heq : decide (xs = ys) = true := by
            rw [decide_eq_true_iff]
            exact Mk.ext_getD HL.out hpre.out
          have HEQ := hid heq
          clear heq
          go_wp2
          go_ret
          exact ⟨by rw [HEQ.out]; rfl, _, rfl⟩
    · obtain rfl : xs = [] := List.eq_nil_of_length_eq_zero (by omega)
      obtain rfl : ys = [] := List.eq_nil_of_length_eq_zero (by simpa using hl.symm)
      clear hf1 hf2
      go_enter Try.func36, Try.ntmps36
      go_wp2
      go_rounds 1
      go_ret
      exact ⟨rfl, 0, rfl⟩
  · have hz : ((xs.length : Int) == (ys.length : Int)) = false := by rw [beq_eq_false_iff_ne]; omega
    have hz' : ((xs.length : Int) != (ys.length : Int)) = true := by simp; omega
    have hne : decide (xs = ys) = false := by rw [decide_eq_false_iff_not]; rintro rfl; exact hl rfl
    rw [hne]
    clear hf1 hf2 hne
    go_enter Try.func36, Try.ntmps36
    go_wp2
    go_ret
    exact ⟨rfl, 0, rfl⟩

/-- A store below the base of a row. -/
theorem Own.setOther {base : Nat} {e : TypeId} {k : IntKind} {w : World} {v : Value} {xs : List Int} (h : Own base e k w v xs) (p : Addr) (hp : p.block < base) (u : Value) : Own base e k (w.setCell p u) v xs := by
  obtain ⟨h1, h2⟩ := h
  refine ⟨h1, ?_⟩
  rcases h2 with h2 | ⟨g, cap, cur, rfl, hbg, hg, hn, hm, hc, ht⟩
  · exact .inl h2
  · exact .inr ⟨g, cap, cur, rfl, hbg, (Below.heap_setCell _ _ _ _ (by omega)).trans hg, hn, hm, hc, ht⟩

theorem openL_ok (v : Value) (xs : List Int) (i : Nat) (w : World) (hx : xs.length ≤ 4096) (hi : i < xs.length) (hs : Sl .u64 w v xs) :
    Calls Try.prog 34 #[v, .int .i64 i] w fun e w' => ∃ v', e = .returned (.agg #[v', .int .i64 0]) ∧ Own w.heap.size 22 .u64 w' v' (Mk.path xs i) ∧ Below w.heap.size w w' := by
  have cO := hid (open_any v xs i (w.alloc (.cells #[.slice none 0 0, .int .i64 0] 46)) hx hi (hs.stays (aB w _)))
  go_enter Try.func34, Try.ntmps34
  go_wp2_with fail
  refine cO.out.mono ?_
  rintro e w1 ⟨v', rfl, ho, hb⟩
  have hbk := (hb.block w.heap.size (by simp)).trans (heap_alloc_new w _)
  have k0 : w1.cell? ⟨w.heap.size, 0, none⟩ = some (.slice none 0 0) := by simp [World.cell?, hbk]
  have k1 : w1.cell? ⟨w.heap.size, 1, none⟩ = some (.int .i64 0) := by simp [World.cell?, hbk]
  have k2 : w1.frozen? ⟨w.heap.size, 0, none⟩ = false := by simp [World.frozen?, hbk]
  have k3 : w1.frozen? ⟨w.heap.size, 1, none⟩ = false := by simp [World.frozen?, hbk]
  obtain ⟨a', cap', rfl, _⟩ := ho.sl
  have HO := hid ho
  obtain ⟨n, hn⟩ : ∃ n, (Mk.path xs i).length = n := ⟨_, rfl⟩
  have HN := hid hn
  rw [hn] at HO ⊢
  clear hbk ho hn
  go_wp2_with fail
  have r0 : ((w1.setCell ⟨w.heap.size, 0, none⟩ (.slice a' n cap')).setCell ⟨w.heap.size, 1, none⟩ (.int .i64 0)).cell? ⟨w.heap.size, 0, none⟩ = some (.slice a' n cap') := by go_simp
  have r1 : ((w1.setCell ⟨w.heap.size, 0, none⟩ (.slice a' n cap')).setCell ⟨w.heap.size, 1, none⟩ (.int .i64 0)).cell? ⟨w.heap.size, 1, none⟩ = some (.int .i64 0) := by go_simp
  have hoW : Own w.heap.size 22 .u64 ((w1.setCell ⟨w.heap.size, 0, none⟩ (.slice a' n cap')).setCell ⟨w.heap.size, 1, none⟩ (.int .i64 0)) (.slice a' n cap') (Mk.path xs i) := ((HO.out.setOther ⟨w.heap.size, 0, none⟩ (by simp) _).setOther ⟨w.heap.size, 1, none⟩ (by simp) _).mono (by simp)
  have hbW : Below w.heap.size w ((w1.setCell ⟨w.heap.size, 0, none⟩ (.slice a' n cap')).setCell ⟨w.heap.size, 1, none⟩ (.int .i64 0)) := (((aB w _).trans (hb.mono (by simp))).setCell (p := ⟨w.heap.size, 0, none⟩) (Nat.le_refl _) _).setCell (p := ⟨w.heap.size, 1, none⟩) (Nat.le_refl _) _
  generalize ((w1.setCell ⟨w.heap.size, 0, none⟩ (.slice a' n cap')).setCell ⟨w.heap.size, 1, none⟩ (.int .i64 0)) = W at r0 r1 hoW hbW ⊢
  clear HO k0 k1 k2 k3 hb
  refine bodyPost_ret (by simp [results, Try.results34, go_sem, r0, r1]; try rfl) rfl ?_
  exact ⟨_, rfl, hoW, hbW⟩
theorem openL_bad (v : Value) (xs : List Int) (i : Int) (w : World) (hx : xs.length ≤ 1099511627776) (hp : Mk.place xs.length i ≠ 0) (hs : Sl .u64 w v xs) :
    Calls Try.prog 34 #[v, .int .i64 i] w fun e w' => e = .returned (.agg #[.slice none 0 0, .int .i64 (Mk.place xs.length i)]) ∧ Below w.heap.size w w' := by
  have cO := hid (open_bad v xs i (w.alloc (.cells #[.slice none 0 0, .int .i64 0] 46)) hx hp (hs.stays (aB w _)))
  go_enter Try.func34, Try.ntmps34
  go_wp2_with fail
  refine cO.out.mono ?_
  rintro e w1 ⟨rfl, rfl⟩
  go_wp2_with fail
  have r0 : (w.alloc (.cells #[.slice none 0 0, .int .i64 (Mk.place (xs.length : Int) i)] 46)).cell? ⟨w.heap.size, 0, none⟩ = some (.slice none 0 0) := by go_simp
  have r1 : (w.alloc (.cells #[.slice none 0 0, .int .i64 (Mk.place (xs.length : Int) i)] 46)).cell? ⟨w.heap.size, 1, none⟩ = some (.int .i64 (Mk.place (xs.length : Int) i)) := by go_simp
  have hbW : Below w.heap.size w (w.alloc (.cells #[.slice none 0 0, .int .i64 (Mk.place (xs.length : Int) i)] 46)) := aB w _
  generalize (w.alloc (.cells #[.slice none 0 0, .int .i64 (Mk.place (xs.length : Int) i)] 46)) = W at r0 r1 hbW ⊢
  refine bodyPost_ret (by simp [results, Try.results34, go_sem, r0, r1]; try rfl) rfl ?_
  exact ⟨rfl, hbW⟩
theorem checkL_any (root n i leaf : Int) (v : Value) (ps : List Int) (w : World) (hs : Sl .u64 w v ps) :
    Calls Try.prog 35 #[.int .u64 root, .int .i64 n, .int .i64 i, .agg #[.int .u64 leaf, v]] w fun e w' => e = .returned (.int .i64 (Mk.check root n i leaf ps)) ∧ Below w.heap.size w w' := by
  have cC := hid (check_any root n i leaf v ps (w.alloc (.cells #[.int .u64 leaf, v] 50)) (hs.stays (aB w _)))
  obtain ⟨a, cap, rfl, _⟩ := hs
  go_enter Try.func35, Try.ntmps35
  go_wp2_with fail
  refine cC.out.mono ?_
  rintro e w1 ⟨rfl, hb⟩
  go_wp2_with fail
  go_ret
  exact ⟨rfl, (aB w _).trans (hb.mono (by simp))⟩
end Go.Proofs.Ytifpkhgcoopjnaa
