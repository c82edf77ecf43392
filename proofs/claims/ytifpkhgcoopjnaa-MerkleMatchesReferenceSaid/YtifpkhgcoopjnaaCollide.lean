/- What Collide computes. No conditions. -/
import Derived.Test.YtifpkhgcoopjnaaCollidePure
import Derived.RegionTactic
import Derived.Laws.StructEq
namespace Go.Proofs.Ytifpkhgcoopjnaa
open Go.RowKit

theorem OwnP.cells2 {base : Nat} {w : World} {g n cap : Nat} {l : List (Int × Int)} (h : OwnP base w (.slice (some ⟨g, 0, none⟩) n cap) l) (i : Nat) (hi : i < l.length) :
    w.cell? ⟨g, i * 2, none⟩ = some (.int .u64 (l.getD i (0, 0)).1) ∧ w.cell? ⟨g, i * 2 + 1, none⟩ = some (.int .u64 (l.getD i (0, 0)).2) := by
  rw [Nat.mul_comm]; exact h.cells i hi

theorem eqPr (a b c d : Int) (w : World) : (Op.equalIn 10000 59 (.agg #[.int .u64 a, .int .u64 b]) (.agg #[.int .u64 c, .int .u64 d])).run Try.prog w = .ok (a == c && b == d) w := by
  have u3 := Try.underlying22
  have a3 := Try.isAgg22
  have z3 := Try.sizeOf22
  rw [show (10000 : Nat) = 9999 + 1 from rfl, Op.equalIn]
  simp only [Sem.run_bind, run_underlying Try.underlying59, Result.andThen_ok]
  simp only [Std.Legacy.Range.forIn_eq_forIn_range', Std.Legacy.Range.size, Nat.sub_zero, Nat.add_sub_cancel, Nat.div_one, List.range'_succ, List.range'_zero, List.forIn_cons, List.forIn_nil]
  go_simp
  by_cases h1 : a = c <;> by_cases h2 : b = d <;> simp [h1, h2]
theorem guardPr : Try.prog.eqGuardType Try.prog.depth 59 = false := by kernel_rfl
attribute [local go_sem] eqPr guardPr

set_option maxRecDepth 100000 in
set_option maxHeartbeats 1000000 in
theorem collide_any (n i l1 l2 : Int) (v1 v2 : Value) (ps1 ps2 : List Int) (w : World) (h1 : Sl .u64 w v1 ps1) (h2 : Sl .u64 w v2 ps2) :
    Calls Try.prog 40 #[.int .i64 n, .int .i64 i, .agg #[.int .u64 l1, v1], .agg #[.int .u64 l2, v2]] w fun e w' => e = .returned (.tuple #[Mk.hitV (Mk.collide n i l1 ps1 l2 ps2), .bool (Mk.collide n i l1 ps1 l2 ps2).isSome]) ∧ Below w.heap.size w w' := by
  obtain ⟨p, hpe⟩ : ∃ p, Mk.place n i = p := ⟨_, rfl⟩
  have H1 := hid h1
  have H2 := hid h2
  obtain ⟨a1, c1, rfl, _⟩ := h1
  obtain ⟨a2, c2, rfl, _⟩ := h2
  by_cases hp : p = 0
  · subst hp
    obtain ⟨n', i', rfl, rfl, hi, hn⟩ := Mk.place_zero hpe
    have HP := hid hpe
    have hco : Mk.collide n' i' l1 ps1 l2 ps2 = Mk.collideAt n' i' l1 ps1 l2 ps2 := by unfold Mk.collide; rw [if_pos hpe]; rfl
    rw [hco]
    clear hco hpe
    go_enter Try.func40, Try.ntmps40
    go_wp2_with fail
    refine (place_any _ _ _).mono ?_
    rw [HP.out]
    rintro e w' ⟨rfl, rfl⟩
    go_wp2_with fail
    have q1 : (((w.alloc (.cells #[.int .u64 l1, .slice a1 ps1.length c1] 50)).alloc (.cells #[.int .u64 l2, .slice a2 ps2.length c2] 50)).alloc (.cells #[.int .u64 0, .int .u64 0, .int .u64 0, .int .u64 0] 60)).cell? ⟨w.heap.size + 1, 0, none⟩ = some (.int .u64 l2) := by go_simp
    have q2 : (((w.alloc (.cells #[.int .u64 l1, .slice a1 ps1.length c1] 50)).alloc (.cells #[.int .u64 l2, .slice a2 ps2.length c2] 50)).alloc (.cells #[.int .u64 0, .int .u64 0, .int .u64 0, .int .u64 0] 60)).cell? ⟨w.heap.size + 1, 1, none⟩ = some (.slice a2 ps2.length c2) := by go_simp
    have q3 : (((w.alloc (.cells #[.int .u64 l1, .slice a1 ps1.length c1] 50)).alloc (.cells #[.int .u64 l2, .slice a2 ps2.length c2] 50)).alloc (.cells #[.int .u64 0, .int .u64 0, .int .u64 0, .int .u64 0] 60)).heap[w.heap.size + 1 + 1]? = some (.cells #[.int .u64 0, .int .u64 0, .int .u64 0, .int .u64 0] 60 (0, 0)) := by
      have h := heap_alloc_new ((w.alloc (.cells #[.int .u64 l1, .slice a1 ps1.length c1] 50)).alloc (.cells #[.int .u64 l2, .slice a2 ps2.length c2] 50)) (.cells #[.int .u64 0, .int .u64 0, .int .u64 0, .int .u64 0] 60)
      simp only [World.size_alloc] at h
      exact h
    have bW0 : Below w.heap.size w (((w.alloc (.cells #[.int .u64 l1, .slice a1 ps1.length c1] 50)).alloc (.cells #[.int .u64 l2, .slice a2 ps2.length c2] 50)).alloc (.cells #[.int .u64 0, .int .u64 0, .int .u64 0, .int .u64 0] 60)) := seqB (aB w _) (seqB (aB _ _) (aB _ _))
    have zW0 : (((w.alloc (.cells #[.int .u64 l1, .slice a1 ps1.length c1] 50)).alloc (.cells #[.int .u64 l2, .slice a2 ps2.length c2] 50)).alloc (.cells #[.int .u64 0, .int .u64 0, .int .u64 0, .int .u64 0] 60)).heap.size = w.heap.size + 1 + 1 + 1 := by simp
    generalize (((w.alloc (.cells #[.int .u64 l1, .slice a1 ps1.length c1] 50)).alloc (.cells #[.int .u64 l2, .slice a2 ps2.length c2] 50)).alloc (.cells #[.int .u64 0, .int .u64 0, .int .u64 0, .int .u64 0] 60)) = W0 at q1 q2 q3 bW0 zW0 ⊢
    refine (pairs_any n' i' l1 _ ps1 W0 hn hi (H1.out.stays bW0)).mono ?_
    rintro e w1 ⟨va, rfl, hoa, b1⟩
    have q1' := (b1.cell (p := ⟨w.heap.size + 1, 0, none⟩) (by show w.heap.size + 1 < _; omega)).trans q1
    have q2' := (b1.cell (p := ⟨w.heap.size + 1, 1, none⟩) (by show w.heap.size + 1 < _; omega)).trans q2
    have HOA := hid hoa
    clear q1 q2 hoa
    go_wp2_with fail
    refine (pairs_any n' i' l2 _ ps2 w1 hn hi ((H2.out.stays bW0).stays b1)).mono ?_
    rintro e w2 ⟨vb, rfl, hob, b2⟩
    have q3' := (b2.block (w.heap.size + 1 + 1) (by have := b1.size; omega)).trans ((b1.block (w.heap.size + 1 + 1) (by omega)).trans q3)
    have bW : Below w.heap.size w w2 := seqB bW0 (seqB b1 b2)
    have lZ : w.heap.size + 1 + 1 < w2.heap.size := by have := b1.size; have := b2.size; omega
    have HOB := hid hob
    have hsl := Mk.steps_length hi
    clear q1' q2' q3 hob
    obtain ⟨L, hL⟩ : ∃ L, (Mk.steps n' i').length = L := ⟨_, rfl⟩
    rw [hL] at hsl
    have HL := hid hL
    have HOA2 : Hid (ps1.length = L → OwnP W0.heap.size w1 va (Mk.pairs n' i' l1 ps1)) := fun h => HOA.out (by rw [HL.out]; exact h)
    have HOB2 : Hid (ps2.length = L → OwnP w1.heap.size w2 vb (Mk.pairs n' i' l2 ps2)) := fun h => HOB.out (by rw [HL.out]; exact h)
    rw [hL]
    clear hL HOA HOB
    -- the cell of the result
    have hZb : w.heap.size ≤ w.heap.size + 1 + 1 := by omega
    have lZ0 : w.heap.size + 1 + 1 < W0.heap.size := by omega
    generalize w.heap.size + 1 + 1 = Z at q3' lZ hZb lZ0 ⊢
    have zc : ∀ (j : Nat) (u : World), j < 4 → u.heap[Z]? = some (.cells #[.int .u64 0, .int .u64 0, .int .u64 0, .int .u64 0] 60 (0, 0)) → u.cell? ⟨Z, j, none⟩ = some (.int .u64 0) ∧ u.frozen? ⟨Z, j, none⟩ = false := by
      intro j u hj hu
      constructor
      · match j, hj with
        | 0, _ => simp [World.cell?, hu]
        | 1, _ => simp [World.cell?, hu]
        | 2, _ => simp [World.cell?, hu]
        | 3, _ => simp [World.cell?, hu]
      · simp [World.frozen?, hu]
    by_cases hxy : ps1.length = L ∧ ps2.length = L
    · have d1 : decide (ps1.length = L) = true := decide_eq_true hxy.1
      have d2 : decide (ps2.length = L) = true := decide_eq_true hxy.2
      rw [d1, d2]
      have hcoll : Mk.collideAt n' i' l1 ps1 l2 ps2 = Mk.firstHit (Mk.pairs n' i' l1 ps1) (Mk.pairs n' i' l2 ps2) := by unfold Mk.collideAt; rw [HL.out, if_pos hxy]
      have ha := (HOA2.out hxy.1).kept b2
      have hb := HOB2.out hxy.2
      have hla := Mk.pairs_length n' i' l1 ps1
      have hlb := Mk.pairs_length n' i' l2 ps2
      rw [HL.out] at hla hlb
      obtain ⟨A, hA⟩ : ∃ A, Mk.pairs n' i' l1 ps1 = A := ⟨_, rfl⟩
      obtain ⟨Bb, hB⟩ : ∃ Bb, Mk.pairs n' i' l2 ps2 = Bb := ⟨_, rfl⟩
      rw [hA] at ha hla hcoll
      rw [hB] at hb hlb hcoll
      have HCO := hid hcoll
      obtain ⟨N, hN⟩ : ∃ N, L + 2 = N := ⟨_, rfl⟩
      rw [hN] at hla hlb
      obtain ⟨ga, gca, hva, hga0, _, hgca, _⟩ := ha.form (by omega)
      obtain ⟨gb, gcb, hvb, hgb0, _, hgcb, _⟩ := hb.form (by omega)
      have hZa : ¬ Z = ga := by omega
      have hZb' : ¬ Z = gb := by have := b1.size; omega
      have hZa2 : ¬ ga = Z := by omega
      have hZb2 : ¬ gb = Z := by have := b1.size; omega
      rw [hla] at hva
      rw [hlb] at hvb
      subst hva
      subst hvb
      have HA := hid ha
      have HB := hid hb
      have HZ := hid zc
      clear ha hb hA hB hcoll HOA2 HOB2 H1 H2 d1 d2 zc
      have hN4 : N ≤ 4098 := by omega
      go_wp2_with fail
      go_loopw [14] (fun kv wr => ∃ k : Nat, kv = .int .i64 k ∧ k ≤ N ∧ Hid (Mk.firstHit A Bb = Mk.firstHit (A.drop k) (Bb.drop k)) ∧ Below w2.heap.size w2 wr) (fun kv _ => N - (intOf kv).toNat)
      case atStart => exact ⟨0, rfl, by omega, rfl, Below.refl _ _⟩
      case round =>
        obtain ⟨k, rfl, hk, hfh, hbel⟩ := hrel
        have q3r := (hbel.block Z lZ).trans q3'
        obtain ⟨k0, f0⟩ := HZ.out 0 wr (by omega) q3r
        obtain ⟨k1, f1⟩ := HZ.out 1 wr (by omega) q3r
        obtain ⟨k2, f2⟩ := HZ.out 2 wr (by omega) q3r
        obtain ⟨k3, f3⟩ := HZ.out 3 wr (by omega) q3r
        by_cases hlt : k < N
        · obtain ⟨a0, a1'⟩ := (HA.out.kept hbel).cells2 k (by omega)
          obtain ⟨b0, b1'⟩ := (HB.out.kept hbel).cells2 k (by omega)
          have hstep := Mk.firstHit_drop A Bb k (by omega) (by omega)
          obtain ⟨⟨p, q⟩, hpq⟩ : ∃ x, A.getD k (0, 0) = x := ⟨_, rfl⟩
          obtain ⟨⟨r, s⟩, hrs⟩ : ∃ x, Bb.getD k (0, 0) = x := ⟨_, rfl⟩
          rw [hpq] at a0 a1' hstep
          rw [hrs] at b0 b1' hstep
          rw [← hfh.out] at hstep
          dsimp only at a0 a1' b0 b1'
          have HST := hid hstep
          have i1 : (0 : Int) ≤ (k : Int) := by omega
          have i2 : (k : Int) < (N : Int) := by omega
          have HC0 := hid hxy
          clear hpq hrs hstep hfh hxy
          by_cases he : p = r ∧ q = s
          · obtain ⟨rfl, rfl⟩ := he
            have t1 : (p == p) = true := by simp
            have t2 : (q == q) = true := by simp
            go_wp2_with fail
            go_quiet (fail)
            go_wp2_with fail
            have hnx : Mk.firstHit A Bb = Mk.firstHit (A.drop (k + 1)) (Bb.drop (k + 1)) := by rw [HST.out, if_neg (fun h => h.1 rfl)]
            exact ⟨⟨k + 1, by go_num, by omega, hnx, hbel.trans (drewB' wr nq _)⟩, by simp [intOf]; omega⟩
          · have hne : ((p == r) && (q == s)) = false := by
              cases h1 : (p == r)
              · rfl
              · cases h2 : (q == s)
                · rfl
                · exact absurd ⟨eq_of_beq h1, eq_of_beq h2⟩ he
            have HE := hid he
            clear he
            have cJ1 : ∀ u, Calls Try.prog 21 #[.int .u64 p, .int .u64 q] u fun e w' => e = .returned (.int .u64 (Mk.joinI (p, q))) ∧ w' = u := fun u => (join_any _ _ _).mono (by rintro e w' ⟨rfl, rfl⟩; exact ⟨rfl, rfl⟩)
            have cJ2 : ∀ u, Calls Try.prog 21 #[.int .u64 r, .int .u64 s] u fun e w' => e = .returned (.int .u64 (Mk.joinI (r, s))) ∧ w' = u := fun u => (join_any _ _ _).mono (by rintro e w' ⟨rfl, rfl⟩; exact ⟨rfl, rfl⟩)
            obtain ⟨j1, hj1⟩ : ∃ j, Mk.joinI (p, q) = j := ⟨_, rfl⟩
            obtain ⟨j2, hj2⟩ : ∃ j, Mk.joinI (r, s) = j := ⟨_, rfl⟩
            rw [hj1] at cJ1
            rw [hj2] at cJ2
            have C1 := hid cJ1
            have C2 := hid cJ2
            have HJ1 := hid hj1
            have HJ2 := hid hj2
            clear cJ1 cJ2 hj1 hj2
            go_wp2_with fail
            go_quiet ((first
              | (go_at_call 21; with_reducible exact Calls.quiet_of_same (C1.out _))
              | (go_at_call 21; with_reducible exact Calls.quiet_of_same (C2.out _))))
            by_cases hjj : j1 = j2
            · have t3 : (j1 == j2) = true := by simpa using hjj
              have hit : Mk.firstHit A Bb = some ((p, q), (r, s)) := by
                rw [HST.out, if_pos ⟨fun h => HE.out ⟨(Prod.mk.inj h).1, (Prod.mk.inj h).2⟩, by rw [HJ1.out, HJ2.out]; exact hjj⟩]
              have HIT := hid hit
              clear hit hjj hne
              have w0 : Below wr.heap.size wr (wr.drewN nq) := drewB wr nq
              generalize hWE : wr.drewN nq = W at w0 ⊢
              have g0 := (w0.cell (p := ⟨ga, k * 2, none⟩) (World.lt_of_cell a0)).trans a0
              have g1 := (w0.cell (p := ⟨ga, k * 2 + 1, none⟩) (World.lt_of_cell a0)).trans a1'
              have g2 := (w0.cell (p := ⟨gb, k * 2, none⟩) (World.lt_of_cell b0)).trans b0
              have g3 := (w0.cell (p := ⟨gb, k * 2 + 1, none⟩) (World.lt_of_cell b0)).trans b1'
              obtain ⟨k0, f0⟩ := HZ.out 0 W (by omega) ((w0.block Z (by have := hbel.size; omega)).trans q3r)
              obtain ⟨k1, f1⟩ := HZ.out 1 W (by omega) ((w0.block Z (by have := hbel.size; omega)).trans q3r)
              obtain ⟨k2, f2⟩ := HZ.out 2 W (by omega) ((w0.block Z (by have := hbel.size; omega)).trans q3r)
              obtain ⟨k3, f3⟩ := HZ.out 3 W (by omega) ((w0.block Z (by have := hbel.size; omega)).trans q3r)
              have bWW : Below w.heap.size w W := (bW.trans (hbel.mono bW.size)).trans (w0.mono (by have := bW.size; have := hbel.size; omega))
              clear a0 a1' b0 b1' hbel w0 hWE q3r
              go_wp2_with fail
              go_region_held3 (fun u => u.cell? ⟨ga, k * 2, none⟩ = some (.int .u64 p) ∧ u.cell? ⟨ga, k * 2 + 1, none⟩ = some (.int .u64 q) ∧ u.cell? ⟨gb, k * 2, none⟩ = some (.int .u64 r) ∧ u.cell? ⟨gb, k * 2 + 1, none⟩ = some (.int .u64 s)) (go_keep) (fail)
              go_wp2_with fail
              have r0 : ((((W.setCell ⟨Z, 0, none⟩ (.int .u64 p)).setCell ⟨Z, 1, none⟩ (.int .u64 q)).setCell ⟨Z, 2, none⟩ (.int .u64 r)).setCell ⟨Z, 3, none⟩ (.int .u64 s)).drew.cell? ⟨Z, 0, none⟩ = some (.int .u64 p) := by go_simp
              have r1 : ((((W.setCell ⟨Z, 0, none⟩ (.int .u64 p)).setCell ⟨Z, 1, none⟩ (.int .u64 q)).setCell ⟨Z, 2, none⟩ (.int .u64 r)).setCell ⟨Z, 3, none⟩ (.int .u64 s)).drew.cell? ⟨Z, 1, none⟩ = some (.int .u64 q) := by go_simp
              have r2 : ((((W.setCell ⟨Z, 0, none⟩ (.int .u64 p)).setCell ⟨Z, 1, none⟩ (.int .u64 q)).setCell ⟨Z, 2, none⟩ (.int .u64 r)).setCell ⟨Z, 3, none⟩ (.int .u64 s)).drew.cell? ⟨Z, 2, none⟩ = some (.int .u64 r) := by go_simp
              have r3 : ((((W.setCell ⟨Z, 0, none⟩ (.int .u64 p)).setCell ⟨Z, 1, none⟩ (.int .u64 q)).setCell ⟨Z, 2, none⟩ (.int .u64 r)).setCell ⟨Z, 3, none⟩ (.int .u64 s)).drew.cell? ⟨Z, 3, none⟩ = some (.int .u64 s) := by go_simp
              refine bodyPost_ret (v := .tuple #[.agg #[.int .u64 p, .int .u64 q, .int .u64 r, .int .u64 s], .bool true]) (by simp [results, Try.results40, go_sem, r0, r1, r2, r3]; try rfl) rfl ?_
              refine ⟨by rw [HCO.out, HIT.out]; rfl, ?_⟩
              exact ((((bWW.setCell (p := ⟨Z, 0, none⟩) hZb _).setCell (p := ⟨Z, 1, none⟩) hZb _).setCell (p := ⟨Z, 2, none⟩) hZb _).setCell (p := ⟨Z, 3, none⟩) hZb _).drew
            · have t3 : (j1 == j2) = false := by simpa using hjj
              have hnx : Mk.firstHit A Bb = Mk.firstHit (A.drop (k + 1)) (Bb.drop (k + 1)) := by rw [HST.out, if_neg (fun h => hjj (by rw [← HJ1.out, ← HJ2.out]; exact h.2))]
              have HNX := hid hnx
              clear hnx hjj
              go_wp2_with fail
              exact ⟨⟨k + 1, by go_num, by omega, HNX, hbel.trans (drewB' wr nq _)⟩, by simp [intOf]; omega⟩
        · have hke : k = N := by omega
          subst hke
          have hnone : Mk.firstHit A Bb = none := by rw [hfh.out, List.drop_eq_nil_of_le (by omega)]; rfl
          have HNO := hid hnone
          clear hnone hfh
          go_wp2_with fail
          have r0 : ((((wr.setCell ⟨Z, 0, none⟩ (.int .u64 0)).setCell ⟨Z, 1, none⟩ (.int .u64 0)).setCell ⟨Z, 2, none⟩ (.int .u64 0)).setCell ⟨Z, 3, none⟩ (.int .u64 0)).cell? ⟨Z, 0, none⟩ = some (.int .u64 0) := by go_simp
          have r1 : ((((wr.setCell ⟨Z, 0, none⟩ (.int .u64 0)).setCell ⟨Z, 1, none⟩ (.int .u64 0)).setCell ⟨Z, 2, none⟩ (.int .u64 0)).setCell ⟨Z, 3, none⟩ (.int .u64 0)).cell? ⟨Z, 1, none⟩ = some (.int .u64 0) := by go_simp
          have r2 : ((((wr.setCell ⟨Z, 0, none⟩ (.int .u64 0)).setCell ⟨Z, 1, none⟩ (.int .u64 0)).setCell ⟨Z, 2, none⟩ (.int .u64 0)).setCell ⟨Z, 3, none⟩ (.int .u64 0)).cell? ⟨Z, 2, none⟩ = some (.int .u64 0) := by go_simp
          have r3 : ((((wr.setCell ⟨Z, 0, none⟩ (.int .u64 0)).setCell ⟨Z, 1, none⟩ (.int .u64 0)).setCell ⟨Z, 2, none⟩ (.int .u64 0)).setCell ⟨Z, 3, none⟩ (.int .u64 0)).cell? ⟨Z, 3, none⟩ = some (.int .u64 0) := by go_simp
          refine bodyPost_ret (v := .tuple #[.agg #[.int .u64 0, .int .u64 0, .int .u64 0, .int .u64 0], .bool false]) (by simp [results, Try.results40, go_sem, r0, r1, r2, r3]; try rfl) rfl ?_
          refine ⟨by rw [HCO.out, HNO.out]; rfl, ?_⟩
          exact ((((bW.trans (hbel.mono bW.size)).setCell (p := ⟨Z, 0, none⟩) hZb _).setCell (p := ⟨Z, 1, none⟩) hZb _).setCell (p := ⟨Z, 2, none⟩) hZb _).setCell (p := ⟨Z, 3, none⟩) hZb _
    · have hcoll : Mk.collideAt n' i' l1 ps1 l2 ps2 = none := by unfold Mk.collideAt; rw [HL.out, if_neg hxy]
      have HCO := hid hcoll
      obtain ⟨k0, f0⟩ := zc 0 w2 (by omega) q3'
      obtain ⟨k1, f1⟩ := zc 1 w2 (by omega) q3'
      obtain ⟨k2, f2⟩ := zc 2 w2 (by omega) q3'
      obtain ⟨k3, f3⟩ := zc 3 w2 (by omega) q3'
      clear zc q3' hcoll H1 H2 HOA2 HOB2
      by_cases hx : ps1.length = L
      · have d1 : decide (ps1.length = L) = true := decide_eq_true hx
        have d2 : decide (ps2.length = L) = false := decide_eq_false (fun h => hxy ⟨hx, h⟩)
        rw [d1, d2]
        clear d1 d2
        go_wp2_with fail
        go_rounds 1
        have r0 : ((((w2.setCell ⟨Z, 0, none⟩ (.int .u64 0)).setCell ⟨Z, 1, none⟩ (.int .u64 0)).setCell ⟨Z, 2, none⟩ (.int .u64 0)).setCell ⟨Z, 3, none⟩ (.int .u64 0)).cell? ⟨Z, 0, none⟩ = some (.int .u64 0) := by go_simp
        have r1 : ((((w2.setCell ⟨Z, 0, none⟩ (.int .u64 0)).setCell ⟨Z, 1, none⟩ (.int .u64 0)).setCell ⟨Z, 2, none⟩ (.int .u64 0)).setCell ⟨Z, 3, none⟩ (.int .u64 0)).cell? ⟨Z, 1, none⟩ = some (.int .u64 0) := by go_simp
        have r2 : ((((w2.setCell ⟨Z, 0, none⟩ (.int .u64 0)).setCell ⟨Z, 1, none⟩ (.int .u64 0)).setCell ⟨Z, 2, none⟩ (.int .u64 0)).setCell ⟨Z, 3, none⟩ (.int .u64 0)).cell? ⟨Z, 2, none⟩ = some (.int .u64 0) := by go_simp
        have r3 : ((((w2.setCell ⟨Z, 0, none⟩ (.int .u64 0)).setCell ⟨Z, 1, none⟩ (.int .u64 0)).setCell ⟨Z, 2, none⟩ (.int .u64 0)).setCell ⟨Z, 3, none⟩ (.int .u64 0)).cell? ⟨Z, 3, none⟩ = some (.int .u64 0) := by go_simp
        refine bodyPost_ret (v := .tuple #[.agg #[.int .u64 0, .int .u64 0, .int .u64 0, .int .u64 0], .bool false]) (by simp [results, Try.results40, go_sem, r0, r1, r2, r3]; try rfl) rfl ?_
        refine ⟨by rw [HCO.out]; rfl, ?_⟩
        exact (((bW.setCell (p := ⟨Z, 0, none⟩) hZb _).setCell (p := ⟨Z, 1, none⟩) hZb _).setCell (p := ⟨Z, 2, none⟩) hZb _).setCell (p := ⟨Z, 3, none⟩) hZb _
      · have d1 : decide (ps1.length = L) = false := decide_eq_false hx
        rw [d1]
        clear d1
        go_wp2_with fail
        go_rounds 1
        have r0 : ((((w2.setCell ⟨Z, 0, none⟩ (.int .u64 0)).setCell ⟨Z, 1, none⟩ (.int .u64 0)).setCell ⟨Z, 2, none⟩ (.int .u64 0)).setCell ⟨Z, 3, none⟩ (.int .u64 0)).cell? ⟨Z, 0, none⟩ = some (.int .u64 0) := by go_simp
        have r1 : ((((w2.setCell ⟨Z, 0, none⟩ (.int .u64 0)).setCell ⟨Z, 1, none⟩ (.int .u64 0)).setCell ⟨Z, 2, none⟩ (.int .u64 0)).setCell ⟨Z, 3, none⟩ (.int .u64 0)).cell? ⟨Z, 1, none⟩ = some (.int .u64 0) := by go_simp
        have r2 : ((((w2.setCell ⟨Z, 0, none⟩ (.int .u64 0)).setCell ⟨Z, 1, none⟩ (.int .u64 0)).setCell ⟨Z, 2, none⟩ (.int .u64 0)).setCell ⟨Z, 3, none⟩ (.int .u64 0)).cell? ⟨Z, 2, none⟩ = some (.int .u64 0) := by go_simp
        have r3 : ((((w2.setCell ⟨Z, 0, none⟩ (.int .u64 0)).setCell ⟨Z, 1, none⟩ (.int .u64 0)).setCell ⟨Z, 2, none⟩ (.int .u64 0)).setCell ⟨Z, 3, none⟩ (.int .u64 0)).cell? ⟨Z, 3, none⟩ = some (.int .u64 0) := by go_simp
        refine bodyPost_ret (v := .tuple #[.agg #[.int .u64 0, .int .u64 0, .int .u64 0, .int .u64 0], .bool false]) (by simp [results, Try.results40, go_sem, r0, r1, r2, r3]; try rfl) rfl ?_
        refine ⟨by rw [HCO.out]; rfl, ?_⟩
        exact (((bW.setCell (p := ⟨Z, 0, none⟩) hZb _).setCell (p := ⟨Z, 1, none⟩) hZb _).setCell (p := ⟨Z, 2, none⟩) hZb _).setCell (p := ⟨Z, 3, none⟩) hZb _
  · have hco : Mk.collide n i l1 ps1 l2 ps2 = none := by unfold Mk.collide; rw [hpe, if_neg hp]
    rw [hco]
    have hp1 : (p == 0) = false := by simpa using hp
    have HP := hid hpe
    clear hco hpe hp
    go_enter Try.func40, Try.ntmps40
    go_wp2_with fail
    refine (place_any _ _ _).mono ?_
    rw [HP.out]
    rintro e w' ⟨rfl, rfl⟩
    go_wp2_with fail
    refine bodyPost_ret (v := .tuple #[.agg #[.int .u64 0, .int .u64 0, .int .u64 0, .int .u64 0], .bool false]) (by simp [results, Try.results40, go_sem]; try rfl) rfl ?_
    exact ⟨rfl, seqB (aB w _) (seqB (aB _ _) (aB _ _))⟩
end Go.Proofs.Ytifpkhgcoopjnaa
