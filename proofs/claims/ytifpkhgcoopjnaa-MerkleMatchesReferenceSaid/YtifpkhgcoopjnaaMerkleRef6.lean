/- What the reference's Collide computes where the paths are long enough. No conditions. -/
import Derived.Test.YtifpkhgcoopjnaaMerkleRef3
import Derived.Test.YtifpkhgcoopjnaaCollide
import Derived.Test.YtifpkhgcoopjnaaMerkleRef5
namespace Go.Proofs.Ytifpkhgcoopjnaa
open Go.RowKit
attribute [local go_sem] eqPr guardPr

set_option maxRecDepth 100000 in
set_option maxHeartbeats 4000000 in
theorem rcollide_hit (n i l1 l2 : Int) (v1 v2 : Value) (ps1 ps2 : List Int) (w : World) (h1 : Sl .u64 w v1 ps1) (h2 : Sl .u64 w v2 ps2) (hz : Mk.place n i = 0) (hlen : ps1.length = (Mk.steps n.toNat i.toNat).length ∧ ps2.length = ps1.length) :
    Calls Try.prog 41 #[.int .i64 n, .int .i64 i, .agg #[.int .u64 l1, v1], .agg #[.int .u64 l2, v2]] w fun e w' => e = .returned (Mk.hit5 (Mk.collide n i l1 ps1 l2 ps2)) ∧ Below w.heap.size w w' := by
  obtain ⟨p, hpe⟩ : ∃ p, Mk.place n i = p := ⟨_, rfl⟩
  have hp : p = 0 := hpe.symm.trans hz
  clear hz
  have HLN := hid hlen
  clear hlen
  have H1 := hid h1
  have H2 := hid h2
  obtain ⟨a1, c1, rfl, _⟩ := h1
  obtain ⟨a2, c2, rfl, _⟩ := h2
  have q0 : (((w.alloc (.cells #[.int .u64 l1, .slice a1 ps1.length c1] 50)).alloc (.cells #[.int .u64 l2, .slice a2 ps2.length c2] 50)).alloc (.cells #[.int .u64 0, .int .u64 0, .int .u64 0, .int .u64 0, .bool false] 64)).cell? ⟨w.heap.size, 0, none⟩ = some (.int .u64 l1) := by go_simp
  have q1 : (((w.alloc (.cells #[.int .u64 l1, .slice a1 ps1.length c1] 50)).alloc (.cells #[.int .u64 l2, .slice a2 ps2.length c2] 50)).alloc (.cells #[.int .u64 0, .int .u64 0, .int .u64 0, .int .u64 0, .bool false] 64)).cell? ⟨w.heap.size, 1, none⟩ = some (.slice a1 ps1.length c1) := by go_simp
  have q2 : (((w.alloc (.cells #[.int .u64 l1, .slice a1 ps1.length c1] 50)).alloc (.cells #[.int .u64 l2, .slice a2 ps2.length c2] 50)).alloc (.cells #[.int .u64 0, .int .u64 0, .int .u64 0, .int .u64 0, .bool false] 64)).cell? ⟨w.heap.size + 1, 0, none⟩ = some (.int .u64 l2) := by go_simp
  have q3 : (((w.alloc (.cells #[.int .u64 l1, .slice a1 ps1.length c1] 50)).alloc (.cells #[.int .u64 l2, .slice a2 ps2.length c2] 50)).alloc (.cells #[.int .u64 0, .int .u64 0, .int .u64 0, .int .u64 0, .bool false] 64)).cell? ⟨w.heap.size + 1, 1, none⟩ = some (.slice a2 ps2.length c2) := by go_simp
  have q4 : (((w.alloc (.cells #[.int .u64 l1, .slice a1 ps1.length c1] 50)).alloc (.cells #[.int .u64 l2, .slice a2 ps2.length c2] 50)).alloc (.cells #[.int .u64 0, .int .u64 0, .int .u64 0, .int .u64 0, .bool false] 64)).heap[w.heap.size + 1 + 1]? = some (.cells #[.int .u64 0, .int .u64 0, .int .u64 0, .int .u64 0, .bool false] 64 (0, 0)) := by
    have h := heap_alloc_new ((w.alloc (.cells #[.int .u64 l1, .slice a1 ps1.length c1] 50)).alloc (.cells #[.int .u64 l2, .slice a2 ps2.length c2] 50)) (.cells #[.int .u64 0, .int .u64 0, .int .u64 0, .int .u64 0, .bool false] 64)
    simp only [World.size_alloc] at h
    exact h
  have bW0 : Below w.heap.size w (((w.alloc (.cells #[.int .u64 l1, .slice a1 ps1.length c1] 50)).alloc (.cells #[.int .u64 l2, .slice a2 ps2.length c2] 50)).alloc (.cells #[.int .u64 0, .int .u64 0, .int .u64 0, .int .u64 0, .bool false] 64)) := seqB (aB w _) (seqB (aB _ _) (aB _ _))
  have zW0 : (((w.alloc (.cells #[.int .u64 l1, .slice a1 ps1.length c1] 50)).alloc (.cells #[.int .u64 l2, .slice a2 ps2.length c2] 50)).alloc (.cells #[.int .u64 0, .int .u64 0, .int .u64 0, .int .u64 0, .bool false] 64)).heap.size = w.heap.size + 1 + 1 + 1 := by simp
  have hZb : w.heap.size ≤ w.heap.size + 1 + 1 := by omega
  have zc : ∀ (Z j : Nat) (u : World), j < 4 → u.heap[Z]? = some (.cells #[.int .u64 0, .int .u64 0, .int .u64 0, .int .u64 0, .bool false] 64 (0, 0)) → u.cell? ⟨Z, j, none⟩ = some (.int .u64 0) ∧ u.frozen? ⟨Z, j, none⟩ = false := by
    intro Z j u hj hu
    constructor
    · match j, hj with
      | 0, _ => simp [World.cell?, hu]
      | 1, _ => simp [World.cell?, hu]
      | 2, _ => simp [World.cell?, hu]
      | 3, _ => simp [World.cell?, hu]
    · simp [World.frozen?, hu]
  have zc4 : ∀ (Z : Nat) (u : World), u.heap[Z]? = some (.cells #[.int .u64 0, .int .u64 0, .int .u64 0, .int .u64 0, .bool false] 64 (0, 0)) → u.cell? ⟨Z, 4, none⟩ = some (.bool false) ∧ u.frozen? ⟨Z, 4, none⟩ = false := by
    intro Z u hu
    exact ⟨by simp [World.cell?, hu], by simp [World.frozen?, hu]⟩
  go_enter Try.func41, Try.ntmps41
  go_wp2_with fail
  generalize (((w.alloc (.cells #[.int .u64 l1, .slice a1 ps1.length c1] 50)).alloc (.cells #[.int .u64 l2, .slice a2 ps2.length c2] 50)).alloc (.cells #[.int .u64 0, .int .u64 0, .int .u64 0, .int .u64 0, .bool false] 64)) = W0 at q0 q1 q2 q3 q4 bW0 zW0 ⊢
  have lX1 : w.heap.size < W0.heap.size := by omega
  have lX2 : w.heap.size + 1 < W0.heap.size := by omega
  have lZ0 : w.heap.size + 1 + 1 < W0.heap.size := by omega
  generalize w.heap.size + 1 + 1 = Z at q4 hZb lZ0 ⊢
  generalize w.heap.size + 1 = X2 at q2 q3 lX2 ⊢
  have HZ := hid (zc Z)
  have HZ4 := hid (zc4 Z)
  clear zc zc4 zW0
  have HQ1 := hid (H1.out.stays bW0)
  have HQ2 := hid (H2.out.stays bW0)
  have bD : Below W0.heap.size W0 W0.drew := dB W0
  have hf : ∀ u, Below W0.heap.size W0 u → u.cell? ⟨w.heap.size, 1, none⟩ = some (.slice a1 ps1.length c1) ∧ u.cell? ⟨X2, 1, none⟩ = some (.slice a2 ps2.length c2) := fun u hu => ⟨(hu.cell (p := ⟨w.heap.size, 1, none⟩) lX1).trans q1, (hu.cell (p := ⟨X2, 1, none⟩) lX2).trans q3⟩
  have HF := hid hf
  clear hf H1 H2
  have cP := hid (fun u => (rplace_any n i u).mono (R' := fun e w' => e = .returned (.int .i64 p) ∧ w' = u) (by rintro e w' ⟨rfl, rfl⟩; exact ⟨by rw [hpe], rfl⟩))
  subst hp
  obtain ⟨n', i', rfl, rfl, hi, hn⟩ := Mk.place_zero hpe
  have hco : Mk.collide n' i' l1 ps1 l2 ps2 = Mk.collideAt n' i' l1 ps1 l2 ps2 := by unfold Mk.collide; rw [if_pos hpe]; rfl
  have HCOL := hid hco
  have hsl := Mk.steps_length hi
  obtain ⟨L, hL⟩ : ∃ L, (Mk.steps n' i').length = L := ⟨_, rfl⟩
  rw [hL] at hsl
  have HL := hid hL
  have cS := hid (fun u => rsteps_ind n' n' i' u (Nat.le_refl _) hn hi)
  clear hco hpe hL
  have hx : ps1.length = L := HLN.out.1.trans HL.out
  have hy : ps2.length = ps1.length := HLN.out.2
  have t1 : ((ps1.length : Int) == (L : Int)) = true := by rw [beq_iff_eq]; omega
  have t1n : ((ps1.length : Int) != (L : Int)) = false := by rw [bne_eq_false_iff_eq]; omega
  have HX := hid hx
  clear hx
  have t2 : ((ps2.length : Int) == (ps1.length : Int)) = true := by rw [beq_iff_eq]; omega
  have t2n : ((ps2.length : Int) != (ps1.length : Int)) = false := by rw [bne_eq_false_iff_eq]; omega
  have HY := hid hy
  clear hy
  have h0 := HF.out _ bD
  first | (go_region_held3 (fun u => u.cell? ⟨w.heap.size, 1, none⟩ = some (.slice a1 ps1.length c1) ∧ u.cell? ⟨X2, 1, none⟩ = some (.slice a2 ps2.length c2))
        (first | exact h0 | exact HF.out _ hst | assumption)
        (first
          | (go_at_call 51; (with_reducible refine (cP.out _).mono ?_); rintro e w' ⟨rfl, rfl⟩)
          | (go_at_call 52; (with_reducible refine (cS.out _).mono ?_); rintro e w1 ⟨v1, rfl, ho1, b1⟩; have hst := seqB bD b1; obtain ⟨sa, sc, rfl, _⟩ := ho1.form; rw [HL.out]))) | fail
  have bst := seqB bW0 hst
  have q4a := (hst.block Z lZ0).trans q4
  have hq : ∀ u, Below w1.heap.size w1 u → (u.cell? ⟨w.heap.size, 0, none⟩ = some (.int .u64 l1) ∧ u.cell? ⟨w.heap.size, 1, none⟩ = some (.slice a1 ps1.length c1)) ∧ u.cell? ⟨X2, 0, none⟩ = some (.int .u64 l2) ∧ u.cell? ⟨X2, 1, none⟩ = some (.slice a2 ps2.length c2) := fun u hu => ⟨⟨((hst.trans (hu.mono hst.size)).cell (p := ⟨w.heap.size, 0, none⟩) lX1).trans q0, ((hst.trans (hu.mono hst.size)).cell (p := ⟨w.heap.size, 1, none⟩) lX1).trans q1⟩, ((hst.trans (hu.mono hst.size)).cell (p := ⟨X2, 0, none⟩) lX2).trans q2, ((hst.trans (hu.mono hst.size)).cell (p := ⟨X2, 1, none⟩) lX2).trans q3⟩
  have HQ := hid hq
  have C1 := hid (fun u (hu : Below w1.heap.size w1 u) => rpairs_any n' i' l1 (.slice a1 ps1.length c1) ps1 u hn hi (HX.out.trans HL.out.symm) ((HQ1.out.stays hst).stays hu))
  have C2 := hid (fun u (hu : Below w1.heap.size w1 u) => rpairs_any n' i' l2 (.slice a2 ps2.length c2) ps2 u hn hi ((HY.out.trans HX.out).trans HL.out.symm) ((HQ2.out.stays hst).stays hu))
  have lZ1 : Z < w1.heap.size := by have := hst.size; omega
  have hlW : W0.heap.size ≤ w1.heap.size := hst.size
  clear hq HF q0 q1 q2 q3 cP cS h0 b1 ho1
  go_wp2_with fail
  have h1 := HQ.out _ (dB w1)
  go_region_held3 (fun u => (u.cell? ⟨w.heap.size, 0, none⟩ = some (.int .u64 l1) ∧ u.cell? ⟨w.heap.size, 1, none⟩ = some (.slice a1 ps1.length c1)) ∧ u.cell? ⟨X2, 0, none⟩ = some (.int .u64 l2) ∧ u.cell? ⟨X2, 1, none⟩ = some (.slice a2 ps2.length c2))
    (first | exact h1 | exact HQ.out _ hs2 | exact HQ.out _ hs1 | assumption)
    (first
      | (go_at_call 53; (with_reducible refine (C1.out _ (dB w1)).mono ?_); rintro e w2 ⟨va, rfl, hoa, b2⟩; have hs1 := seqB (dB w1) b2)
      | (go_at_call 53; (with_reducible refine (C2.out _ hs1).mono ?_); rintro e w3 ⟨vb, rfl, hob, b3⟩; have hs2 := seqB hs1 b3)
      | fail)
  have q3' : w3.heap[Z]? = some (.cells #[.int .u64 0, .int .u64 0, .int .u64 0, .int .u64 0, .bool false] 64 (0, 0)) := (hs2.block Z lZ1).trans q4a
  have bW : Below w.heap.size w w3 := seqB bst hs2
  have lZ : Z < w3.heap.size := by have := hs2.size; omega
  have hs1z : w1.heap.size ≤ w2.heap.size := hs1.size
  have hxy : ps1.length = L ∧ ps2.length = L := ⟨HX.out, HY.out.trans HX.out⟩
  have hcoll : Mk.collideAt n' i' l1 ps1 l2 ps2 = Mk.firstHit (Mk.pairs n' i' l1 ps1) (Mk.pairs n' i' l2 ps2) := by unfold Mk.collideAt; rw [HL.out, if_pos hxy]
  have ha := hoa.kept b3
  have hb := hob
  have hla := Mk.pairs_length n' i' l1 ps1
  have hlb := Mk.pairs_length n' i' l2 ps2
  rw [HL.out] at hla hlb
  obtain ⟨A, hA⟩ : ∃ A, Mk.pairs n' i' l1 ps1 = A := ⟨_, rfl⟩
  obtain ⟨Bb, hB⟩ : ∃ Bb, Mk.pairs n' i' l2 ps2 = Bb := ⟨_, rfl⟩
  rw [hA] at ha hla hcoll
  rw [hB] at hb hlb hcoll
  have HCO := hid hcoll
  obtain ⟨N, hN⟩ : ∃ N, L + 2 = N := ⟨_, rfl⟩
  rw [hN] at hla hlb
  obtain ⟨ga, gca, hva, hga0, _, hgca, _⟩ := ha.form (by omega)
  obtain ⟨gb, gcb, hvb, hgb0, _, hgcb, _⟩ := hb.form (by omega)
  have hga1 : w1.heap.size ≤ ga := hga0
  have hgb1 : w2.heap.size ≤ gb := hgb0
  have hZa : ¬ Z = ga := by omega
  have hZb' : ¬ Z = gb := by omega
  have hZa2 : ¬ ga = Z := by omega
  have hZb2 : ¬ gb = Z := by omega
  rw [hla] at hva
  rw [hlb] at hvb
  subst hva
  subst hvb
  have HA := hid ha
  have HB := hid hb
  clear ha hb hA hB hcoll hoa hob C1 C2 HQ h1 hs1 hs2 hst
  have hN4 : N ≤ 4098 := by omega
  go_wp2_with fail
  go_loopw [11] (fun kv wr => ∃ k : Nat, kv = .int .i64 k ∧ k ≤ N ∧ Hid (Mk.firstHit A Bb = Mk.firstHit (A.drop k) (Bb.drop k)) ∧ Below w3.heap.size w3 wr) (fun kv _ => N - (intOf kv).toNat)
  case atStart => exact ⟨0, rfl, by omega, rfl, Below.refl _ _⟩
  case round =>
    obtain ⟨k, rfl, hk, hfh, hbel⟩ := hrel
    have q3r := (hbel.block Z lZ).trans q3'
    obtain ⟨k0, f0⟩ := HZ.out 0 wr (by omega) q3r
    obtain ⟨k1, f1⟩ := HZ.out 1 wr (by omega) q3r
    obtain ⟨k2, f2⟩ := HZ.out 2 wr (by omega) q3r
    obtain ⟨k3, f3⟩ := HZ.out 3 wr (by omega) q3r
    obtain ⟨k4, f4⟩ := HZ4.out wr q3r
    by_cases hlt : k < N
    · obtain ⟨a0, a1'⟩ := (HA.out.kept hbel).cells2 k (by omega)
      obtain ⟨b0, b1'⟩ := (HB.out.kept hbel).cells2 k (by omega)
      have hstep := Mk.firstHit_drop A Bb k (by omega) (by omega)
      obtain ⟨⟨p, q⟩, hpq⟩ : ∃ x, A.getD k (0, 0) = x := ⟨_, rfl⟩
      obtain ⟨⟨r, s⟩, hrs⟩ : ∃ x, Bb.getD k (0, 0) = x := ⟨_, rfl⟩
      rw [hpq] at a0 a1' hstep
      rw [hrs] at b0 b1' hstep
      rw [← hfh.out] at hstep
      dsimp only at a0 a1' b0 b1'
      have HST := hid hstep
      have i1 : (0 : Int) ≤ (k : Int) := by omega
      have i2 : (k : Int) < (N : Int) := by omega
      have HC0 := hid hxy
      clear hpq hrs hstep hfh hxy
      by_cases he : p = r ∧ q = s
      · obtain ⟨rfl, rfl⟩ := he
        have t1 : (p == p) = true := by simp
        have t2 : (q == q) = true := by simp
        go_wp2_with fail
        go_quiet (fail)
        go_wp2_with fail
        have hnx : Mk.firstHit A Bb = Mk.firstHit (A.drop (k + 1)) (Bb.drop (k + 1)) := by rw [HST.out, if_neg (fun h => h.1 rfl)]
        exact ⟨⟨k + 1, by go_num, by omega, hnx, hbel.trans (drewB' wr nq _)⟩, by simp [intOf]; omega⟩
      · have hne : ((p == r) && (q == s)) = false := by
          cases h1 : (p == r)
          · rfl
          · cases h2 : (q == s)
            · rfl
            · exact absurd ⟨eq_of_beq h1, eq_of_beq h2⟩ he
        have HE := hid he
        clear he
        have cJ1 : ∀ u, Calls Try.prog 26 #[.int .u64 p, .int .u64 q] u fun e w' => e = .returned (.int .u64 (Mk.joinI (p, q))) ∧ w' = u := fun u => (rjoin_any _ _ _).mono (by rintro e w' ⟨rfl, rfl⟩; exact ⟨rfl, rfl⟩)
        have cJ2 : ∀ u, Calls Try.prog 26 #[.int .u64 r, .int .u64 s] u fun e w' => e = .returned (.int .u64 (Mk.joinI (r, s))) ∧ w' = u := fun u => (rjoin_any _ _ _).mono (by rintro e w' ⟨rfl, rfl⟩; exact ⟨rfl, rfl⟩)
        obtain ⟨j1, hj1⟩ : ∃ j, Mk.joinI (p, q) = j := ⟨_, rfl⟩
        obtain ⟨j2, hj2⟩ : ∃ j, Mk.joinI (r, s) = j := ⟨_, rfl⟩
        rw [hj1] at cJ1
        rw [hj2] at cJ2
        have C1 := hid cJ1
        have C2 := hid cJ2
        have HJ1 := hid hj1
        have HJ2 := hid hj2
        clear cJ1 cJ2 hj1 hj2
        go_wp2_with fail
        go_quiet ((first
          | (go_at_call 26; with_reducible exact Calls.quiet_of_same (C1.out _))
          | (go_at_call 26; with_reducible exact Calls.quiet_of_same (C2.out _))))
        by_cases hjj : j1 = j2
        · have t3 : (j1 == j2) = true := by simpa using hjj
          have hit : Mk.firstHit A Bb = some ((p, q), (r, s)) := by
            rw [HST.out, if_pos ⟨fun h => HE.out ⟨(Prod.mk.inj h).1, (Prod.mk.inj h).2⟩, by rw [HJ1.out, HJ2.out]; exact hjj⟩]
          have HIT := hid hit
          clear hit hjj hne
          have w0 : Below wr.heap.size wr (wr.drewN nq) := drewB wr nq
          generalize hWE : wr.drewN nq = W at w0 ⊢
          have g0 := (w0.cell (p := ⟨ga, k * 2, none⟩) (World.lt_of_cell a0)).trans a0
          have g1 := (w0.cell (p := ⟨ga, k * 2 + 1, none⟩) (World.lt_of_cell a0)).trans a1'
          have g2 := (w0.cell (p := ⟨gb, k * 2, none⟩) (World.lt_of_cell b0)).trans b0
          have g3 := (w0.cell (p := ⟨gb, k * 2 + 1, none⟩) (World.lt_of_cell b0)).trans b1'
          obtain ⟨k0, f0⟩ := HZ.out 0 W (by omega) ((w0.block Z (by have := hbel.size; omega)).trans q3r)
          obtain ⟨k1, f1⟩ := HZ.out 1 W (by omega) ((w0.block Z (by have := hbel.size; omega)).trans q3r)
          obtain ⟨k2, f2⟩ := HZ.out 2 W (by omega) ((w0.block Z (by have := hbel.size; omega)).trans q3r)
          obtain ⟨k3, f3⟩ := HZ.out 3 W (by omega) ((w0.block Z (by have := hbel.size; omega)).trans q3r)
          obtain ⟨k4, f4⟩ := HZ4.out W ((w0.block Z (by have := hbel.size; omega)).trans q3r)
          have bWW : Below w.heap.size w W := (bW.trans (hbel.mono bW.size)).trans (w0.mono (by have := bW.size; have := hbel.size; omega))
          clear a0 a1' b0 b1' hbel w0 hWE q3r
          go_wp2_with fail
          go_region_held3 (fun u => u.cell? ⟨ga, k * 2, none⟩ = some (.int .u64 p) ∧ u.cell? ⟨ga, k * 2 + 1, none⟩ = some (.int .u64 q) ∧ u.cell? ⟨gb, k * 2, none⟩ = some (.int .u64 r) ∧ u.cell? ⟨gb, k * 2 + 1, none⟩ = some (.int .u64 s)) (go_keep) (fail)
          go_wp2_with fail
          have r0 : (((((W.setCell ⟨Z, 0, none⟩ (.int .u64 p)).setCell ⟨Z, 1, none⟩ (.int .u64 q)).setCell ⟨Z, 2, none⟩ (.int .u64 r)).setCell ⟨Z, 3, none⟩ (.int .u64 s)).setCell ⟨Z, 4, none⟩ (.bool true)).drew.cell? ⟨Z, 0, none⟩ = some (.int .u64 p) := by go_simp
          have r1 : (((((W.setCell ⟨Z, 0, none⟩ (.int .u64 p)).setCell ⟨Z, 1, none⟩ (.int .u64 q)).setCell ⟨Z, 2, none⟩ (.int .u64 r)).setCell ⟨Z, 3, none⟩ (.int .u64 s)).setCell ⟨Z, 4, none⟩ (.bool true)).drew.cell? ⟨Z, 1, none⟩ = some (.int .u64 q) := by go_simp
          have r2 : (((((W.setCell ⟨Z, 0, none⟩ (.int .u64 p)).setCell ⟨Z, 1, none⟩ (.int .u64 q)).setCell ⟨Z, 2, none⟩ (.int .u64 r)).setCell ⟨Z, 3, none⟩ (.int .u64 s)).setCell ⟨Z, 4, none⟩ (.bool true)).drew.cell? ⟨Z, 2, none⟩ = some (.int .u64 r) := by go_simp
          have r3 : (((((W.setCell ⟨Z, 0, none⟩ (.int .u64 p)).setCell ⟨Z, 1, none⟩ (.int .u64 q)).setCell ⟨Z, 2, none⟩ (.int .u64 r)).setCell ⟨Z, 3, none⟩ (.int .u64 s)).setCell ⟨Z, 4, none⟩ (.bool true)).drew.cell? ⟨Z, 3, none⟩ = some (.int .u64 s) := by go_simp
          have r4 : (((((W.setCell ⟨Z, 0, none⟩ (.int .u64 p)).setCell ⟨Z, 1, none⟩ (.int .u64 q)).setCell ⟨Z, 2, none⟩ (.int .u64 r)).setCell ⟨Z, 3, none⟩ (.int .u64 s)).setCell ⟨Z, 4, none⟩ (.bool true)).drew.cell? ⟨Z, 4, none⟩ = some (.bool true) := by go_simp
          refine bodyPost_ret (v := .agg #[.int .u64 p, .int .u64 q, .int .u64 r, .int .u64 s, .bool true]) (by simp [results, Try.results41, go_sem, r0, r1, r2, r3, r4]; try rfl) rfl ?_
          refine ⟨by rw [HCOL.out, HCO.out, HIT.out]; rfl, ?_⟩
          exact (((((bWW.setCell (p := ⟨Z, 0, none⟩) hZb _).setCell (p := ⟨Z, 1, none⟩) hZb _).setCell (p := ⟨Z, 2, none⟩) hZb _).setCell (p := ⟨Z, 3, none⟩) hZb _).setCell (p := ⟨Z, 4, none⟩) hZb _).drew
        · have t3 : (j1 == j2) = false := by simpa using hjj
          have hnx : Mk.firstHit A Bb = Mk.firstHit (A.drop (k + 1)) (Bb.drop (k + 1)) := by rw [HST.out, if_neg (fun h => hjj (by rw [← HJ1.out, ← HJ2.out]; exact h.2))]
          have HNX := hid hnx
          clear hnx hjj
          go_wp2_with fail
          exact ⟨⟨k + 1, by go_num, by omega, HNX, hbel.trans (drewB' wr nq _)⟩, by simp [intOf]; omega⟩
    · have hke : k = N := by omega
      subst hke
      have hnone : Mk.firstHit A Bb = none := by rw [hfh.out, List.drop_eq_nil_of_le (by omega)]; rfl
      have HNO := hid hnone
      clear hnone hfh
      go_wp2_with fail
      have r0 : (((((wr.setCell ⟨Z, 0, none⟩ (.int .u64 0)).setCell ⟨Z, 1, none⟩ (.int .u64 0)).setCell ⟨Z, 2, none⟩ (.int .u64 0)).setCell ⟨Z, 3, none⟩ (.int .u64 0)).setCell ⟨Z, 4, none⟩ (.bool false)).cell? ⟨Z, 0, none⟩ = some (.int .u64 0) := by go_simp
      have r1 : (((((wr.setCell ⟨Z, 0, none⟩ (.int .u64 0)).setCell ⟨Z, 1, none⟩ (.int .u64 0)).setCell ⟨Z, 2, none⟩ (.int .u64 0)).setCell ⟨Z, 3, none⟩ (.int .u64 0)).setCell ⟨Z, 4, none⟩ (.bool false)).cell? ⟨Z, 1, none⟩ = some (.int .u64 0) := by go_simp
      have r2 : (((((wr.setCell ⟨Z, 0, none⟩ (.int .u64 0)).setCell ⟨Z, 1, none⟩ (.int .u64 0)).setCell ⟨Z, 2, none⟩ (.int .u64 0)).setCell ⟨Z, 3, none⟩ (.int .u64 0)).setCell ⟨Z, 4, none⟩ (.bool false)).cell? ⟨Z, 2, none⟩ = some (.int .u64 0) := by go_simp
      have r3 : (((((wr.setCell ⟨Z, 0, none⟩ (.int .u64 0)).setCell ⟨Z, 1, none⟩ (.int .u64 0)).setCell ⟨Z, 2, none⟩ (.int .u64 0)).setCell ⟨Z, 3, none⟩ (.int .u64 0)).setCell ⟨Z, 4, none⟩ (.bool false)).cell? ⟨Z, 3, none⟩ = some (.int .u64 0) := by go_simp
      have r4 : (((((wr.setCell ⟨Z, 0, none⟩ (.int .u64 0)).setCell ⟨Z, 1, none⟩ (.int .u64 0)).setCell ⟨Z, 2, none⟩ (.int .u64 0)).setCell ⟨Z, 3, none⟩ (.int .u64 0)).setCell ⟨Z, 4, none⟩ (.bool false)).cell? ⟨Z, 4, none⟩ = some (.bool false) := by go_simp
      refine bodyPost_ret (v := .agg #[.int .u64 0, .int .u64 0, .int .u64 0, .int .u64 0, .bool false]) (by simp [results, Try.results41, go_sem, r0, r1, r2, r3, r4]; try rfl) rfl ?_
      refine ⟨by rw [HCOL.out, HCO.out, HNO.out]; rfl, ?_⟩
      exact (((((bW.trans (hbel.mono bW.size)).setCell (p := ⟨Z, 0, none⟩) hZb _).setCell (p := ⟨Z, 1, none⟩) hZb _).setCell (p := ⟨Z, 2, none⟩) hZb _).setCell (p := ⟨Z, 3, none⟩) hZb _).setCell (p := ⟨Z, 4, none⟩) hZb _

theorem rcollide_any (n i l1 l2 : Int) (v1 v2 : Value) (ps1 ps2 : List Int) (w : World) (h1 : Sl .u64 w v1 ps1) (h2 : Sl .u64 w v2 ps2) :
    Calls Try.prog 41 #[.int .i64 n, .int .i64 i, .agg #[.int .u64 l1, v1], .agg #[.int .u64 l2, v2]] w fun e w' => e = .returned (Mk.hit5 (Mk.collide n i l1 ps1 l2 ps2)) ∧ Below w.heap.size w w' := by
  by_cases h : Mk.place n i = 0
  · by_cases hx : ps1.length = (Mk.steps n.toNat i.toNat).length
    · by_cases hy : ps2.length = ps1.length
      · exact rcollide_hit n i l1 l2 v1 v2 ps1 ps2 w h1 h2 h ⟨hx, hy⟩
      · exact rcollide_len2 n i l1 l2 v1 v2 ps1 ps2 w h1 h2 h ⟨hx, hy⟩
    · exact rcollide_len1 n i l1 l2 v1 v2 ps1 ps2 w h1 h2 h hx
  · exact rcollide_place n i l1 l2 v1 v2 ps1 ps2 w h1 h2 h
end Go.Proofs.Ytifpkhgcoopjnaa
