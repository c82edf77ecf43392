/- What the reference's Collide computes. No conditions. -/
import Derived.Test.YtifpkhgcoopjnaaMerkleRef3
import Derived.Test.YtifpkhgcoopjnaaCollide
import Derived.Test.YtifpkhgcoopjnaaReg
namespace Go.Proofs.Ytifpkhgcoopjnaa
open Go.RowKit
attribute [local go_sem] eqPr guardPr

def Mk.hit5 : Option ((Int × Int) × (Int × Int)) → Value
  | some (p, q) => .agg #[.int .u64 p.1, .int .u64 p.2, .int .u64 q.1, .int .u64 q.2, .bool true]
  | none => .agg #[.int .u64 0, .int .u64 0, .int .u64 0, .int .u64 0, .bool false]

set_option maxRecDepth 100000 in
set_option maxHeartbeats 4000000 in
theorem rcollide_place (n i l1 l2 : Int) (v1 v2 : Value) (ps1 ps2 : List Int) (w : World) (h1 : Sl .u64 w v1 ps1) (h2 : Sl .u64 w v2 ps2) (hne : Mk.place n i ≠ 0) :
    Calls Try.prog 41 #[.int .i64 n, .int .i64 i, .agg #[.int .u64 l1, v1], .agg #[.int .u64 l2, v2]] w fun e w' => e = .returned (Mk.hit5 (Mk.collide n i l1 ps1 l2 ps2)) ∧ Below w.heap.size w w' := by
  obtain ⟨p, hpe⟩ : ∃ p, Mk.place n i = p := ⟨_, rfl⟩
  have hp : ¬ p = 0 := fun h => hne (hpe.trans h)
  have HCO0 := hid hne
  clear hne
  have H1 := hid h1
  have H2 := hid h2
  obtain ⟨a1, c1, rfl, _⟩ := h1
  obtain ⟨a2, c2, rfl, _⟩ := h2
  have q0 : (((w.alloc (.cells #[.int .u64 l1, .slice a1 ps1.length c1] 50)).alloc (.cells #[.int .u64 l2, .slice a2 ps2.length c2] 50)).alloc (.cells #[.int .u64 0, .int .u64 0, .int .u64 0, .int .u64 0, .bool false] 64)).cell? ⟨w.heap.size, 0, none⟩ = some (.int .u64 l1) := by go_simp
  have q1 : (((w.alloc (.cells #[.int .u64 l1, .slice a1 ps1.length c1] 50)).alloc (.cells #[.int .u64 l2, .slice a2 ps2.length c2] 50)).alloc (.cells #[.int .u64 0, .int .u64 0, .int .u64 0, .int .u64 0, .bool false] 64)).cell? ⟨w.heap.size, 1, none⟩ = some (.slice a1 ps1.length c1) := by go_simp
  have q2 : (((w.alloc (.cells #[.int .u64 l1, .slice a1 ps1.length c1] 50)).alloc (.cells #[.int .u64 l2, .slice a2 ps2.length c2] 50)).alloc (.cells #[.int .u64 0, .int .u64 0, .int .u64 0, .int .u64 0, .bool false] 64)).cell? ⟨w.heap.size + 1, 0, none⟩ = some (.int .u64 l2) := by go_simp
  have q3 : (((w.alloc (.cells #[.int .u64 l1, .slice a1 ps1.length c1] 50)).alloc (.cells #[.int .u64 l2, .slice a2 ps2.length c2] 50)).alloc (.cells #[.int .u64 0, .int .u64 0, .int .u64 0, .int .u64 0, .bool false] 64)).cell? ⟨w.heap.size + 1, 1, none⟩ = some (.slice a2 ps2.length c2) := by go_simp
  have q4 : (((w.alloc (.cells #[.int .u64 l1, .slice a1 ps1.length c1] 50)).alloc (.cells #[.int .u64 l2, .slice a2 ps2.length c2] 50)).alloc (.cells #[.int .u64 0, .int .u64 0, .int .u64 0, .int .u64 0, .bool false] 64)).heap[w.heap.size + 1 + 1]? = some (.cells #[.int .u64 0, .int .u64 0, .int .u64 0, .int .u64 0, .bool false] 64 (0, 0)) := by
    have h := heap_alloc_new ((w.alloc (.cells #[.int .u64 l1, .slice a1 ps1.length c1] 50)).alloc (.cells #[.int .u64 l2, .slice a2 ps2.length c2] 50)) (.cells #[.int .u64 0, .int .u64 0, .int .u64 0, .int .u64 0, .bool false] 64)
    simp only [World.size_alloc] at h
    exact h
  have bW0 : Below w.heap.size w (((w.alloc (.cells #[.int .u64 l1, .slice a1 ps1.length c1] 50)).alloc (.cells #[.int .u64 l2, .slice a2 ps2.length c2] 50)).alloc (.cells #[.int .u64 0, .int .u64 0, .int .u64 0, .int .u64 0, .bool false] 64)) := seqB (aB w _) (seqB (aB _ _) (aB _ _))
  have zW0 : (((w.alloc (.cells #[.int .u64 l1, .slice a1 ps1.length c1] 50)).alloc (.cells #[.int .u64 l2, .slice a2 ps2.length c2] 50)).alloc (.cells #[.int .u64 0, .int .u64 0, .int .u64 0, .int .u64 0, .bool false] 64)).heap.size = w.heap.size + 1 + 1 + 1 := by simp
  have hZb : w.heap.size ≤ w.heap.size + 1 + 1 := by omega
  have zc : ∀ (Z j : Nat) (u : World), j < 4 → u.heap[Z]? = some (.cells #[.int .u64 0, .int .u64 0, .int .u64 0, .int .u64 0, .bool false] 64 (0, 0)) → u.cell? ⟨Z, j, none⟩ = some (.int .u64 0) ∧ u.frozen? ⟨Z, j, none⟩ = false := by
    intro Z j u hj hu
    constructor
    · match j, hj with
      | 0, _ => simp [World.cell?, hu]
      | 1, _ => simp [World.cell?, hu]
      | 2, _ => simp [World.cell?, hu]
      | 3, _ => simp [World.cell?, hu]
    · simp [World.frozen?, hu]
  have zc4 : ∀ (Z : Nat) (u : World), u.heap[Z]? = some (.cells #[.int .u64 0, .int .u64 0, .int .u64 0, .int .u64 0, .bool false] 64 (0, 0)) → u.cell? ⟨Z, 4, none⟩ = some (.bool false) ∧ u.frozen? ⟨Z, 4, none⟩ = false := by
    intro Z u hu
    exact ⟨by simp [World.cell?, hu], by simp [World.frozen?, hu]⟩
  go_enter Try.func41, Try.ntmps41
  go_wp2_with fail
  generalize (((w.alloc (.cells #[.int .u64 l1, .slice a1 ps1.length c1] 50)).alloc (.cells #[.int .u64 l2, .slice a2 ps2.length c2] 50)).alloc (.cells #[.int .u64 0, .int .u64 0, .int .u64 0, .int .u64 0, .bool false] 64)) = W0 at q0 q1 q2 q3 q4 bW0 zW0 ⊢
  have lX1 : w.heap.size < W0.heap.size := by omega
  have lX2 : w.heap.size + 1 < W0.heap.size := by omega
  have lZ0 : w.heap.size + 1 + 1 < W0.heap.size := by omega
  generalize w.heap.size + 1 + 1 = Z at q4 hZb lZ0 ⊢
  generalize w.heap.size + 1 = X2 at q2 q3 lX2 ⊢
  have HZ := hid (zc Z)
  have HZ4 := hid (zc4 Z)
  clear zc zc4 zW0
  have HQ1 := hid (H1.out.stays bW0)
  have HQ2 := hid (H2.out.stays bW0)
  have bD : Below W0.heap.size W0 W0.drew := dB W0
  have hf : ∀ u, Below W0.heap.size W0 u → u.cell? ⟨w.heap.size, 1, none⟩ = some (.slice a1 ps1.length c1) ∧ u.cell? ⟨X2, 1, none⟩ = some (.slice a2 ps2.length c2) := fun u hu => ⟨(hu.cell (p := ⟨w.heap.size, 1, none⟩) lX1).trans q1, (hu.cell (p := ⟨X2, 1, none⟩) lX2).trans q3⟩
  have HF := hid hf
  clear hf H1 H2
  have cP := hid (fun u => (rplace_any n i u).mono (R' := fun e w' => e = .returned (.int .i64 p) ∧ w' = u) (by rintro e w' ⟨rfl, rfl⟩; exact ⟨by rw [hpe], rfl⟩))
  have HCO : Hid (Mk.collide n i l1 ps1 l2 ps2 = none) := by show _ = _; unfold Mk.collide; rw [hpe, if_neg hp]
  have hp1 : (p == 0) = false := by simpa using hp
  have hp2 : (p != 0) = true := by simpa using hp
  clear hpe hp
  have h0 := HF.out _ bD
  refine wp_region_held_drew (S := (fun u => u.cell? ⟨w.heap.size, 1, none⟩ = some (.slice a1 ps1.length c1) ∧ u.cell? ⟨X2, 1, none⟩ = some (.slice a2 ps2.length c2))) (by kernel_rfl) h0 (fun hHeld => ?_)
  refine regTake 0 (some 12) (v := ?_) rfl rfl (by kernel_rfl) (by kernel_rfl) (by kernel_rfl) (fun _ _ _ h => h) (by rfl) hHeld (fun w hSw => ?_) ?_
  rotate_left
  · ((try dsimp only at hSw); go_simp; try with_reducible rfl)
  simp only [Act.put, List.setIfInBounds_toArray, List.set_cons_zero, List.set_cons_succ]
  refine regTake 1 (some 13) (v := ?_) rfl rfl (by kernel_rfl) (by kernel_rfl) (by kernel_rfl) (fun _ _ _ h => h) (by rfl) hHeld (fun w hSw => ?_) ?_
  rotate_left
  · ((try dsimp only at hSw); go_simp; try with_reducible rfl)
  simp only [Act.put, List.setIfInBounds_toArray, List.set_cons_zero, List.set_cons_succ]
  refine regStep 2 rfl (by kernel_rfl) (by rfl) (fun K hK => ?_)
  go_simp
  (with_reducible refine (cP.out _).mono ?_)
  rintro e w' ⟨rfl, rfl⟩
  refine hK.out _ _ ?_ (fun hHeld => ?_)
  · exact h0
  clear hK K
  refine regTake 3 (some 15) (v := ?_) rfl rfl (by kernel_rfl) (by kernel_rfl) (by kernel_rfl) (fun _ _ _ h => h) (by rfl) hHeld (fun w hSw => ?_) ?_
  rotate_left
  · ((try dsimp only at hSw); go_simp; try with_reducible rfl)
  simp only [Act.put, List.setIfInBounds_toArray, List.set_cons_zero, List.set_cons_succ]
  refine regTake 4 (some 16) (v := ?_) rfl rfl (by kernel_rfl) (by kernel_rfl) (by kernel_rfl) (fun _ _ _ h => h) (by rfl) hHeld (fun w hSw => ?_) ?_
  rotate_left
  · ((try dsimp only at hSw); go_simp; try with_reducible rfl)
  simp only [Act.put, List.setIfInBounds_toArray, List.set_cons_zero, List.set_cons_succ]
  refine regSkip 5 (some 17) rfl rfl (by kernel_rfl) (by kernel_rfl) (by kernel_rfl) (fun _ _ _ h => h) (by rfl) hHeld ?_
  simp only [Act.put, List.setIfInBounds_toArray, List.set_cons_zero, List.set_cons_succ]
  refine regSkip 6 (some 18) rfl rfl (by kernel_rfl) (by kernel_rfl) (by kernel_rfl) (fun _ _ _ h => h) (by rfl) hHeld ?_
  simp only [Act.put, List.setIfInBounds_toArray, List.set_cons_zero, List.set_cons_succ]
  refine regSkip 7 (some 19) rfl rfl (by kernel_rfl) (by kernel_rfl) (by kernel_rfl) (fun _ _ _ h => h) (by rfl) hHeld ?_
  simp only [Act.put, List.setIfInBounds_toArray, List.set_cons_zero, List.set_cons_succ]
  refine regSkip 8 (some 20) rfl rfl (by kernel_rfl) (by kernel_rfl) (by kernel_rfl) (fun _ _ _ h => h) (by rfl) hHeld ?_
  simp only [Act.put, List.setIfInBounds_toArray, List.set_cons_zero, List.set_cons_succ]
  refine regSkip 9 (some 21) rfl rfl (by kernel_rfl) (by kernel_rfl) (by kernel_rfl) (fun _ _ _ h => h) (by rfl) hHeld ?_
  simp only [Act.put, List.setIfInBounds_toArray, List.set_cons_zero, List.set_cons_succ]
  refine regSkip 10 (some 22) rfl rfl (by kernel_rfl) (by kernel_rfl) (by kernel_rfl) (fun _ _ _ h => h) (by rfl) hHeld ?_
  simp only [Act.put, List.setIfInBounds_toArray, List.set_cons_zero, List.set_cons_succ]
  refine regSkip 11 (some 23) rfl rfl (by kernel_rfl) (by kernel_rfl) (by kernel_rfl) (fun _ _ _ h => h) (by rfl) hHeld ?_
  simp only [Act.put, List.setIfInBounds_toArray, List.set_cons_zero, List.set_cons_succ]
  refine regSkip 12 (some 24) rfl rfl (by kernel_rfl) (by kernel_rfl) (by kernel_rfl) (fun _ _ _ h => h) (by rfl) hHeld ?_
  simp only [Act.put, List.setIfInBounds_toArray, List.set_cons_zero, List.set_cons_succ]
  refine regTake 13 (some 25) (v := ?_) rfl rfl (by kernel_rfl) (by kernel_rfl) (by kernel_rfl) (fun _ _ _ h => h) (by rfl) hHeld (fun w hSw => ?_) ?_
  rotate_left
  · ((try dsimp only at hSw); go_simp; try with_reducible rfl)
  simp only [Act.put, List.setIfInBounds_toArray, List.set_cons_zero, List.set_cons_succ]
  refine regTake 14 (some 26) (v := ?_) rfl rfl (by kernel_rfl) (by kernel_rfl) (by kernel_rfl) (fun _ _ _ h => h) (by rfl) hHeld (fun w hSw => ?_) ?_
  rotate_left
  · ((try dsimp only at hSw); go_simp; try with_reducible rfl)
  simp only [Act.put, List.setIfInBounds_toArray, List.set_cons_zero, List.set_cons_succ]
  refine regSkip 15 (some 27) rfl rfl (by kernel_rfl) (by kernel_rfl) (by kernel_rfl) (fun _ _ _ h => h) (by rfl) hHeld ?_
  simp only [Act.put, List.setIfInBounds_toArray, List.set_cons_zero, List.set_cons_succ]
  refine regSkip 16 (some 28) rfl rfl (by kernel_rfl) (by kernel_rfl) (by kernel_rfl) (fun _ _ _ h => h) (by rfl) hHeld ?_
  simp only [Act.put, List.setIfInBounds_toArray, List.set_cons_zero, List.set_cons_succ]
  refine regSkip 17 (some 29) rfl rfl (by kernel_rfl) (by kernel_rfl) (by kernel_rfl) (fun _ _ _ h => h) (by rfl) hHeld ?_
  simp only [Act.put, List.setIfInBounds_toArray, List.set_cons_zero, List.set_cons_succ]
  refine regSkip 18 (some 30) rfl rfl (by kernel_rfl) (by kernel_rfl) (by kernel_rfl) (fun _ _ _ h => h) (by rfl) hHeld ?_
  simp only [Act.put, List.setIfInBounds_toArray, List.set_cons_zero, List.set_cons_succ]
  refine regSkip 19 (some 31) rfl rfl (by kernel_rfl) (by kernel_rfl) (by kernel_rfl) (fun _ _ _ h => h) (by rfl) hHeld ?_
  simp only [Act.put, List.setIfInBounds_toArray, List.set_cons_zero, List.set_cons_succ]
  refine regSkip 20 (some 32) rfl rfl (by kernel_rfl) (by kernel_rfl) (by kernel_rfl) (fun _ _ _ h => h) (by rfl) hHeld ?_
  simp only [Act.put, List.setIfInBounds_toArray, List.set_cons_zero, List.set_cons_succ]
  refine regSkip 21 (some 33) rfl rfl (by kernel_rfl) (by kernel_rfl) (by kernel_rfl) (fun _ _ _ h => h) (by rfl) hHeld ?_
  simp only [Act.put, List.setIfInBounds_toArray, List.set_cons_zero, List.set_cons_succ]
  refine regTake 22 (some 34) (v := ?_) rfl rfl (by kernel_rfl) (by kernel_rfl) (by kernel_rfl) (fun _ _ _ h => h) (by rfl) hHeld (fun w hSw => ?_) ?_
  rotate_left
  · ((try dsimp only at hSw); go_simp; try with_reducible rfl)
  simp only [Act.put, List.setIfInBounds_toArray, List.set_cons_zero, List.set_cons_succ]
  refine wpAnyH_done (by kernel_rfl) ?_ _
  have hst : Below W0.heap.size W0 W0.drew := bD
  have q4' := (hst.block Z lZ0).trans q4
  obtain ⟨k0, f0⟩ := HZ.out 0 W0.drew (by omega) (q4')
  obtain ⟨k1, f1⟩ := HZ.out 1 W0.drew (by omega) (q4')
  obtain ⟨k2, f2⟩ := HZ.out 2 W0.drew (by omega) (q4')
  obtain ⟨k3, f3⟩ := HZ.out 3 W0.drew (by omega) (q4')
  obtain ⟨k4, f4⟩ := HZ4.out W0.drew (q4')
  have bE := seqB bW0 hst
  generalize W0.drew = W1 at k0 f0 k1 f1 k2 f2 k3 f3 k4 f4 bE ⊢
  clear HF q0 q1 q2 q3
  go_wp2_with fail
  have r0 : (((((W1.setCell ⟨Z, 0, none⟩ (.int .u64 0)).setCell ⟨Z, 1, none⟩ (.int .u64 0)).setCell ⟨Z, 2, none⟩ (.int .u64 0)).setCell ⟨Z, 3, none⟩ (.int .u64 0)).setCell ⟨Z, 4, none⟩ (.bool false)).cell? ⟨Z, 0, none⟩ = some (.int .u64 0) := by go_simp
  have r1 : (((((W1.setCell ⟨Z, 0, none⟩ (.int .u64 0)).setCell ⟨Z, 1, none⟩ (.int .u64 0)).setCell ⟨Z, 2, none⟩ (.int .u64 0)).setCell ⟨Z, 3, none⟩ (.int .u64 0)).setCell ⟨Z, 4, none⟩ (.bool false)).cell? ⟨Z, 1, none⟩ = some (.int .u64 0) := by go_simp
  have r2 : (((((W1.setCell ⟨Z, 0, none⟩ (.int .u64 0)).setCell ⟨Z, 1, none⟩ (.int .u64 0)).setCell ⟨Z, 2, none⟩ (.int .u64 0)).setCell ⟨Z, 3, none⟩ (.int .u64 0)).setCell ⟨Z, 4, none⟩ (.bool false)).cell? ⟨Z, 2, none⟩ = some (.int .u64 0) := by go_simp
  have r3 : (((((W1.setCell ⟨Z, 0, none⟩ (.int .u64 0)).setCell ⟨Z, 1, none⟩ (.int .u64 0)).setCell ⟨Z, 2, none⟩ (.int .u64 0)).setCell ⟨Z, 3, none⟩ (.int .u64 0)).setCell ⟨Z, 4, none⟩ (.bool false)).cell? ⟨Z, 3, none⟩ = some (.int .u64 0) := by go_simp
  have r4 : (((((W1.setCell ⟨Z, 0, none⟩ (.int .u64 0)).setCell ⟨Z, 1, none⟩ (.int .u64 0)).setCell ⟨Z, 2, none⟩ (.int .u64 0)).setCell ⟨Z, 3, none⟩ (.int .u64 0)).setCell ⟨Z, 4, none⟩ (.bool false)).cell? ⟨Z, 4, none⟩ = some (.bool false) := by go_simp
  refine bodyPost_ret (v := .agg #[.int .u64 0, .int .u64 0, .int .u64 0, .int .u64 0, .bool false]) (by simp [results, Try.results41, go_sem, r0, r1, r2, r3, r4]; try rfl) rfl ?_
  refine ⟨by rw [HCO.out]; rfl, ?_⟩
  exact (((((bE.setCell (p := ⟨Z, 0, none⟩) hZb _).setCell (p := ⟨Z, 1, none⟩) hZb _).setCell (p := ⟨Z, 2, none⟩) hZb _).setCell (p := ⟨Z, 3, none⟩) hZb _).setCell (p := ⟨Z, 4, none⟩) hZb _)

set_option maxRecDepth 100000 in
set_option maxHeartbeats 4000000 in
theorem rcollide_len1 (n i l1 l2 : Int) (v1 v2 : Value) (ps1 ps2 : List Int) (w : World) (h1 : Sl .u64 w v1 ps1) (h2 : Sl .u64 w v2 ps2) (hz : Mk.place n i = 0) (hlen : ¬ ps1.length = (Mk.steps n.toNat i.toNat).length) :
    Calls Try.prog 41 #[.int .i64 n, .int .i64 i, .agg #[.int .u64 l1, v1], .agg #[.int .u64 l2, v2]] w fun e w' => e = .returned (Mk.hit5 (Mk.collide n i l1 ps1 l2 ps2)) ∧ Below w.heap.size w w' := by
  obtain ⟨p, hpe⟩ : ∃ p, Mk.place n i = p := ⟨_, rfl⟩
  have hp : p = 0 := hpe.symm.trans hz
  clear hz
  have HLN := hid hlen
  clear hlen
  have H1 := hid h1
  have H2 := hid h2
  obtain ⟨a1, c1, rfl, _⟩ := h1
  obtain ⟨a2, c2, rfl, _⟩ := h2
  have q0 : (((w.alloc (.cells #[.int .u64 l1, .slice a1 ps1.length c1] 50)).alloc (.cells #[.int .u64 l2, .slice a2 ps2.length c2] 50)).alloc (.cells #[.int .u64 0, .int .u64 0, .int .u64 0, .int .u64 0, .bool false] 64)).cell? ⟨w.heap.size, 0, none⟩ = some (.int .u64 l1) := by go_simp
  have q1 : (((w.alloc (.cells #[.int .u64 l1, .slice a1 ps1.length c1] 50)).alloc (.cells #[.int .u64 l2, .slice a2 ps2.length c2] 50)).alloc (.cells #[.int .u64 0, .int .u64 0, .int .u64 0, .int .u64 0, .bool false] 64)).cell? ⟨w.heap.size, 1, none⟩ = some (.slice a1 ps1.length c1) := by go_simp
  have q2 : (((w.alloc (.cells #[.int .u64 l1, .slice a1 ps1.length c1] 50)).alloc (.cells #[.int .u64 l2, .slice a2 ps2.length c2] 50)).alloc (.cells #[.int .u64 0, .int .u64 0, .int .u64 0, .int .u64 0, .bool false] 64)).cell? ⟨w.heap.size + 1, 0, none⟩ = some (.int .u64 l2) := by go_simp
  have q3 : (((w.alloc (.cells #[.int .u64 l1, .slice a1 ps1.length c1] 50)).alloc (.cells #[.int .u64 l2, .slice a2 ps2.length c2] 50)).alloc (.cells #[.int .u64 0, .int .u64 0, .int .u64 0, .int .u64 0, .bool false] 64)).cell? ⟨w.heap.size + 1, 1, none⟩ = some (.slice a2 ps2.length c2) := by go_simp
  have q4 : (((w.alloc (.cells #[.int .u64 l1, .slice a1 ps1.length c1] 50)).alloc (.cells #[.int .u64 l2, .slice a2 ps2.length c2] 50)).alloc (.cells #[.int .u64 0, .int .u64 0, .int .u64 0, .int .u64 0, .bool false] 64)).heap[w.heap.size + 1 + 1]? = some (.cells #[.int .u64 0, .int .u64 0, .int .u64 0, .int .u64 0, .bool false] 64 (0, 0)) := by
    have h := heap_alloc_new ((w.alloc (.cells #[.int .u64 l1, .slice a1 ps1.length c1] 50)).alloc (.cells #[.int .u64 l2, .slice a2 ps2.length c2] 50)) (.cells #[.int .u64 0, .int .u64 0, .int .u64 0, .int .u64 0, .bool false] 64)
    simp only [World.size_alloc] at h
    exact h
  have bW0 : Below w.heap.size w (((w.alloc (.cells #[.int .u64 l1, .slice a1 ps1.length c1] 50)).alloc (.cells #[.int .u64 l2, .slice a2 ps2.length c2] 50)).alloc (.cells #[.int .u64 0, .int .u64 0, .int .u64 0, .int .u64 0, .bool false] 64)) := seqB (aB w _) (seqB (aB _ _) (aB _ _))
  have zW0 : (((w.alloc (.cells #[.int .u64 l1, .slice a1 ps1.length c1] 50)).alloc (.cells #[.int .u64 l2, .slice a2 ps2.length c2] 50)).alloc (.cells #[.int .u64 0, .int .u64 0, .int .u64 0, .int .u64 0, .bool false] 64)).heap.size = w.heap.size + 1 + 1 + 1 := by simp
  have hZb : w.heap.size ≤ w.heap.size + 1 + 1 := by omega
  have zc : ∀ (Z j : Nat) (u : World), j < 4 → u.heap[Z]? = some (.cells #[.int .u64 0, .int .u64 0, .int .u64 0, .int .u64 0, .bool false] 64 (0, 0)) → u.cell? ⟨Z, j, none⟩ = some (.int .u64 0) ∧ u.frozen? ⟨Z, j, none⟩ = false := by
    intro Z j u hj hu
    constructor
    · match j, hj with
      | 0, _ => simp [World.cell?, hu]
      | 1, _ => simp [World.cell?, hu]
      | 2, _ => simp [World.cell?, hu]
      | 3, _ => simp [World.cell?, hu]
    · simp [World.frozen?, hu]
  have zc4 : ∀ (Z : Nat) (u : World), u.heap[Z]? = some (.cells #[.int .u64 0, .int .u64 0, .int .u64 0, .int .u64 0, .bool false] 64 (0, 0)) → u.cell? ⟨Z, 4, none⟩ = some (.bool false) ∧ u.frozen? ⟨Z, 4, none⟩ = false := by
    intro Z u hu
    exact ⟨by simp [World.cell?, hu], by simp [World.frozen?, hu]⟩
  go_enter Try.func41, Try.ntmps41
  go_wp2_with fail
  generalize (((w.alloc (.cells #[.int .u64 l1, .slice a1 ps1.length c1] 50)).alloc (.cells #[.int .u64 l2, .slice a2 ps2.length c2] 50)).alloc (.cells #[.int .u64 0, .int .u64 0, .int .u64 0, .int .u64 0, .bool false] 64)) = W0 at q0 q1 q2 q3 q4 bW0 zW0 ⊢
  have lX1 : w.heap.size < W0.heap.size := by omega
  have lX2 : w.heap.size + 1 < W0.heap.size := by omega
  have lZ0 : w.heap.size + 1 + 1 < W0.heap.size := by omega
  generalize w.heap.size + 1 + 1 = Z at q4 hZb lZ0 ⊢
  generalize w.heap.size + 1 = X2 at q2 q3 lX2 ⊢
  have HZ := hid (zc Z)
  have HZ4 := hid (zc4 Z)
  clear zc zc4 zW0
  have HQ1 := hid (H1.out.stays bW0)
  have HQ2 := hid (H2.out.stays bW0)
  have bD : Below W0.heap.size W0 W0.drew := dB W0
  have hf : ∀ u, Below W0.heap.size W0 u → u.cell? ⟨w.heap.size, 1, none⟩ = some (.slice a1 ps1.length c1) ∧ u.cell? ⟨X2, 1, none⟩ = some (.slice a2 ps2.length c2) := fun u hu => ⟨(hu.cell (p := ⟨w.heap.size, 1, none⟩) lX1).trans q1, (hu.cell (p := ⟨X2, 1, none⟩) lX2).trans q3⟩
  have HF := hid hf
  clear hf H1 H2
  have cP := hid (fun u => (rplace_any n i u).mono (R' := fun e w' => e = .returned (.int .i64 p) ∧ w' = u) (by rintro e w' ⟨rfl, rfl⟩; exact ⟨by rw [hpe], rfl⟩))
  subst hp
  obtain ⟨n', i', rfl, rfl, hi, hn⟩ := Mk.place_zero hpe
  have hco : Mk.collide n' i' l1 ps1 l2 ps2 = Mk.collideAt n' i' l1 ps1 l2 ps2 := by unfold Mk.collide; rw [if_pos hpe]; rfl
  have HCOL := hid hco
  have hsl := Mk.steps_length hi
  obtain ⟨L, hL⟩ : ∃ L, (Mk.steps n' i').length = L := ⟨_, rfl⟩
  rw [hL] at hsl
  have HL := hid hL
  have cS := hid (fun u => rsteps_ind n' n' i' u (Nat.le_refl _) hn hi)
  clear hco hpe hL
  have hx : ¬ ps1.length = L := fun h => HLN.out (h.trans HL.out.symm)
  have t1 : ((ps1.length : Int) == (L : Int)) = false := by rw [beq_eq_false_iff_ne]; omega
  have t1n : ((ps1.length : Int) != (L : Int)) = true := by rw [bne_iff_ne]; omega
  have HCO : Hid (Mk.collide n' i' l1 ps1 l2 ps2 = none) := by
    show _ = _
    rw [HCOL.out]; unfold Mk.collideAt; rw [HL.out, if_neg (fun h => hx h.1)]
  clear hx
  have h0 := HF.out _ bD
  refine wp_region_held_drew (S := (fun u => u.cell? ⟨w.heap.size, 1, none⟩ = some (.slice a1 ps1.length c1) ∧ u.cell? ⟨X2, 1, none⟩ = some (.slice a2 ps2.length c2))) (by kernel_rfl) h0 (fun hHeld => ?_)
  refine regTake 0 (some 12) (v := ?_) rfl rfl (by kernel_rfl) (by kernel_rfl) (by kernel_rfl) (fun _ _ _ h => h) (by rfl) hHeld (fun w hSw => ?_) ?_
  rotate_left
  · ((try dsimp only at hSw); go_simp; try with_reducible rfl)
  simp only [Act.put, List.setIfInBounds_toArray, List.set_cons_zero, List.set_cons_succ]
  refine regTake 1 (some 13) (v := ?_) rfl rfl (by kernel_rfl) (by kernel_rfl) (by kernel_rfl) (fun _ _ _ h => h) (by rfl) hHeld (fun w hSw => ?_) ?_
  rotate_left
  · ((try dsimp only at hSw); go_simp; try with_reducible rfl)
  simp only [Act.put, List.setIfInBounds_toArray, List.set_cons_zero, List.set_cons_succ]
  refine regStep 2 rfl (by kernel_rfl) (by rfl) (fun K hK => ?_)
  go_simp
  (with_reducible refine (cP.out _).mono ?_)
  rintro e w' ⟨rfl, rfl⟩
  refine hK.out _ _ ?_ (fun hHeld => ?_)
  · first | exact h0 | exact HF.out _ hst
  clear hK K
  refine regTake 3 (some 15) (v := ?_) rfl rfl (by kernel_rfl) (by kernel_rfl) (by kernel_rfl) (fun _ _ _ h => h) (by rfl) hHeld (fun w hSw => ?_) ?_
  rotate_left
  · ((try dsimp only at hSw); go_simp; try with_reducible rfl)
  simp only [Act.put, List.setIfInBounds_toArray, List.set_cons_zero, List.set_cons_succ]
  refine regTake 4 (some 16) (v := ?_) rfl rfl (by kernel_rfl) (by kernel_rfl) (by kernel_rfl) (fun _ _ _ h => h) (by rfl) hHeld (fun w hSw => ?_) ?_
  rotate_left
  · ((try dsimp only at hSw); go_simp; try with_reducible rfl)
  simp only [Act.put, List.setIfInBounds_toArray, List.set_cons_zero, List.set_cons_succ]
  refine regTake 5 (some 17) (v := ?_) rfl rfl (by kernel_rfl) (by kernel_rfl) (by kernel_rfl) (fun _ _ _ h => h) (by rfl) hHeld (fun w hSw => ?_) ?_
  rotate_left
  · ((try dsimp only at hSw); go_simp; try with_reducible rfl)
  simp only [Act.put, List.setIfInBounds_toArray, List.set_cons_zero, List.set_cons_succ]
  refine regTake 6 (some 18) (v := ?_) rfl rfl (by kernel_rfl) (by kernel_rfl) (by kernel_rfl) (fun _ _ _ h => h) (by rfl) hHeld (fun w hSw => ?_) ?_
  rotate_left
  · ((try dsimp only at hSw); go_simp; try with_reducible rfl)
  simp only [Act.put, List.setIfInBounds_toArray, List.set_cons_zero, List.set_cons_succ]
  refine regTake 7 (some 19) (v := ?_) rfl rfl (by kernel_rfl) (by kernel_rfl) (by kernel_rfl) (fun _ _ _ h => h) (by rfl) hHeld (fun w hSw => ?_) ?_
  rotate_left
  · ((try dsimp only at hSw); go_simp; try with_reducible rfl)
  simp only [Act.put, List.setIfInBounds_toArray, List.set_cons_zero, List.set_cons_succ]
  refine regTake 8 (some 20) (v := ?_) rfl rfl (by kernel_rfl) (by kernel_rfl) (by kernel_rfl) (fun _ _ _ h => h) (by rfl) hHeld (fun w hSw => ?_) ?_
  rotate_left
  · ((try dsimp only at hSw); go_simp; try with_reducible rfl)
  simp only [Act.put, List.setIfInBounds_toArray, List.set_cons_zero, List.set_cons_succ]
  refine regTake 9 (some 21) (v := ?_) rfl rfl (by kernel_rfl) (by kernel_rfl) (by kernel_rfl) (fun _ _ _ h => h) (by rfl) hHeld (fun w hSw => ?_) ?_
  rotate_left
  · ((try dsimp only at hSw); go_simp; try with_reducible rfl)
  simp only [Act.put, List.setIfInBounds_toArray, List.set_cons_zero, List.set_cons_succ]
  refine regStep 10 rfl (by kernel_rfl) (by rfl) (fun K hK => ?_)
  go_simp
  (with_reducible refine (cS.out _).mono ?_)
  rintro e w1 ⟨v1, rfl, ho1, b1⟩
  have hst := seqB bD b1
  obtain ⟨sa, sc, rfl, _⟩ := ho1.form
  rw [HL.out]
  refine hK.out _ _ ?_ (fun hHeld => ?_)
  · first | exact h0 | exact HF.out _ hst
  clear hK K
  refine regTake 11 (some 23) (v := ?_) rfl rfl (by kernel_rfl) (by kernel_rfl) (by kernel_rfl) (fun _ _ _ h => h) (by rfl) hHeld (fun w hSw => ?_) ?_
  rotate_left
  · ((try dsimp only at hSw); go_simp; try with_reducible rfl)
  simp only [Act.put, List.setIfInBounds_toArray, List.set_cons_zero, List.set_cons_succ]
  refine regTake 12 (some 24) (v := ?_) rfl rfl (by kernel_rfl) (by kernel_rfl) (by kernel_rfl) (fun _ _ _ h => h) (by rfl) hHeld (fun w hSw => ?_) ?_
  rotate_left
  · ((try dsimp only at hSw); go_simp; try with_reducible rfl)
  simp only [Act.put, List.setIfInBounds_toArray, List.set_cons_zero, List.set_cons_succ]
  refine regTake 13 (some 25) (v := ?_) rfl rfl (by kernel_rfl) (by kernel_rfl) (by kernel_rfl) (fun _ _ _ h => h) (by rfl) hHeld (fun w hSw => ?_) ?_
  rotate_left
  · ((try dsimp only at hSw); go_simp; try with_reducible rfl)
  simp only [Act.put, List.setIfInBounds_toArray, List.set_cons_zero, List.set_cons_succ]
  refine regTake 14 (some 26) (v := ?_) rfl rfl (by kernel_rfl) (by kernel_rfl) (by kernel_rfl) (fun _ _ _ h => h) (by rfl) hHeld (fun w hSw => ?_) ?_
  rotate_left
  · ((try dsimp only at hSw); go_simp; try with_reducible rfl)
  simp only [Act.put, List.setIfInBounds_toArray, List.set_cons_zero, List.set_cons_succ]
  refine regSkip 15 (some 27) rfl rfl (by kernel_rfl) (by kernel_rfl) (by kernel_rfl) (fun _ _ _ h => h) (by rfl) hHeld ?_
  simp only [Act.put, List.setIfInBounds_toArray, List.set_cons_zero, List.set_cons_succ]
  refine regSkip 16 (some 28) rfl rfl (by kernel_rfl) (by kernel_rfl) (by kernel_rfl) (fun _ _ _ h => h) (by rfl) hHeld ?_
  simp only [Act.put, List.setIfInBounds_toArray, List.set_cons_zero, List.set_cons_succ]
  refine regSkip 17 (some 29) rfl rfl (by kernel_rfl) (by kernel_rfl) (by kernel_rfl) (fun _ _ _ h => h) (by rfl) hHeld ?_
  simp only [Act.put, List.setIfInBounds_toArray, List.set_cons_zero, List.set_cons_succ]
  refine regSkip 18 (some 30) rfl rfl (by kernel_rfl) (by kernel_rfl) (by kernel_rfl) (fun _ _ _ h => h) (by rfl) hHeld ?_
  simp only [Act.put, List.setIfInBounds_toArray, List.set_cons_zero, List.set_cons_succ]
  refine regSkip 19 (some 31) rfl rfl (by kernel_rfl) (by kernel_rfl) (by kernel_rfl) (fun _ _ _ h => h) (by rfl) hHeld ?_
  simp only [Act.put, List.setIfInBounds_toArray, List.set_cons_zero, List.set_cons_succ]
  refine regSkip 20 (some 32) rfl rfl (by kernel_rfl) (by kernel_rfl) (by kernel_rfl) (fun _ _ _ h => h) (by rfl) hHeld ?_
  simp only [Act.put, List.setIfInBounds_toArray, List.set_cons_zero, List.set_cons_succ]
  refine regSkip 21 (some 33) rfl rfl (by kernel_rfl) (by kernel_rfl) (by kernel_rfl) (fun _ _ _ h => h) (by rfl) hHeld ?_
  simp only [Act.put, List.setIfInBounds_toArray, List.set_cons_zero, List.set_cons_succ]
  refine regTake 22 (some 34) (v := ?_) rfl rfl (by kernel_rfl) (by kernel_rfl) (by kernel_rfl) (fun _ _ _ h => h) (by rfl) hHeld (fun w hSw => ?_) ?_
  rotate_left
  · ((try dsimp only at hSw); go_simp; try with_reducible rfl)
  simp only [Act.put, List.setIfInBounds_toArray, List.set_cons_zero, List.set_cons_succ]
  refine wpAnyH_done (by kernel_rfl) ?_ _
  have q4' := (hst.block Z lZ0).trans q4
  obtain ⟨k0, f0⟩ := HZ.out 0 w1 (by omega) (q4')
  obtain ⟨k1, f1⟩ := HZ.out 1 w1 (by omega) (q4')
  obtain ⟨k2, f2⟩ := HZ.out 2 w1 (by omega) (q4')
  obtain ⟨k3, f3⟩ := HZ.out 3 w1 (by omega) (q4')
  obtain ⟨k4, f4⟩ := HZ4.out w1 (q4')
  have bE := seqB bW0 hst
  clear HF q0 q1 q2 q3
  go_wp2_with fail
  have r0 : (((((w1.setCell ⟨Z, 0, none⟩ (.int .u64 0)).setCell ⟨Z, 1, none⟩ (.int .u64 0)).setCell ⟨Z, 2, none⟩ (.int .u64 0)).setCell ⟨Z, 3, none⟩ (.int .u64 0)).setCell ⟨Z, 4, none⟩ (.bool false)).cell? ⟨Z, 0, none⟩ = some (.int .u64 0) := by go_simp
  have r1 : (((((w1.setCell ⟨Z, 0, none⟩ (.int .u64 0)).setCell ⟨Z, 1, none⟩ (.int .u64 0)).setCell ⟨Z, 2, none⟩ (.int .u64 0)).setCell ⟨Z, 3, none⟩ (.int .u64 0)).setCell ⟨Z, 4, none⟩ (.bool false)).cell? ⟨Z, 1, none⟩ = some (.int .u64 0) := by go_simp
  have r2 : (((((w1.setCell ⟨Z, 0, none⟩ (.int .u64 0)).setCell ⟨Z, 1, none⟩ (.int .u64 0)).setCell ⟨Z, 2, none⟩ (.int .u64 0)).setCell ⟨Z, 3, none⟩ (.int .u64 0)).setCell ⟨Z, 4, none⟩ (.bool false)).cell? ⟨Z, 2, none⟩ = some (.int .u64 0) := by go_simp
  have r3 : (((((w1.setCell ⟨Z, 0, none⟩ (.int .u64 0)).setCell ⟨Z, 1, none⟩ (.int .u64 0)).setCell ⟨Z, 2, none⟩ (.int .u64 0)).setCell ⟨Z, 3, none⟩ (.int .u64 0)).setCell ⟨Z, 4, none⟩ (.bool false)).cell? ⟨Z, 3, none⟩ = some (.int .u64 0) := by go_simp
  have r4 : (((((w1.setCell ⟨Z, 0, none⟩ (.int .u64 0)).setCell ⟨Z, 1, none⟩ (.int .u64 0)).setCell ⟨Z, 2, none⟩ (.int .u64 0)).setCell ⟨Z, 3, none⟩ (.int .u64 0)).setCell ⟨Z, 4, none⟩ (.bool false)).cell? ⟨Z, 4, none⟩ = some (.bool false) := by go_simp
  refine bodyPost_ret (v := .agg #[.int .u64 0, .int .u64 0, .int .u64 0, .int .u64 0, .bool false]) (by simp [results, Try.results41, go_sem, r0, r1, r2, r3, r4]; try rfl) rfl ?_
  refine ⟨by rw [HCO.out]; rfl, ?_⟩
  exact (((((bE.setCell (p := ⟨Z, 0, none⟩) hZb _).setCell (p := ⟨Z, 1, none⟩) hZb _).setCell (p := ⟨Z, 2, none⟩) hZb _).setCell (p := ⟨Z, 3, none⟩) hZb _).setCell (p := ⟨Z, 4, none⟩) hZb _)

set_option maxRecDepth 100000 in
set_option maxHeartbeats 4000000 in
theorem rcollide_len2 (n i l1 l2 : Int) (v1 v2 : Value) (ps1 ps2 : List Int) (w : World) (h1 : Sl .u64 w v1 ps1) (h2 : Sl .u64 w v2 ps2) (hz : Mk.place n i = 0) (hlen : ps1.length = (Mk.steps n.toNat i.toNat).length ∧ ¬ ps2.length = ps1.length) :
    Calls Try.prog 41 #[.int .i64 n, .int .i64 i, .agg #[.int .u64 l1, v1], .agg #[.int .u64 l2, v2]] w fun e w' => e = .returned (Mk.hit5 (Mk.collide n i l1 ps1 l2 ps2)) ∧ Below w.heap.size w w' := by
  obtain ⟨p, hpe⟩ : ∃ p, Mk.place n i = p := ⟨_, rfl⟩
  have hp : p = 0 := hpe.symm.trans hz
  clear hz
  have HLN := hid hlen
  clear hlen
  have H1 := hid h1
  have H2 := hid h2
  obtain ⟨a1, c1, rfl, _⟩ := h1
  obtain ⟨a2, c2, rfl, _⟩ := h2
  have q0 : (((w.alloc (.cells #[.int .u64 l1, .slice a1 ps1.length c1] 50)).alloc (.cells #[.int .u64 l2, .slice a2 ps2.length c2] 50)).alloc (.cells #[.int .u64 0, .int .u64 0, .int .u64 0, .int .u64 0, .bool false] 64)).cell? ⟨w.heap.size, 0, none⟩ = some (.int .u64 l1) := by go_simp
  have q1 : (((w.alloc (.cells #[.int .u64 l1, .slice a1 ps1.length c1] 50)).alloc (.cells #[.int .u64 l2, .slice a2 ps2.length c2] 50)).alloc (.cells #[.int .u64 0, .int .u64 0, .int .u64 0, .int .u64 0, .bool false] 64)).cell? ⟨w.heap.size, 1, none⟩ = some (.slice a1 ps1.length c1) := by go_simp
  have q2 : (((w.alloc (.cells #[.int .u64 l1, .slice a1 ps1.length c1] 50)).alloc (.cells #[.int .u64 l2, .slice a2 ps2.length c2] 50)).alloc (.cells #[.int .u64 0, .int .u64 0, .int .u64 0, .int .u64 0, .bool false] 64)).cell? ⟨w.heap.size + 1, 0, none⟩ = some (.int .u64 l2) := by go_simp
  have q3 : (((w.alloc (.cells #[.int .u64 l1, .slice a1 ps1.length c1] 50)).alloc (.cells #[.int .u64 l2, .slice a2 ps2.length c2] 50)).alloc (.cells #[.int .u64 0, .int .u64 0, .int .u64 0, .int .u64 0, .bool false] 64)).cell? ⟨w.heap.size + 1, 1, none⟩ = some (.slice a2 ps2.length c2) := by go_simp
  have q4 : (((w.alloc (.cells #[.int .u64 l1, .slice a1 ps1.length c1] 50)).alloc (.cells #[.int .u64 l2, .slice a2 ps2.length c2] 50)).alloc (.cells #[.int .u64 0, .int .u64 0, .int .u64 0, .int .u64 0, .bool false] 64)).heap[w.heap.size + 1 + 1]? = some (.cells #[.int .u64 0, .int .u64 0, .int .u64 0, .int .u64 0, .bool false] 64 (0, 0)) := by
    have h := heap_alloc_new ((w.alloc (.cells #[.int .u64 l1, .slice a1 ps1.length c1] 50)).alloc (.cells #[.int .u64 l2, .slice a2 ps2.length c2] 50)) (.cells #[.int .u64 0, .int .u64 0, .int .u64 0, .int .u64 0, .bool false] 64)
    simp only [World.size_alloc] at h
    exact h
  have bW0 : Below w.heap.size w (((w.alloc (.cells #[.int .u64 l1, .slice a1 ps1.length c1] 50)).alloc (.cells #[.int .u64 l2, .slice a2 ps2.length c2] 50)).alloc (.cells #[.int .u64 0, .int .u64 0, .int .u64 0, .int .u64 0, .bool false] 64)) := seqB (aB w _) (seqB (aB _ _) (aB _ _))
  have zW0 : (((w.alloc (.cells #[.int .u64 l1, .slice a1 ps1.length c1] 50)).alloc (.cells #[.int .u64 l2, .slice a2 ps2.length c2] 50)).alloc (.cells #[.int .u64 0, .int .u64 0, .int .u64 0, .int .u64 0, .bool false] 64)).heap.size = w.heap.size + 1 + 1 + 1 := by simp
  have hZb : w.heap.size ≤ w.heap.size + 1 + 1 := by omega
  have zc : ∀ (Z j : Nat) (u : World), j < 4 → u.heap[Z]? = some (.cells #[.int .u64 0, .int .u64 0, .int .u64 0, .int .u64 0, .bool false] 64 (0, 0)) → u.cell? ⟨Z, j, none⟩ = some (.int .u64 0) ∧ u.frozen? ⟨Z, j, none⟩ = false := by
    intro Z j u hj hu
    constructor
    · match j, hj with
      | 0, _ => simp [World.cell?, hu]
      | 1, _ => simp [World.cell?, hu]
      | 2, _ => simp [World.cell?, hu]
      | 3, _ => simp [World.cell?, hu]
    · simp [World.frozen?, hu]
  have zc4 : ∀ (Z : Nat) (u : World), u.heap[Z]? = some (.cells #[.int .u64 0, .int .u64 0, .int .u64 0, .int .u64 0, .bool false] 64 (0, 0)) → u.cell? ⟨Z, 4, none⟩ = some (.bool false) ∧ u.frozen? ⟨Z, 4, none⟩ = false := by
    intro Z u hu
    exact ⟨by simp [World.cell?, hu], by simp [World.frozen?, hu]⟩
  go_enter Try.func41, Try.ntmps41
  go_wp2_with fail
  generalize (((w.alloc (.cells #[.int .u64 l1, .slice a1 ps1.length c1] 50)).alloc (.cells #[.int .u64 l2, .slice a2 ps2.length c2] 50)).alloc (.cells #[.int .u64 0, .int .u64 0, .int .u64 0, .int .u64 0, .bool false] 64)) = W0 at q0 q1 q2 q3 q4 bW0 zW0 ⊢
  have lX1 : w.heap.size < W0.heap.size := by omega
  have lX2 : w.heap.size + 1 < W0.heap.size := by omega
  have lZ0 : w.heap.size + 1 + 1 < W0.heap.size := by omega
  generalize w.heap.size + 1 + 1 = Z at q4 hZb lZ0 ⊢
  generalize w.heap.size + 1 = X2 at q2 q3 lX2 ⊢
  have HZ := hid (zc Z)
  have HZ4 := hid (zc4 Z)
  clear zc zc4 zW0
  have HQ1 := hid (H1.out.stays bW0)
  have HQ2 := hid (H2.out.stays bW0)
  have bD : Below W0.heap.size W0 W0.drew := dB W0
  have hf : ∀ u, Below W0.heap.size W0 u → u.cell? ⟨w.heap.size, 1, none⟩ = some (.slice a1 ps1.length c1) ∧ u.cell? ⟨X2, 1, none⟩ = some (.slice a2 ps2.length c2) := fun u hu => ⟨(hu.cell (p := ⟨w.heap.size, 1, none⟩) lX1).trans q1, (hu.cell (p := ⟨X2, 1, none⟩) lX2).trans q3⟩
  have HF := hid hf
  clear hf H1 H2
  have cP := hid (fun u => (rplace_any n i u).mono (R' := fun e w' => e = .returned (.int .i64 p) ∧ w' = u) (by rintro e w' ⟨rfl, rfl⟩; exact ⟨by rw [hpe], rfl⟩))
  subst hp
  obtain ⟨n', i', rfl, rfl, hi, hn⟩ := Mk.place_zero hpe
  have hco : Mk.collide n' i' l1 ps1 l2 ps2 = Mk.collideAt n' i' l1 ps1 l2 ps2 := by unfold Mk.collide; rw [if_pos hpe]; rfl
  have HCOL := hid hco
  have hsl := Mk.steps_length hi
  obtain ⟨L, hL⟩ : ∃ L, (Mk.steps n' i').length = L := ⟨_, rfl⟩
  rw [hL] at hsl
  have HL := hid hL
  have cS := hid (fun u => rsteps_ind n' n' i' u (Nat.le_refl _) hn hi)
  clear hco hpe hL
  have hx : ps1.length = L := HLN.out.1.trans HL.out
  have hy : ¬ ps2.length = ps1.length := HLN.out.2
  have t1 : ((ps1.length : Int) == (L : Int)) = true := by rw [beq_iff_eq]; omega
  have t1n : ((ps1.length : Int) != (L : Int)) = false := by rw [bne_eq_false_iff_eq]; omega
  have HX := hid hx
  clear hx
  have t2 : ((ps2.length : Int) == (ps1.length : Int)) = false := by rw [beq_eq_false_iff_ne]; omega
  have t2n : ((ps2.length : Int) != (ps1.length : Int)) = true := by rw [bne_iff_ne]; omega
  have HCO : Hid (Mk.collide n' i' l1 ps1 l2 ps2 = none) := by
    show _ = _
    rw [HCOL.out]; unfold Mk.collideAt; rw [HL.out, if_neg (fun h => hy (h.2.trans h.1.symm))]
  clear hy
  have h0 := HF.out _ bD
  first | (go_region_held3 (fun u => u.cell? ⟨w.heap.size, 1, none⟩ = some (.slice a1 ps1.length c1) ∧ u.cell? ⟨X2, 1, none⟩ = some (.slice a2 ps2.length c2))
        (first | exact h0 | exact HF.out _ hst | assumption)
        (first
          | (go_at_call 51; (with_reducible refine (cP.out _).mono ?_); rintro e w' ⟨rfl, rfl⟩)
          | (go_at_call 52; (with_reducible refine (cS.out _).mono ?_); rintro e w1 ⟨v1, rfl, ho1, b1⟩; have hst := seqB bD b1; obtain ⟨sa, sc, rfl, _⟩ := ho1.form; rw [HL.out]))) | fail
  have q4' := (hst.block Z lZ0).trans q4
  obtain ⟨k0, f0⟩ := HZ.out 0 w1 (by omega) (q4')
  obtain ⟨k1, f1⟩ := HZ.out 1 w1 (by omega) (q4')
  obtain ⟨k2, f2⟩ := HZ.out 2 w1 (by omega) (q4')
  obtain ⟨k3, f3⟩ := HZ.out 3 w1 (by omega) (q4')
  obtain ⟨k4, f4⟩ := HZ4.out w1 (q4')
  have bE := seqB bW0 hst
  clear HF q0 q1 q2 q3
  go_wp2_with fail
  have r0 : (((((w1.setCell ⟨Z, 0, none⟩ (.int .u64 0)).setCell ⟨Z, 1, none⟩ (.int .u64 0)).setCell ⟨Z, 2, none⟩ (.int .u64 0)).setCell ⟨Z, 3, none⟩ (.int .u64 0)).setCell ⟨Z, 4, none⟩ (.bool false)).cell? ⟨Z, 0, none⟩ = some (.int .u64 0) := by go_simp
  have r1 : (((((w1.setCell ⟨Z, 0, none⟩ (.int .u64 0)).setCell ⟨Z, 1, none⟩ (.int .u64 0)).setCell ⟨Z, 2, none⟩ (.int .u64 0)).setCell ⟨Z, 3, none⟩ (.int .u64 0)).setCell ⟨Z, 4, none⟩ (.bool false)).cell? ⟨Z, 1, none⟩ = some (.int .u64 0) := by go_simp
  have r2 : (((((w1.setCell ⟨Z, 0, none⟩ (.int .u64 0)).setCell ⟨Z, 1, none⟩ (.int .u64 0)).setCell ⟨Z, 2, none⟩ (.int .u64 0)).setCell ⟨Z, 3, none⟩ (.int .u64 0)).setCell ⟨Z, 4, none⟩ (.bool false)).cell? ⟨Z, 2, none⟩ = some (.int .u64 0) := by go_simp
  have r3 : (((((w1.setCell ⟨Z, 0, none⟩ (.int .u64 0)).setCell ⟨Z, 1, none⟩ (.int .u64 0)).setCell ⟨Z, 2, none⟩ (.int .u64 0)).setCell ⟨Z, 3, none⟩ (.int .u64 0)).setCell ⟨Z, 4, none⟩ (.bool false)).cell? ⟨Z, 3, none⟩ = some (.int .u64 0) := by go_simp
  have r4 : (((((w1.setCell ⟨Z, 0, none⟩ (.int .u64 0)).setCell ⟨Z, 1, none⟩ (.int .u64 0)).setCell ⟨Z, 2, none⟩ (.int .u64 0)).setCell ⟨Z, 3, none⟩ (.int .u64 0)).setCell ⟨Z, 4, none⟩ (.bool false)).cell? ⟨Z, 4, none⟩ = some (.bool false) := by go_simp
  refine bodyPost_ret (v := .agg #[.int .u64 0, .int .u64 0, .int .u64 0, .int .u64 0, .bool false]) (by simp [results, Try.results41, go_sem, r0, r1, r2, r3, r4]; try rfl) rfl ?_
  refine ⟨by rw [HCO.out]; rfl, ?_⟩
  exact (((((bE.setCell (p := ⟨Z, 0, none⟩) hZb _).setCell (p := ⟨Z, 1, none⟩) hZb _).setCell (p := ⟨Z, 2, none⟩) hZb _).setCell (p := ⟨Z, 3, none⟩) hZb _).setCell (p := ⟨Z, 4, none⟩) hZb _)

end Go.Proofs.Ytifpkhgcoopjnaa
