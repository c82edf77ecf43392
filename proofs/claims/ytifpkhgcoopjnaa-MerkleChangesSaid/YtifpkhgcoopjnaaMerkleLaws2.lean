/- The law MerkleChanges: its call returns true. No conditions. -/
import Derived.Test.YtifpkhgcoopjnaaMerkleEx
import Derived.Test.YtifpkhgcoopjnaaMerklePlain
namespace Go.Proofs.Ytifpkhgcoopjnaa
open Go.RowKit

set_option maxRecDepth 100000 in
set_option maxHeartbeats 1000000 in
theorem merkleChanges_true (a : Option Addr) (len cap : Nat) (zs ks : List Int) (v : Int) (w : World) (hr : IsRow .u64 w a len cap zs) (hkl : ks.length = 2) (hkw : ∀ z ∈ ks, (Lit.int .u16 z).wf = true) (_ : (Lit.int .u64 v).wf = true) :
    Calls Try.prog 12 #[.slice a len cap, .agg (ks.map (Value.int .u16)).toArray, .int .u64 v] w fun e w' => e = .returned (.bool true) ∧ Below w.heap.size w w' := by
  obtain ⟨xs, rfl, hs, _⟩ := Sl.of_row hr
  obtain ⟨n, i, rfl⟩ : ∃ n i, ks = [n, i] := by
    match ks, hkl with
    | [n, i], _ => exact ⟨n, i, rfl⟩
  have hn' := bounds_u16 (hkw n (by simp))
  have hi' := bounds_u16 (hkw i (by simp))
  clear hr hkl hkw
  have HS := hid hs
  obtain ⟨m, hm⟩ : ∃ m : Nat, 1 + n % 300 = (m : Int) := ⟨(1 + n % 300).toNat, by omega⟩
  have hm1 : 1 ≤ m := by omega
  have hm2 : m ≤ 300 := by omega
  go_enter Try.func12, Try.ntmps12
  go_wp2_with fail
  refine (examples4_any _).mono ?_
  rintro e w1 ⟨rfl, b1⟩
  have kc0 := b1.cell (p := ⟨w.heap.size, 0, none⟩) (by simp)
  have kc1 := b1.cell (p := ⟨w.heap.size, 1, none⟩) (by simp)
  rw [show (w.alloc (.cells #[.int .u16 n, .int .u16 i] 53)).cell? ⟨w.heap.size, 0, none⟩ = some (.int .u16 n) by go_simp] at kc0
  rw [show (w.alloc (.cells #[.int .u16 n, .int .u16 i] 53)).cell? ⟨w.heap.size, 1, none⟩ = some (.int .u16 i) by go_simp] at kc1
  have b01 : Below w.heap.size w w1 := seqB (aB w _) b1
  go_wp2_with fail
  refine (grown_any _ xs m _ (by omega) (HS.out.stays b01)).mono ?_
  rintro e w2 ⟨v2, rfl, ho2, b2⟩
  obtain ⟨ys, hys⟩ : ∃ ys, Mk.grown xs m = ys := ⟨_, rfl⟩
  have hyl : ys.length = m := by rw [← hys, Mk.grown_length]
  rw [hys] at ho2
  have hs2 := ho2.sl
  obtain ⟨g, gc, rfl, hg0, hg1, hg2, hg3⟩ := ho2.form (by omega)
  obtain ⟨k, hk⟩ : ∃ k : Nat, i % (m : Int) = (k : Int) := ⟨(i % (m : Int)).toNat, by have := Int.emod_nonneg i (b := (m : Int)) (by omega); omega⟩
  have hkm : k < m := by have := Int.emod_lt_of_pos i (b := (m : Int)) (by omega); omega
  have hmz : ((m : Int) == 0) = false := by rw [beq_eq_false_iff_ne]; omega
  have kc2 := (b2.cell (p := ⟨w.heap.size, 1, none⟩) (World.lt_of_cell kc1)).trans kc1
  rw [hyl] at hs2 ⊢
  have HO := hid hs2
  clear ho2 hs2 HS hys hn' hm kc0 kc1
  go_wp2_with fail
  refine (openL_ok _ ys k _ (by omega) (by omega) HO.out).mono ?_
  rintro e w3 ⟨p, rfl, ho3, b3⟩
  obtain ⟨ap, cp, rfl, _⟩ := ho3.sl
  obtain ⟨pl, hpe⟩ : ∃ pl, (Mk.path ys k).length = pl := ⟨_, rfl⟩
  have HP := hid ho3.sl
  rw [hpe] at HP ⊢
  clear ho3
  go_wp2_with (at_builtin; apply Hid.out)
  refine hid ?_
  have hX : (w3.alloc (.cells #[.slice ap pl cp, .int .i64 0] 46)).heap.size = w3.heap.size + 1 := by simp
  rw [← hX]
  have f0 : (w3.alloc (.cells #[.slice ap pl cp, .int .i64 0] 46)).cell? ⟨w3.heap.size, 0, none⟩ = some (.slice ap pl cp) := by go_simp
  have f1 : (w3.alloc (.cells #[.slice ap pl cp, .int .i64 0] 46)).cell? ⟨w3.heap.size, 1, none⟩ = some (.int .i64 0) := by go_simp
  have b3W : Below w3.heap.size w3 (w3.alloc (.cells #[.slice ap pl cp, .int .i64 0] 46)) := aB w3 _
  clear hX
  generalize w3.alloc (.cells #[.slice ap pl cp, .int .i64 0] 46) = W3 at f0 f1 b3W ⊢
  refine wpList_appendI elU64 rfl (.tmp 32) (.tmp 33) rfl W3.heap.size [] ys (.slice (some ⟨W3.heap.size, 0, none⟩) 0 0) (.slice (some ⟨g, 0, none⟩) m gc) rfl rfl (Own.empty _ _ _ W3 (Nat.le_refl _)) (((HO.out.stays b3).stays b3W).stays (aB W3 _)) (by simp; omega) (by simp) ?_
  intro v4 w4 ho4 hgr4
  have b4 : Below W3.heap.size W3 w4 := (aB W3 _).trans ((Own.empty W3.heap.size 22 .u64 W3 (Nat.le_refl _)).below hgr4 (by simp))
  rw [List.nil_append] at ho4
  obtain ⟨g2, gc2, rfl, hg20, hg21, hg22, hg23⟩ := ho4.form (by omega)
  have hca := ho4.cellAt k (by omega)
  have hca1 := hca.1
  have hca2 := hca.2
  have hst4 := ho4.stored k v
  rw [List.length_set, hyl] at hst4
  rw [hyl]
  have H4 := hid hst4
  have i1 : (0 : Int) ≤ (k : Int) := by omega
  have i2 : (k : Int) < (m : Int) := by omega
  have b4' : Below W3.heap.size W3 (w4.setCell ⟨g2, k, none⟩ (.int .u64 v)) := b4.setCell (p := ⟨g2, k, none⟩) hg20 _
  clear ho4 hgr4 hst4 hca hg22 hg23
  go_wp2_with fail
  refine (openL_ok _ (ys.set k v) k _ (by rw [List.length_set]; omega) (by rw [List.length_set]; omega) H4.out.sl).mono ?_
  rintro e w5 ⟨q, rfl, ho5, b5⟩
  rw [Mk.path_set v (by omega)] at ho5
  obtain ⟨aq, cq, rfl, _⟩ := ho5.sl
  have HQ := hid ho5.sl
  rw [hpe] at HQ ⊢
  clear ho5
  go_wp2_with fail
  have e0 : (w5.alloc (.cells #[.slice aq pl cq, .int .i64 0] 46)).cell? ⟨w5.heap.size, 0, none⟩ = some (.slice aq pl cq) := by go_simp
  have b5W : Below w5.heap.size w5 (w5.alloc (.cells #[.slice aq pl cq, .int .i64 0] 46)) := aB w5 _
  generalize w5.alloc (.cells #[.slice aq pl cq, .int .i64 0] 46) = W at e0 b5W ⊢
  have bA : Below (w4.setCell ⟨g2, k, none⟩ (.int .u64 v)).heap.size (w4.setCell ⟨g2, k, none⟩ (.int .u64 v)) W := seqB b5 b5W
  have bW : Below W3.heap.size W3 W := b4'.trans (bA.mono b4'.size)
  have f0' := (bW.cell (p := ⟨w3.heap.size, 0, none⟩) (World.lt_of_cell f0)).trans f0
  have f1' := (bW.cell (p := ⟨w3.heap.size, 1, none⟩) (World.lt_of_cell f1)).trans f1
  have HPW := hid ((HP.out.stays b3W).stays bW)
  have HQW := hid (HQ.out.stays b5W)
  have HOW := hid (H4.out.sl.stays bA)
  have hbW : Below w.heap.size w W := seqB b01 (seqB b2 (seqB b3 (seqB b3W bW)))
  generalize w3.heap.size = P at f0' f1' ⊢
  generalize w5.heap.size = P2 at e0 ⊢
  have hck := Mk.check_set (l := ys) (i := k) v (by omega) (by omega)
  rw [hyl] at hck
  obtain ⟨R, hR⟩ : ∃ R, I (Mk.root (ys.set k v)) = R := ⟨_, rfl⟩
  rw [hR] at hck
  have hf : ∀ u, Below W.heap.size W u → Below W.heap.size W u ∧ u.cell? ⟨P, 0, none⟩ = some (.slice ap pl cp) ∧ u.cell? ⟨P, 1, none⟩ = some (.int .i64 0) ∧ u.cell? ⟨P2, 0, none⟩ = some (.slice aq pl cq) := fun u hu =>
    ⟨hu, (hu.cell (p := ⟨P, 0, none⟩) (World.lt_of_cell f0')).trans f0', (hu.cell (p := ⟨P, 1, none⟩) (World.lt_of_cell f1')).trans f1', (hu.cell (p := ⟨P2, 0, none⟩) (World.lt_of_cell e0)).trans e0⟩
  have cS : ∀ u, Below W.heap.size W u → Calls Try.prog 36 #[.slice ap pl cp, .slice aq pl cq] u fun e w' => e = .returned (.bool true) ∧ ∃ q, w' = u.drewN q := fun u hu => (same_any _ _ (Mk.path ys k) (Mk.path ys k) _ (by have := Mk.path_le (l := ys) (i := k) (by omega) (by omega); omega) (HPW.out.stays hu) (HQW.out.stays hu)).mono (by rintro e w' ⟨rfl, h⟩; exact ⟨by simp, h⟩)
  have cR : ∀ u, Below W.heap.size W u → Calls Try.prog 33 #[.slice (some ⟨g2, 0, none⟩) m gc2] u fun e w' => e = .returned (.int .u64 R) ∧ ∃ q, w' = u.drewN q := fun u hu => (root_any _ _ _ (by rw [List.length_set]; omega) (HOW.out.stays hu)).mono (by rintro e w' ⟨rfl, h⟩; exact ⟨by rw [hR], h⟩)
  have cC : ∀ u, Below W.heap.size W u → Calls Try.prog 35 #[.int .u64 R, .int .i64 m, .int .i64 k, .agg #[.int .u64 v, .slice ap pl cp]] u fun e w' => e = .returned (.int .i64 0) ∧ Below u.heap.size u w' := fun u hu => (checkL_any _ _ _ _ _ _ _ (HPW.out.stays hu)).mono (by rintro e w' ⟨rfl, h⟩; exact ⟨by rw [hck], h⟩)
  have HF := hid hf
  have HSS := hid cS
  have HRR := hid cR
  have HCC := hid cC
  have b0 : Below W.heap.size W W.drew := dB W
  clear hf cS cR cC f0 f1 f0' f1' e0 b3W b5W bA bW b4 b4' b5 b3 b2 b1 b01 HPW HQW HOW HP HQ HO H4 hca1 hca2 hck hR hs hyl hpe hg0 hg1 hg2 hg3 hg20 hg21 kc2
  go_region_held3 (fun u => Below W.heap.size W u ∧ u.cell? ⟨P, 0, none⟩ = some (.slice ap pl cp) ∧ u.cell? ⟨P, 1, none⟩ = some (.int .i64 0) ∧ u.cell? ⟨P2, 0, none⟩ = some (.slice aq pl cq))
    (first | exact HF.out _ b0 | exact HF.out _ ⟨hst.os, hst.tape, hst.output, hst.size, hst.block⟩ | assumption)
    (first
      | (go_at_call 36; (with_reducible refine (HSS.out _ (And.left (by assumption))).mono ?_); rintro e w' ⟨rfl, q, rfl⟩; have hst := StayB.drewN (by assumption) q)
      | (go_at_call 33; (with_reducible refine (HRR.out _ (And.left (by assumption))).mono ?_); rintro e w' ⟨rfl, q, rfl⟩; have hst := StayB.drewN (by assumption) q)
      | (go_at_call 35; (with_reducible refine (HCC.out _ (And.left (by assumption))).mono ?_); rintro e w' ⟨rfl, h⟩; have hst := StayB.step (by assumption) h))
  have hend : Below W.heap.size W _ := ⟨hst.os, hst.tape, hst.output, hst.size, hst.block⟩
  go_wp2
  go_ret
  exact ⟨rfl, seqB hbW hend⟩
end Go.Proofs.Ytifpkhgcoopjnaa
