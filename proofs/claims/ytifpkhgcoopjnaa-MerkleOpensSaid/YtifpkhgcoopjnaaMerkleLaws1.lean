/- The law MerkleOpens: its call returns true. No conditions. -/
import Derived.Test.YtifpkhgcoopjnaaMerkleEx
import Derived.Test.YtifpkhgcoopjnaaMerklePlain
namespace Go.Proofs.Ytifpkhgcoopjnaa
open Go.RowKit

set_option maxRecDepth 100000 in
set_option maxHeartbeats 1000000 in
theorem merkleOpens_true (a : Option Addr) (len cap : Nat) (zs : List Int) (n i : Int) (w : World) (hr : IsRow .u64 w a len cap zs) (hn : (Lit.int .u16 n).wf = true) (hi : (Lit.int .u16 i).wf = true) :
    Calls Try.prog 10 #[.slice a len cap, .int .u16 n, .int .u16 i] w fun e w' => e = .returned (.bool true) ∧ Below w.heap.size w w' := by
  obtain ⟨xs, rfl, hs, _⟩ := Sl.of_row hr
  have hn' := bounds_u16 hn
  have hi' := bounds_u16 hi
  clear hr hn hi
  have HS := hid hs
  obtain ⟨m, hm⟩ : ∃ m : Nat, 1 + n % 4096 = (m : Int) := ⟨(1 + n % 4096).toNat, by omega⟩
  have hm1 : 1 ≤ m := by omega
  have hm2 : m ≤ 4096 := by omega
  go_enter Try.func10, Try.ntmps10
  go_wp2_with fail
  refine (examples4_any _).mono ?_
  rintro e w1 ⟨rfl, b1⟩
  go_wp2_with fail
  refine (grown_any _ xs m _ (by omega) (HS.out.stays b1)).mono ?_
  rintro e w2 ⟨v2, rfl, ho2, b2⟩
  obtain ⟨ys, hys⟩ : ∃ ys, Mk.grown xs m = ys := ⟨_, rfl⟩
  have hyl : ys.length = m := by rw [← hys, Mk.grown_length]
  rw [hys] at ho2
  have hs2 := ho2.sl
  obtain ⟨g, gc, rfl, hg0, hg1, hg2, hg3⟩ := ho2.form (by omega)
  obtain ⟨k, hk⟩ : ∃ k : Nat, i % (m : Int) = (k : Int) := ⟨(i % (m : Int)).toNat, by have := Int.emod_nonneg i (b := (m : Int)) (by omega); omega⟩
  have hkm : k < m := by have := Int.emod_lt_of_pos i (b := (m : Int)) (by omega); omega
  have hc := ho2.cellAt k (by omega)
  have hmz : ((m : Int) == 0) = false := by rw [beq_eq_false_iff_ne]; omega
  rw [hyl] at hs2 ⊢
  have HO := hid hs2
  have HC := hid hc.1
  clear ho2 hs2 hc HS hys hn' hm
  go_wp2_with fail
  refine (root_any _ ys _ (by omega) HO.out).mono ?_
  rintro e w3 ⟨rfl, q3, rfl⟩
  go_wp2_with fail
  refine (openL_ok _ ys k _ (by omega) (by omega) (HO.out.stays (drewB w2 q3))).mono ?_
  rintro e w4 ⟨p, rfl, ho4, b4⟩
  have hpl := Mk.path_le (l := ys) (i := k) (by omega) (by omega)
  have hp0 : m = 1 → (Mk.path ys k).length = 0 := fun h => by
    rw [Mk.path_length (by omega), hyl, h, show k = 0 by omega]; rfl
  obtain ⟨ap, cp, rfl, _⟩ := ho4.sl
  obtain ⟨pl, hpe⟩ : ∃ pl, (Mk.path ys k).length = pl := ⟨_, rfl⟩
  have hck := Mk.check_path (l := ys) (i := k) (by omega) (by omega)
  have HP := hid ho4.sl
  rw [hpe] at hpl hp0 ⊢
  rw [hpe] at HP
  obtain ⟨y, hy⟩ : ∃ y, ys.getD k 0 = y := ⟨_, rfl⟩
  rw [hy] at HC hck
  rw [hyl] at hck
  clear ho4
  go_wp2_with fail
  have f0 : (w4.alloc (.cells #[.slice ap pl cp, .int .i64 0] 46)).cell? ⟨w4.heap.size, 0, none⟩ = some (.slice ap pl cp) := by go_simp
  have f1 : (w4.alloc (.cells #[.slice ap pl cp, .int .i64 0] 46)).cell? ⟨w4.heap.size, 1, none⟩ = some (.int .i64 0) := by go_simp
  have b24 : Below w2.heap.size w2 (w4.alloc (.cells #[.slice ap pl cp, .int .i64 0] 46)) := seqB (drewB w2 q3) (seqB b4 (aB w4 _))
  have f2 : (w4.alloc (.cells #[.slice ap pl cp, .int .i64 0] 46)).cell? ⟨g, k, none⟩ = some (.int .u64 y) := by rw [b24.cell (p := ⟨g, k, none⟩) hg1]; exact HC.out
  have HPW := hid (HP.out.stays (aB w4 (.cells #[.slice ap pl cp, .int .i64 0] 46)))
  have hbW : Below w.heap.size w (w4.alloc (.cells #[.slice ap pl cp, .int .i64 0] 46)) := seqB b1 (seqB b2 b24)
  generalize w4.alloc (.cells #[.slice ap pl cp, .int .i64 0] 46) = W at f0 f1 f2 b24 HPW hbW ⊢
  generalize w4.heap.size = P at f0 f1 ⊢
  obtain ⟨R, hR⟩ : ∃ R, I (Mk.root ys) = R := ⟨_, rfl⟩
  rw [hR] at hck ⊢
  have hf : ∀ u, Below W.heap.size W u → Below W.heap.size W u ∧ u.cell? ⟨P, 0, none⟩ = some (.slice ap pl cp) ∧ u.cell? ⟨P, 1, none⟩ = some (.int .i64 0) ∧ u.cell? ⟨g, k, none⟩ = some (.int .u64 y) := fun u hu =>
    ⟨hu, (hu.cell (p := ⟨P, 0, none⟩) (World.lt_of_cell f0)).trans f0, (hu.cell (p := ⟨P, 1, none⟩) (World.lt_of_cell f1)).trans f1, (hu.cell (p := ⟨g, k, none⟩) (World.lt_of_cell f2)).trans f2⟩
  have cC : ∀ u, Below W.heap.size W u → Calls Try.prog 35 #[.int .u64 R, .int .i64 m, .int .i64 k, .agg #[.int .u64 y, .slice ap pl cp]] u fun e w' => e = .returned (.int .i64 0) ∧ Below u.heap.size u w' := fun u hu => (checkL_any _ _ _ _ _ _ _ (HPW.out.stays hu)).mono (by rintro e w' ⟨rfl, h⟩; exact ⟨by rw [hck], h⟩)
  have HF := hid hf
  have HCC := hid cC
  have b0 : Below W.heap.size W W.drew := dB W
  have t1 : decide ((12 : Int) < (pl : Int)) = false := by simp; omega
  have i1 : (0 : Int) ≤ (k : Int) := by omega
  have i2 : (k : Int) < (m : Int) := by omega
  have HP0 := hid hp0
  clear hf cC f0 f1 f2 b24 HPW HP HO HC hck hp0 hR hy hpe b1 b2 b4 hg0 hg1 hg2 hg3 hs hpl hyl
  go_wp2_with fail
  go_region_held3 (fun u => Below W.heap.size W u ∧ u.cell? ⟨P, 0, none⟩ = some (.slice ap pl cp) ∧ u.cell? ⟨P, 1, none⟩ = some (.int .i64 0) ∧ u.cell? ⟨g, k, none⟩ = some (.int .u64 y))
    (first | exact HF.out _ b0 | exact HF.out _ ⟨hst.os, hst.tape, hst.output, hst.size, hst.block⟩ | assumption)
    (first
      | (go_at_call 35; (with_reducible refine (HCC.out _ (And.left (by assumption))).mono ?_); rintro e w' ⟨rfl, h⟩; have hst := StayB.step (by assumption) h))
  have hend : Below W.heap.size W w' := ⟨hst.os, hst.tape, hst.output, hst.size, hst.block⟩
  obtain ⟨_, z0, _, _⟩ := HF.out _ hend
  by_cases hm : m = 1
  · have t2 : ((m : Int) == 1) = true := by simp; omega
    have t3 : ((pl : Int) == 0) = true := by have := HP0.out hm; simp; omega
    go_wp2
    go_ret
    exact ⟨rfl, seqB hbW hend⟩
  · have t2 : ((m : Int) == 1) = false := by rw [beq_eq_false_iff_ne]; omega
    go_wp2
    go_ret
    exact ⟨rfl, seqB hbW hend⟩
end Go.Proofs.Ytifpkhgcoopjnaa
