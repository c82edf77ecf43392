/- The law MerkleHalves: its call returns true. No conditions. -/
import Derived.Test.YtifpkhgcoopjnaaMerkleEx
import Derived.Test.YtifpkhgcoopjnaaMerklePlain
namespace Go.Proofs.Ytifpkhgcoopjnaa
open Go.RowKit

theorem Mk.path_half {l : List Int} (h : 2 ≤ l.length) : Mk.path l (Mk.half l.length) = (Mk.down (l.drop (Mk.half l.length)) 0).reverse ++ [I (Mk.top (l.take (Mk.half l.length)))] := by
  unfold Mk.path
  rw [Mk.down_right h (Nat.le_refl _), List.reverse_cons, Nat.sub_self]
theorem Mk.path_zero {l : List Int} (h : 2 ≤ l.length) : Mk.path l 0 = (Mk.down (l.take (Mk.half l.length)) 0).reverse ++ [I (Mk.top (l.drop (Mk.half l.length)))] := by
  unfold Mk.path
  rw [Mk.down_left h (Mk.half_pos _), List.reverse_cons]
theorem Mk.half_more {n m : Nat} (hm : 0 < m) (hk : m ≤ Mk.half n) : Mk.half (Mk.half n + m) = Mk.half n :=
  (Mk.half_unique (k := Mk.half n) (e := Nat.log2 (n - 1)) rfl (by omega) (by omega)).symm
theorem getD_last (ds : List Int) (t : Int) : (ds ++ [t]).getD ds.length 0 = t := by
  rw [List.getD_eq_getElem?_getD, List.getElem?_append_right (Nat.le_refl _), Nat.sub_self]; rfl
/-- A slice that ends with t. -/
theorem Sl.last {k : IntKind} {w : World} {v : Value} {ds : List Int} {t : Int} (h : Sl k w v (ds ++ [t])) : ∃ b o cap, v = .slice (some ⟨b, o, none⟩) (ds.length + 1) cap ∧ w.cell? ⟨b, o + ds.length, none⟩ = some (.int k t) := by
  obtain ⟨a, cap, rfl, _, _, _, hf⟩ := h
  obtain ⟨b, o, rfl, _, hc⟩ := hf (by simp)
  refine ⟨b, o, cap, by simp, ?_⟩
  have := hc ds.length (by simp)
  rw [getD_last] at this
  exact this

set_option maxRecDepth 100000 in
set_option maxHeartbeats 1000000 in
theorem merkleHalves_true (a : Option Addr) (len cap : Nat) (zs : List Int) (n : Int) (a2 : Option Addr) (len2 cap2 : Nat) (zs2 : List Int) (w : World) (hr : IsRow .u64 w a len cap zs) (hn : (Lit.int .u8 n).wf = true) (hr2 : IsRow .u64 w a2 len2 cap2 zs2) :
    Calls Try.prog 11 #[.slice a len cap, .int .u8 n, .slice a2 len2 cap2] w fun e w' => e = .returned (.bool true) ∧ Below w.heap.size w w' := by
  obtain ⟨xs, rfl, hs, _⟩ := Sl.of_row hr
  obtain ⟨ms, rfl, hs2, _⟩ := Sl.of_row hr2
  have hn' := bounds_u8 hn
  clear hr hn hr2
  have HS := hid hs
  have HS2 := hid hs2
  clear hs hs2
  obtain ⟨m, hm⟩ : ∃ m : Nat, 2 + n % 199 = (m : Int) := ⟨(2 + n % 199).toNat, by omega⟩
  have hm1 : 2 ≤ m := by omega
  have hm2 : m ≤ 200 := by omega
  by_cases hml : ms.length ≤ 100
  · have t0 : decide ((100 : Int) < (ms.length : Int)) = false := by simp; omega
    go_enter Try.func11, Try.ntmps11
    go_wp2_with fail
    refine (examples4_any _).mono ?_
    rintro e w1 ⟨rfl, b1⟩
    go_wp2_with fail
    refine (grown_any _ xs m _ (by omega) (HS.out.stays b1)).mono ?_
    rintro e w2 ⟨v2, rfl, ho2, b2⟩
    obtain ⟨ys, hys⟩ : ∃ ys, Mk.grown xs m = ys := ⟨_, rfl⟩
    have hyl : ys.length = m := by rw [← hys, Mk.grown_length]
    rw [hys] at ho2
    have hs2 := ho2.sl
    obtain ⟨g, gc, rfl, hg0, hg1, hg2, hg3⟩ := ho2.form (by omega)
    rw [hyl] at hs2 ⊢
    have HO := hid hs2
    have hgc : m ≤ gc := by omega
    clear ho2 hs2 HS hys hn' hm hg2
    go_wp2_with fail
    go_loopw [9] (fun k wr => ∃ k' e : Nat, k = .int .i64 k' ∧ Hid (k' = 2 ^ e) ∧ k' < m ∧ 0 < k' ∧ wr = w2) (fun k _ => m - (intOf k).toNat)
    case atStart => exact ⟨1, 0, rfl, rfl, by omega, by omega, rfl⟩
    case round =>
      obtain ⟨k, e, rfl, he, hk, hk0, rfl⟩ := hrel
      by_cases hlt : 2 * k < m
      · go_wp2
        refine ⟨⟨2 * k, e + 1, by simp, ?_, hlt, by omega, by trivial⟩, by simp [intOf]; omega⟩
        show _ = _
        rw [he.out, Nat.pow_succ, Nat.mul_comm]
      · have hhalf := Mk.half_unique he.out hk (by omega)
        have HH := hid hhalf
        clear hhalf
        have k0 : (0 : Int) ≤ (k : Int) := by omega
        have k1 : (k : Int) ≤ (m : Int) := by omega
        have k2 : (k : Int) ≤ (gc : Int) := by omega
        have k3 : (m : Int) ≤ (gc : Int) := by omega
        have k4 : ¬ k = gc := by omega
        have k5 : ¬ gc = k := by omega
        go_wp2_with (at_builtin; apply Hid.out)
        refine hid ?_
        have hb2 := (HO.out.take k (by omega)).stays (aB wr (.cells #[] 22))
        refine wpList_appendI elU64 rfl (.tmp 35) (.tmp 38) rfl wr.heap.size [] (ys.take k) (.slice (some ⟨wr.heap.size, 0, none⟩) 0 0) (.slice (some ⟨g, 0, none⟩) k gc) rfl rfl (Own.empty _ _ _ wr (Nat.le_refl _)) hb2 (by simp; omega) (by simp) ?_
        intro v3 w3 ho3 hg3'
        have b3 : Below wr.heap.size wr w3 := (aB wr _).trans ((Own.empty wr.heap.size 22 .u64 wr (Nat.le_refl _)).below hg3' (by simp))
        rw [List.nil_append] at ho3
        have HO3 := hid ho3
        clear hg3' hb2 ho3
        go_wp2_with (at_builtin; apply Hid.out)
        refine hid ?_
        have b13 : Below w.heap.size w w3 := seqB b1 (seqB b2 b3)
        refine wpList_appendI elU64 rfl (.tmp 39) (.tmp 40) rfl wr.heap.size (ys.take k) ms v3 (.slice a2 ms.length cap2) rfl rfl HO3.out (HS2.out.stays b13) (by rw [List.length_take]; omega) b3.size ?_
        intro v4 w4 ho4 hg4
        have b4 : Below wr.heap.size wr w4 := b3.trans (HO3.out.below hg4 b3.size)
        have HO4 := hid ho4.sl
        obtain ⟨a4, c4, rfl, _⟩ := ho4.sl
        have hol : (ys.take k ++ ms).length = k + ms.length := by rw [List.length_append, List.length_take]; omega
        rw [hol] at HO4 ⊢
        clear hg4 ho4
        have hpk : Mk.path ys k = (Mk.down (ys.drop k) 0).reverse ++ [I (Mk.top (ys.take k))] := by
          have := Mk.path_half (l := ys) (by omega)
          rw [hyl, ← HH.out] at this
          exact this
        have hpz : Mk.path ys 0 = (Mk.down (ys.take k) 0).reverse ++ [I (Mk.top (ys.drop k))] := by
          have := Mk.path_zero (l := ys) (by omega)
          rw [hyl, ← HH.out] at this
          exact this
        have hd1 := Mk.path_le (l := ys) (i := k) (by omega) (by omega)
        have hd2 := Mk.path_le (l := ys) (i := 0) (by omega) (by omega)
        go_wp2_with fail
        refine (openL_ok _ ys k _ (by omega) (by omega) (HO.out.stays b4)).mono ?_
        rintro e w5 ⟨p, rfl, ho5, b5⟩
        rw [hpk] at ho5 hd1
        obtain ⟨ds1, hds1⟩ : ∃ ds, (Mk.down (ys.drop k) 0).reverse = ds := ⟨_, rfl⟩
        obtain ⟨T1, hT1⟩ : ∃ T, I (Mk.top (ys.take k)) = T := ⟨_, rfl⟩
        rw [hds1, hT1] at ho5
        rw [hds1, List.length_append, List.length_singleton] at hd1
        obtain ⟨pb, po, pc, rfl, hpc⟩ := ho5.sl.last
        obtain ⟨d1, hd1e⟩ : ∃ d, ds1.length = d := ⟨_, rfl⟩
        rw [hd1e] at hd1 hpc ⊢
        have b45 : Below wr.heap.size wr w5 := seqB b4 b5
        clear ho5 hpk
        go_wp2_with fail
        refine (openL_ok _ ys 0 _ (by omega) (by omega) (HO.out.stays b45)).mono ?_
        rintro e w6 ⟨q, rfl, ho6, b6⟩
        rw [hpz] at ho6 hd2
        obtain ⟨ds2, hds2⟩ : ∃ ds, (Mk.down (ys.take k) 0).reverse = ds := ⟨_, rfl⟩
        obtain ⟨T2, hT2⟩ : ∃ T, I (Mk.top (ys.drop k)) = T := ⟨_, rfl⟩
        rw [hds2, hT2] at ho6
        rw [hds2, List.length_append, List.length_singleton] at hd2
        obtain ⟨qb, qo, qc, rfl, hqc⟩ := ho6.sl.last
        obtain ⟨d2, hd2e⟩ : ∃ d, ds2.length = d := ⟨_, rfl⟩
        rw [hd2e] at hd2 hqc ⊢
        have hpc6 := (b6.cell (p := ⟨pb, po + d1, none⟩) (World.lt_of_cell hpc)).trans hpc
        clear ho6 hpz hpc
        have z1 : (((d1 : Int) + 1) == 0) = false := by rw [beq_eq_false_iff_ne]; omega
        have z2 : (((d2 : Int) + 1) == 0) = false := by rw [beq_eq_false_iff_ne]; omega
        have y1 : IntKind.i64.wrap (d1 : Int) = (d1 : Int) := IntWalk.i64_in _ (by omega)
        have y2 : IntKind.i64.wrap (d2 : Int) = (d2 : Int) := IntWalk.i64_in _ (by omega)
        have y3 : (d1 : Int) < (d1 : Int) + 1 := by omega
        have y4 : (d2 : Int) < (d2 : Int) + 1 := by omega
        have y5 : (0 : Int) ≤ (d1 : Int) := by omega
        have y6 : (0 : Int) ≤ (d2 : Int) := by omega
        have np := World.new_ne w6 _ hpc6
        have nq := World.new_ne w6 _ hqc
        have l1 := World.lt_of_cell hpc6
        have l2 := World.lt_of_cell hqc
        have hpcW : ((w6.alloc (.cells #[.slice (some ⟨pb, po, none⟩) (d1 + 1) pc, .int .i64 0] 46)).alloc (.cells #[.slice (some ⟨qb, qo, none⟩) (d2 + 1) qc, .int .i64 0] 46)).cell? ⟨pb, po + d1, none⟩ = some (.int .u64 T1) := by
          rw [(seqB (aB w6 _) (aB _ _)).cell (p := ⟨pb, po + d1, none⟩) l1]; exact hpc6
        go_wp2_with fail
        have hqcW : ((w6.alloc (.cells #[.slice (some ⟨pb, po, none⟩) (d1 + 1) pc, .int .i64 0] 46)).alloc (.cells #[.slice (some ⟨qb, qo, none⟩) (d2 + 1) qc, .int .i64 0] 46)).cell? ⟨qb, qo + d2, none⟩ = some (.int .u64 T2) := by
          rw [(seqB (aB w6 _) (aB _ _)).cell (p := ⟨qb, qo + d2, none⟩) l2]; exact hqc
        have e0 : ((w6.alloc (.cells #[.slice (some ⟨pb, po, none⟩) (d1 + 1) pc, .int .i64 0] 46)).alloc (.cells #[.slice (some ⟨qb, qo, none⟩) (d2 + 1) qc, .int .i64 0] 46)).cell? ⟨w6.heap.size + 1, 0, none⟩ = some (.slice (some ⟨qb, qo, none⟩) (d2 + 1) qc) := by go_simp
        have b6W : Below w6.heap.size w6 ((w6.alloc (.cells #[.slice (some ⟨pb, po, none⟩) (d1 + 1) pc, .int .i64 0] 46)).alloc (.cells #[.slice (some ⟨qb, qo, none⟩) (d2 + 1) qc, .int .i64 0] 46)) := seqB (aB w6 _) (aB _ _)
        generalize ((w6.alloc (.cells #[.slice (some ⟨pb, po, none⟩) (d1 + 1) pc, .int .i64 0] 46)).alloc (.cells #[.slice (some ⟨qb, qo, none⟩) (d2 + 1) qc, .int .i64 0] 46)) = W at hpcW hqcW e0 b6W ⊢
        generalize w6.heap.size + 1 = P2 at e0 ⊢
        generalize w6.heap.size = P1
        have b2W : Below wr.heap.size wr W := seqB b45 (seqB b6 b6W)
        have b4W : Below w4.heap.size w4 W := seqB b5 (seqB b6 b6W)
        have HOW := hid (HO.out.stays b2W)
        have HOO := hid (HO4.out.stays b4W)
        have hbW : Below w.heap.size w W := seqB b1 (seqB b2 b2W)
        have hytl : (ys.take k).length = k := by rw [List.length_take]; omega
        have hydl : (ys.drop k).length = m - k := by rw [List.length_drop]; omega
        obtain ⟨R1, hR1⟩ : ∃ R, I (Mk.root (ys.take k)) = R := ⟨_, rfl⟩
        obtain ⟨R2, hR2⟩ : ∃ R, I (Mk.root (ys.drop k)) = R := ⟨_, rfl⟩
        have hj1 : I (Dg.join (B (k : Int)) (B T1)) = R1 := by rw [← hT1, B_I, ← hR1]; unfold Mk.root; rw [hytl]
        have hj2 : I (Dg.join (B ((m - k : Nat) : Int)) (B T2)) = R2 := by rw [← hT2, B_I, ← hR2]; unfold Mk.root; rw [hydl]
        have s1 := HOW.out.take k (by omega)
        have s2 := HOW.out.drop k (by omega)
        have cR1 : ∀ nn, Calls Try.prog 33 #[.slice (some ⟨g, 0, none⟩) k gc] (W.drewN nn) fun e w' => e = .returned (.int .u64 R1) ∧ ∃ q, w' = (W.drewN nn).drewN q := fun nn => (root_any _ (ys.take k) _ (by omega) (s1.stays (drewB W nn))).mono (by rintro e w' ⟨rfl, h⟩; exact ⟨by rw [hR1], h⟩)
        have cR2 : ∀ nn, Calls Try.prog 33 #[.slice (some ⟨g, k, none⟩) (m - k) (gc - k)] (W.drewN nn) fun e w' => e = .returned (.int .u64 R2) ∧ ∃ q, w' = (W.drewN nn).drewN q := fun nn => (root_any _ (ys.drop k) _ (by omega) (by have := s2.stays (drewB W nn); rw [Nat.zero_add] at this; exact this)).mono (by rintro e w' ⟨rfl, h⟩; exact ⟨by rw [hR2], h⟩)
        have cJ1 : ∀ u, Calls Try.prog 21 #[.int .u64 k, .int .u64 T1] u fun e w' => e = .returned (.int .u64 R1) ∧ w' = u := fun u => (join_any _ _ _).mono (by rintro e w' ⟨rfl, rfl⟩; exact ⟨by rw [hj1], rfl⟩)
        have cJ2 : ∀ u, Calls Try.prog 21 #[.int .u64 ((m - k : Nat) : Int), .int .u64 T2] u fun e w' => e = .returned (.int .u64 R2) ∧ w' = u := fun u => (join_any _ _ _).mono (by rintro e w' ⟨rfl, rfl⟩; exact ⟨by rw [hj2], rfl⟩)
        have C1 := hid cR1
        have C2 := hid cR2
        have C3 := hid cJ1
        have C4 := hid cJ2
        have HT1 := hid hT1
        clear cR1 cR2 cJ1 cJ2 s1 s2 hj1 hj2 hT1 hT2 hR1 hR2 hds1 hds2 hd1e hd2e b6 b6W b5 b45 b4 b4W b13 b3 HO3 hpc6 hqc np nq l1 l2 HS2 hytl hydl HO4 HO
        have x1 : IntKind.u64.wrap (k : Int) = (k : Int) := by rw [IntKind.wrap_u64]; omega
        have x2 : IntKind.i64.wrap ((m : Int) - (k : Int)) = ((m - k : Nat) : Int) := by rw [IntWalk.i64_in _ (by omega)]; omega
        have x3 : IntKind.u64.wrap ((m - k : Nat) : Int) = ((m - k : Nat) : Int) := by rw [IntKind.wrap_u64]; omega
        have x4 : IntKind.i64.wrap ((d2 : Int) + 1 - 1) = (d2 : Int) := by rw [IntWalk.i64_in _ (by omega)]; omega
        go_quiet ((first
          | (go_at_call 33; with_reducible exact Calls.quiet_of (C1.out _))
          | (go_at_call 33; with_reducible exact Calls.quiet_of (C2.out _))
          | (go_at_call 21; with_reducible exact Calls.quiet_of_same (C3.out _))
          | (go_at_call 21; with_reducible exact Calls.quiet_of_same (C4.out _))))
        by_cases hm0 : ms.length = 0
        · have t1 : ((ms.length : Int) == 0) = true := by rw [beq_iff_eq]; omega
          go_wp2
          go_ret
          exact ⟨rfl, seqB hbW (drewB W nq)⟩
        · have t1 : ((ms.length : Int) == 0) = false := by rw [beq_eq_false_iff_ne]; omega
          by_cases hmk : k < ms.length
          · have t2 : decide ((k : Int) < (ms.length : Int)) = true := by simp; omega
            go_wp2
            go_ret
            exact ⟨rfl, seqB hbW (drewB W nq)⟩
          · have t2 : decide ((k : Int) < (ms.length : Int)) = false := by simp; omega
            have hp3 : Mk.path (ys.take k ++ ms) k = (Mk.down ((ys.take k ++ ms).drop k) 0).reverse ++ [T1] := by
              have h := Mk.path_half (l := ys.take k ++ ms) (by omega)
              have h2 : Mk.half (k + ms.length) = k := by have h3 := Mk.half_more (n := m) (m := ms.length) (by omega) (by rw [← HH.out]; omega); rw [← HH.out] at h3; exact h3
              rw [hol, h2, List.take_append_of_le_length (by rw [List.length_take]; omega), List.take_take, Nat.min_self, HT1.out] at h
              exact h
            have hd3 := Mk.path_le (l := ys.take k ++ ms) (i := k) (by omega) (by omega)
            have HOO2 := hid (HOO.out.stays (drewB W nq))
            clear HOO HOW
            go_wp2_with fail
            refine (openL_ok _ (ys.take k ++ ms) k _ (by omega) (by omega) HOO2.out).mono ?_
            rintro e w7 ⟨r, rfl, ho7, b7⟩
            rw [hp3] at ho7 hd3
            obtain ⟨ds3, hds3⟩ : ∃ ds, (Mk.down ((ys.take k ++ ms).drop k) 0).reverse = ds := ⟨_, rfl⟩
            rw [hds3] at ho7
            rw [hds3, List.length_append, List.length_singleton] at hd3
            obtain ⟨rb, ro, rc, rfl, hrc⟩ := ho7.sl.last
            obtain ⟨d3, hd3e⟩ : ∃ d, ds3.length = d := ⟨_, rfl⟩
            rw [hd3e] at hd3 hrc ⊢
            have l3 := World.lt_of_cell hrc
            have hrcW : (w7.alloc (.cells #[.slice (some ⟨rb, ro, none⟩) (d3 + 1) rc, .int .i64 0] 46)).cell? ⟨rb, ro + d3, none⟩ = some (.int .u64 T1) := by
              rw [(aB w7 _).cell (p := ⟨rb, ro + d3, none⟩) l3]; exact hrc
            have z3 : decide ((0 : Int) < (d3 : Int) + 1) = true := decide_eq_true (by omega)
            have y7 : IntKind.i64.wrap (d3 : Int) = (d3 : Int) := IntWalk.i64_in _ (by omega)
            have y8 : (d3 : Int) < (d3 : Int) + 1 := by omega
            have y9 : (0 : Int) ≤ (d3 : Int) := by omega
            clear ho7 hp3 HOO2 hds3 hd3e
            go_wp2_with fail
            go_ret
            exact ⟨rfl, seqB hbW (seqB (drewB W nq) (seqB b7 (aB w7 _)))⟩
  · have t0 : decide ((100 : Int) < (ms.length : Int)) = true := by simp; omega
    go_enter Try.func11, Try.ntmps11
    go_wp2_with fail
    refine (examples4_any _).mono ?_
    rintro e w1 ⟨rfl, b1⟩
    go_wp2_with fail
    go_ret
    exact ⟨rfl, b1⟩
end Go.Proofs.Ytifpkhgcoopjnaa
