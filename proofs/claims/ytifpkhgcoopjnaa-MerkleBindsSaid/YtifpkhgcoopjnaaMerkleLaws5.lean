/- The law MerkleBinds: its call returns true. No conditions. -/
import Derived.Test.YtifpkhgcoopjnaaMerkleEx
import Derived.Test.YtifpkhgcoopjnaaCollide
import Derived.Test.YtifpkhgcoopjnaaOpen2
namespace Go.Proofs.Ytifpkhgcoopjnaa
open Go.RowKit

theorem eqPr5 (a b c d : Int) (w : World) : (Op.equalIn 10000 59 (.agg #[.int .u64 a, .int .u64 b]) (.agg #[.int .u64 c, .int .u64 d])).run Try.prog w = .ok (a == c && b == d) w := eqPr a b c d w
attribute [local go_sem] eqPr5 guardPr

set_option maxRecDepth 100000 in
set_option maxHeartbeats 2000000 in
theorem merkleBinds_true (a : Option Addr) (len cap : Nat) (zs : List Int) (i leaf : Int) (a2 : Option Addr) (len2 cap2 : Nat) (zs2 : List Int) (w : World) (hr : IsRow .u64 w a len cap zs) (hi : (Lit.int .u8 i).wf = true) (_ : (Lit.int .u64 leaf).wf = true) (hr2 : IsRow .u64 w a2 len2 cap2 zs2) :
    Calls Try.prog 15 #[.slice a len cap, .int .u8 i, .agg #[.int .u64 leaf, .slice a2 len2 cap2]] w fun e w' => e = .returned (.bool true) ∧ Below w.heap.size w w' := by
  obtain ⟨xs, rfl, hs, _⟩ := Sl.of_row hr
  obtain ⟨qs, rfl, hs2, _⟩ := Sl.of_row hr2
  have hi' := bounds_u8 hi
  clear hr hi hr2
  have HS := hid hs
  have HS2 := hid hs2
  clear hs hs2
  -- the argument's box
  have x0 : (w.alloc (.cells #[.int .u64 leaf, .slice a2 qs.length cap2] 50)).cell? ⟨w.heap.size, 0, none⟩ = some (.int .u64 leaf) := by go_simp
  have x1 : (w.alloc (.cells #[.int .u64 leaf, .slice a2 qs.length cap2] 50)).cell? ⟨w.heap.size, 1, none⟩ = some (.slice a2 qs.length cap2) := by go_simp
  have bw0 : Below w.heap.size w (w.alloc (.cells #[.int .u64 leaf, .slice a2 qs.length cap2] 50)) := aB w _
  by_cases hok : 0 < xs.length ∧ xs.length ≤ 40 ∧ qs.length ≤ 40
  · obtain ⟨hp, hl, hq⟩ := hok
    have t0 : ((xs.length : Int) == 0) = false := by rw [beq_eq_false_iff_ne]; omega
    have t1 : decide ((40 : Int) < (xs.length : Int)) = false := decide_eq_false (by omega)
    have t2 : decide ((40 : Int) < (qs.length : Int)) = false := decide_eq_false (by omega)
    obtain ⟨m, hm⟩ : ∃ m, xs.length = m := ⟨_, rfl⟩
    obtain ⟨k, hk⟩ : ∃ k : Nat, i % (m : Int) = (k : Int) := ⟨(i % (m : Int)).toNat, by have := Int.emod_nonneg i (b := (m : Int)) (by omega); omega⟩
    have hkm : k < m := by have := Int.emod_lt_of_pos i (b := (m : Int)) (by omega); omega
    go_enter Try.func15, Try.ntmps15
    go_wp2_with fail
    generalize w.alloc (.cells #[.int .u64 leaf, .slice a2 qs.length cap2] 50) = w0 at x0 x1 bw0 ⊢
    generalize w.heap.size = X at x0 x1 ⊢
    refine (examples4_any _).mono ?_
    rintro e w1 ⟨rfl, b1⟩
    have y0 := (b1.cell (p := ⟨X, 0, none⟩) (World.lt_of_cell x0)).trans x0
    have y1 := (b1.cell (p := ⟨X, 1, none⟩) (World.lt_of_cell x1)).trans x1
    have HS1 := hid ((HS.out.stays bw0).stays b1)
    rw [hm] at HS1 t0 t1 ⊢
    clear HS
    go_wp2_with fail
    -- BEGIN
    refine (root_any _ xs _ (by omega) HS1.out).mono ?_
    rintro e w2 ⟨rfl, q2, rfl⟩
    obtain ⟨R, hR⟩ : ∃ R, I (Mk.root xs) = R := ⟨_, rfl⟩
    rw [hR]
    have b2 : Below w1.heap.size w1 (w1.drewN q2) := drewB w1 q2
    generalize w1.drewN q2 = w2 at b2 ⊢
    go_wp2_with fail
    refine (openL_ok _ xs k _ (by omega) (by omega) (HS1.out.stays b2)).mono ?_
    rintro e w3 ⟨pp, rfl, ho3, b3⟩
    have hpl := Mk.path_le (l := xs) (i := k) (by omega) (by omega)
    have hck0 := Mk.check_path (l := xs) (i := k) (by omega) (by omega)
    obtain ⟨ps, hps⟩ : ∃ ps, Mk.path xs k = ps := ⟨_, rfl⟩
    obtain ⟨y, hy⟩ : ∃ y, xs.getD k 0 = y := ⟨_, rfl⟩
    rw [hps, hy, hR, hm] at hck0
    rw [hps] at ho3 hpl
    obtain ⟨ap, cp, rfl, _⟩ := ho3.sl
    have HP := hid ho3.sl
    obtain ⟨pl, hpe⟩ : ∃ pl, ps.length = pl := ⟨_, rfl⟩
    rw [hpe] at HP ⊢
    clear ho3
    have hcell := HS1.out.form.2.2.2
    obtain ⟨gb, go, rfl, hglt, hgc⟩ := hcell hp
    have hky := hgc k (by omega)
    rw [hy] at hky
    have f0 : (w3.alloc (.cells #[.slice ap pl cp, .int .i64 0] 46)).cell? ⟨w3.heap.size, 0, none⟩ = some (.slice ap pl cp) := by go_simp
    have f1 : (w3.alloc (.cells #[.slice ap pl cp, .int .i64 0] 46)).cell? ⟨w3.heap.size, 1, none⟩ = some (.int .i64 0) := by go_simp
    have b3W : Below w3.heap.size w3 (w3.alloc (.cells #[.slice ap pl cp, .int .i64 0] 46)) := aB w3 _
    have i1 : (0 : Int) ≤ (k : Int) := by omega
    have i2 : (k : Int) < (m : Int) := by omega
    clear hgc hcell
    go_wp2_with fail
    generalize (w3.alloc (.cells #[.slice ap pl cp, .int .i64 0] 46)) = W at f0 f1 b3W ⊢
    generalize w3.heap.size = P at f0 f1 ⊢
    have b1W : Below w1.heap.size w1 W := seqB b2 (seqB b3 b3W)
    have g0 : W.cell? ⟨gb, go + k, none⟩ = some (.int .u64 y) := (b1W.cell (p := ⟨gb, go + k, none⟩) (World.lt_of_cell hky)).trans hky
    have z0 := (b1W.cell (p := ⟨X, 0, none⟩) (World.lt_of_cell y0)).trans y0
    have z1 := (b1W.cell (p := ⟨X, 1, none⟩) (World.lt_of_cell y1)).trans y1
    have HPW := hid (HP.out.stays b3W)
    have HQW := hid (((HS2.out.stays bw0).stays b1).stays b1W)
    have hbW : Below w.heap.size w W := seqB bw0 (seqB b1 b1W)
    have n0 := World.new_ne W _ f0
    have n1 := World.new_ne W _ g0
    clear b1W b3W b3 b2 b1 bw0 y0 y1 x0 x1 hky hglt HS1 HS2 HP hR hps hy hpl
    go_region_held3 (fun u => u.cell? ⟨gb, go + k, none⟩ = some (.int .u64 y) ∧ u.cell? ⟨P, 0, none⟩ = some (.slice ap pl cp)) (go_keep) (fail)
    have bWV : Below W.heap.size W ((W.alloc (.cells #[.int .u64 y, .slice ap pl cp] 50)).drew) := seqB (aB W _) (dB _)
    have d0 : ((W.alloc (.cells #[.int .u64 y, .slice ap pl cp] 50)).drew).cell? ⟨W.heap.size, 0, none⟩ = some (.int .u64 y) := by go_simp
    have d1 : ((W.alloc (.cells #[.int .u64 y, .slice ap pl cp] 50)).drew).cell? ⟨W.heap.size, 1, none⟩ = some (.slice ap pl cp) := by go_simp
    generalize (W.alloc (.cells #[.int .u64 y, .slice ap pl cp] 50)).drew = V at bWV d0 d1 ⊢
    generalize W.heap.size = D at d0 d1 ⊢
    have f1V := (bWV.cell (p := ⟨P, 1, none⟩) (World.lt_of_cell f1)).trans f1
    have z0V := (bWV.cell (p := ⟨X, 0, none⟩) (World.lt_of_cell z0)).trans z0
    have z1V := (bWV.cell (p := ⟨X, 1, none⟩) (World.lt_of_cell z1)).trans z1
    have HPV := hid (HPW.out.stays bWV)
    have HQV := hid (HQW.out.stays bWV)
    have hbV := seqB hbW bWV
    have HCK := hid hck0
    clear f0 f1 g0 z0 z1 n0 n1 HPW HQW hbW bWV hck0
    go_wp2_with fail
    refine (checkL_any R m k y (.slice ap pl cp) ps V HPV.out).mono ?_
    rintro e v1 ⟨rfl, c1⟩
    rw [HCK.out]
    have d0' := (c1.cell (p := ⟨D, 0, none⟩) (World.lt_of_cell d0)).trans d0
    have d1' := (c1.cell (p := ⟨D, 1, none⟩) (World.lt_of_cell d1)).trans d1
    have z0' := (c1.cell (p := ⟨X, 0, none⟩) (World.lt_of_cell z0V)).trans z0V
    have z1' := (c1.cell (p := ⟨X, 1, none⟩) (World.lt_of_cell z1V)).trans z1V
    have HP1 := hid (HPV.out.stays c1)
    have HQ1 := hid (HQV.out.stays c1)
    have hb1 := seqB hbV c1
    clear d0 d1 z0V z1V HPV HQV c1 hbV f1V
    obtain ⟨ck, hckx⟩ : ∃ ck, Mk.check R m k leaf qs = ck := ⟨_, rfl⟩
    obtain ⟨h, hh⟩ : ∃ h, Mk.collide m k y ps leaf qs = h := ⟨_, rfl⟩
    have hbinds : ck = 0 → h = none → y = leaf ∧ ps = qs := fun h1 h2 => Mk.collide_binds HCK.out (hckx.trans h1) (hh.trans h2)
    have HBI := hid hbinds
    have HCX := hid hckx
    have HHH := hid hh
    clear hbinds hckx hh
    by_cases hleaf : leaf = y
    · have t5 : (leaf == y) = true := by simpa using hleaf
      have HLF := hid hleaf
      clear hleaf
      go_wp2_with fail
      refine (same_any (.slice a2 qs.length cap2) (.slice ap pl cp) qs ps v1 (by omega) HQ1.out HP1.out).mono ?_
      rintro e v2 ⟨rfl, q5, rfl⟩
      have b2 : Below v1.heap.size v1 (v1.drewN q5) := drewB v1 q5
      generalize v1.drewN q5 = v2 at b2 ⊢
      have HPc := hid (HP1.out.stays b2)
      have HQc := hid (HQ1.out.stays b2)
      have hbc := seqB hb1 b2
      have z0b := (b2.cell (p := ⟨X, 0, none⟩) (World.lt_of_cell z0')).trans z0'
      have z1b := (b2.cell (p := ⟨X, 1, none⟩) (World.lt_of_cell z1')).trans z1'
      have d0b := (b2.cell (p := ⟨D, 0, none⟩) (World.lt_of_cell d0')).trans d0'
      have d1b := (b2.cell (p := ⟨D, 1, none⟩) (World.lt_of_cell d1')).trans d1'
      clear b2 z0' z1' d0' d1' HP1 HQ1 hb1
      by_cases hqs : qs = ps
      · have t7 : decide (qs = ps) = true := decide_eq_true hqs
        have hsame : Mk.collide (m : Int) (k : Int) y ps leaf qs = none := by rw [HLF.out, hqs]; exact Mk.collide_self _ _ _ _
        have HSAME := hid hsame
        clear hsame hqs
        rw [t7]
        go_wp2_with fail
        refine (collide_any m k y leaf (.slice ap pl cp) (.slice a2 qs.length cap2) ps qs v2 HPc.out HQc.out).mono ?_
        rintro e v3 ⟨rfl, c3⟩
        rw [HHH.out]
        have z0c := (c3.cell (p := ⟨X, 0, none⟩) (World.lt_of_cell z0b)).trans z0b
        have z1c := (c3.cell (p := ⟨X, 1, none⟩) (World.lt_of_cell z1b)).trans z1b
        have HQ3 := hid (HQc.out.stays c3)
        have hb3 := seqB hbc c3
        clear c3 z0b z1b HPc HQc hbc d0b d1b
        cases h with
        | none =>
          dsimp only [Mk.hitV, Option.isSome]
          go_wp2_with fail
          go_quiet (fail)
          have q4 : Below v3.heap.size v3 ((v3.alloc (.cells #[.int .u64 0, .int .u64 0, .int .u64 0, .int .u64 0] 60)).drewN nq) := seqB (aB v3 _) (drewB _ nq)
          generalize (v3.alloc (.cells #[.int .u64 0, .int .u64 0, .int .u64 0, .int .u64 0] 60)).drewN nq = v4 at q4 ⊢
          have z0d := (q4.cell (p := ⟨X, 0, none⟩) (World.lt_of_cell z0c)).trans z0c
          have z1d := (q4.cell (p := ⟨X, 1, none⟩) (World.lt_of_cell z1c)).trans z1c
          have HQ4 := hid (HQ3.out.stays q4)
          have hb4 := seqB hb3 q4
          clear z0c z1c HQ3 hb3 q4
          by_cases hc0 : ck = 0
          · have t6 : (ck == 0) = true := by simpa using hc0
            go_wp2_with fail
            refine (checkL_any R m k leaf (.slice a2 qs.length cap2) qs v4 HQ4.out).mono ?_
            rintro e v5 ⟨rfl, c5⟩
            rw [HCX.out]
            go_wp2_with fail
            go_ret
            exact ⟨rfl, seqB hb4 c5⟩
          · have t6 : (ck == 0) = false := by simpa using hc0
            go_wp2_with fail
            refine (checkL_any R m k leaf (.slice a2 qs.length cap2) qs v4 HQ4.out).mono ?_
            rintro e v5 ⟨rfl, c5⟩
            rw [HCX.out]
            go_wp2_with fail
            go_ret
            exact ⟨rfl, seqB hb4 c5⟩
        | some pq =>
          exact absurd HHH.out (by rw [HSAME.out]; simp)
      · have t7 : decide (qs = ps) = false := decide_eq_false hqs
        have hns : ¬ (y = leaf ∧ ps = qs) := fun h => hqs h.2.symm
        have HNS := hid hns
        clear hns hqs
        rw [t7]
        go_wp2_with fail
        refine (collide_any m k y leaf (.slice ap pl cp) (.slice a2 qs.length cap2) ps qs v2 HPc.out HQc.out).mono ?_
        rintro e v3 ⟨rfl, c3⟩
        rw [HHH.out]
        have z0c := (c3.cell (p := ⟨X, 0, none⟩) (World.lt_of_cell z0b)).trans z0b
        have z1c := (c3.cell (p := ⟨X, 1, none⟩) (World.lt_of_cell z1b)).trans z1b
        have HQ3 := hid (HQc.out.stays c3)
        have hb3 := seqB hbc c3
        clear c3 z0b z1b HPc HQc hbc d0b d1b
        cases h with
        | none =>
          dsimp only [Mk.hitV, Option.isSome]
          go_wp2_with fail
          go_quiet (fail)
          have q4 : Below v3.heap.size v3 ((v3.alloc (.cells #[.int .u64 0, .int .u64 0, .int .u64 0, .int .u64 0] 60)).drewN nq) := seqB (aB v3 _) (drewB _ nq)
          generalize (v3.alloc (.cells #[.int .u64 0, .int .u64 0, .int .u64 0, .int .u64 0] 60)).drewN nq = v4 at q4 ⊢
          have z0d := (q4.cell (p := ⟨X, 0, none⟩) (World.lt_of_cell z0c)).trans z0c
          have z1d := (q4.cell (p := ⟨X, 1, none⟩) (World.lt_of_cell z1c)).trans z1c
          have HQ4 := hid (HQ3.out.stays q4)
          have hb4 := seqB hb3 q4
          clear z0c z1c HQ3 hb3 q4
          have hc0 : ¬ ck = 0 := fun hz => HNS.out (HBI.out hz (by trivial))
          have t6 : (ck == 0) = false := by simpa using hc0
          go_wp2_with fail
          refine (checkL_any R m k leaf (.slice a2 qs.length cap2) qs v4 HQ4.out).mono ?_
          rintro e v5 ⟨rfl, c5⟩
          rw [HCX.out]
          go_wp2_with fail
          go_ret
          exact ⟨rfl, seqB hb4 c5⟩
        | some pq =>
          obtain ⟨⟨p1, p2⟩, ⟨r1, r2⟩⟩ := pq
          dsimp only [Mk.hitV, Option.isSome]
          have hsp := Mk.collide_spec HHH.out
          have hne : ((p1 == r1) && (p2 == r2)) = false := by
            cases h1 : (p1 == r1)
            · rfl
            · cases h2 : (p2 == r2)
              · rfl
              · exact absurd (by rw [eq_of_beq h1, eq_of_beq h2]) hsp.1
          obtain ⟨j, hj⟩ : ∃ j, Mk.joinI (p1, p2) = j := ⟨_, rfl⟩
          have hj2 : Mk.joinI (r1, r2) = j := hsp.2.symm.trans hj
          have cJ1 : ∀ u, Calls Try.prog 21 #[.int .u64 p1, .int .u64 p2] u fun e w' => e = .returned (.int .u64 j) ∧ w' = u := fun u => (join_any _ _ _).mono (by rintro e w' ⟨rfl, rfl⟩; exact ⟨by rw [← hj]; rfl, rfl⟩)
          have cJ2 : ∀ u, Calls Try.prog 21 #[.int .u64 r1, .int .u64 r2] u fun e w' => e = .returned (.int .u64 j) ∧ w' = u := fun u => (join_any _ _ _).mono (by rintro e w' ⟨rfl, rfl⟩; exact ⟨by rw [← hj2]; rfl, rfl⟩)
          have CC1 := hid cJ1
          have CC2 := hid cJ2
          have e0 : (v3.alloc (.cells #[.int .u64 p1, .int .u64 p2, .int .u64 r1, .int .u64 r2] 60)).cell? ⟨v3.heap.size, 0, none⟩ = some (.int .u64 p1) := by go_simp
          have e1 : (v3.alloc (.cells #[.int .u64 p1, .int .u64 p2, .int .u64 r1, .int .u64 r2] 60)).cell? ⟨v3.heap.size, 1, none⟩ = some (.int .u64 p2) := by go_simp
          have e2 : (v3.alloc (.cells #[.int .u64 p1, .int .u64 p2, .int .u64 r1, .int .u64 r2] 60)).cell? ⟨v3.heap.size, 2, none⟩ = some (.int .u64 r1) := by go_simp
          have e3 : (v3.alloc (.cells #[.int .u64 p1, .int .u64 p2, .int .u64 r1, .int .u64 r2] 60)).cell? ⟨v3.heap.size, 3, none⟩ = some (.int .u64 r2) := by go_simp
          clear cJ1 cJ2 hj hj2 hsp
          go_wp2_with fail
          go_quiet ((first
            | (go_at_call 21; with_reducible exact Calls.quiet_of_same (CC1.out _))
            | (go_at_call 21; with_reducible exact Calls.quiet_of_same (CC2.out _))))
          clear e0 e1 e2 e3
          have q4 : Below v3.heap.size v3 ((v3.alloc (.cells #[.int .u64 p1, .int .u64 p2, .int .u64 r1, .int .u64 r2] 60)).drewN nq) := seqB (aB v3 _) (drewB _ nq)
          generalize (v3.alloc (.cells #[.int .u64 p1, .int .u64 p2, .int .u64 r1, .int .u64 r2] 60)).drewN nq = v4 at q4 ⊢
          have z0d := (q4.cell (p := ⟨X, 0, none⟩) (World.lt_of_cell z0c)).trans z0c
          have z1d := (q4.cell (p := ⟨X, 1, none⟩) (World.lt_of_cell z1c)).trans z1c
          have HQ4 := hid (HQ3.out.stays q4)
          have hb4 := seqB hb3 q4
          clear z0c z1c HQ3 hb3 q4
          by_cases hc0 : ck = 0
          · have t6 : (ck == 0) = true := by simpa using hc0
            go_wp2_with fail
            refine (checkL_any R m k leaf (.slice a2 qs.length cap2) qs v4 HQ4.out).mono ?_
            rintro e v5 ⟨rfl, c5⟩
            rw [HCX.out]
            go_wp2_with fail
            go_ret
            exact ⟨rfl, seqB hb4 c5⟩
          · have t6 : (ck == 0) = false := by simpa using hc0
            go_wp2_with fail
            refine (checkL_any R m k leaf (.slice a2 qs.length cap2) qs v4 HQ4.out).mono ?_
            rintro e v5 ⟨rfl, c5⟩
            rw [HCX.out]
            go_wp2_with fail
            go_ret
            exact ⟨rfl, seqB hb4 c5⟩
    · have t5 : (leaf == y) = false := by simpa using hleaf
      have hns : ¬ (y = leaf ∧ ps = qs) := fun h => hleaf h.1.symm
      have HNS := hid hns
      clear hns hleaf
      go_wp2_with fail
      have HPc := HP1
      have HQc := HQ1
      have hbc := hb1
      have z0b := z0'
      have z1b := z1'
      have d0b := d0'
      have d1b := d1'
      refine (collide_any m k y leaf (.slice ap pl cp) (.slice a2 qs.length cap2) ps qs v1 HPc.out HQc.out).mono ?_
      rintro e v3 ⟨rfl, c3⟩
      rw [HHH.out]
      have z0c := (c3.cell (p := ⟨X, 0, none⟩) (World.lt_of_cell z0b)).trans z0b
      have z1c := (c3.cell (p := ⟨X, 1, none⟩) (World.lt_of_cell z1b)).trans z1b
      have HQ3 := hid (HQc.out.stays c3)
      have hb3 := seqB hbc c3
      clear c3 z0b z1b HPc HQc hbc d0b d1b
      cases h with
      | none =>
        dsimp only [Mk.hitV, Option.isSome]
        go_wp2_with fail
        go_quiet (fail)
        have q4 : Below v3.heap.size v3 ((v3.alloc (.cells #[.int .u64 0, .int .u64 0, .int .u64 0, .int .u64 0] 60)).drewN nq) := seqB (aB v3 _) (drewB _ nq)
        generalize (v3.alloc (.cells #[.int .u64 0, .int .u64 0, .int .u64 0, .int .u64 0] 60)).drewN nq = v4 at q4 ⊢
        have z0d := (q4.cell (p := ⟨X, 0, none⟩) (World.lt_of_cell z0c)).trans z0c
        have z1d := (q4.cell (p := ⟨X, 1, none⟩) (World.lt_of_cell z1c)).trans z1c
        have HQ4 := hid (HQ3.out.stays q4)
        have hb4 := seqB hb3 q4
        clear z0c z1c HQ3 hb3 q4
        have hc0 : ¬ ck = 0 := fun hz => HNS.out (HBI.out hz (by trivial))
        have t6 : (ck == 0) = false := by simpa using hc0
        go_wp2_with fail
        refine (checkL_any R m k leaf (.slice a2 qs.length cap2) qs v4 HQ4.out).mono ?_
        rintro e v5 ⟨rfl, c5⟩
        rw [HCX.out]
        go_wp2_with fail
        go_ret
        exact ⟨rfl, seqB hb4 c5⟩
      | some pq =>
        obtain ⟨⟨p1, p2⟩, ⟨r1, r2⟩⟩ := pq
        dsimp only [Mk.hitV, Option.isSome]
        have hsp := Mk.collide_spec HHH.out
        have hne : ((p1 == r1) && (p2 == r2)) = false := by
          cases h1 : (p1 == r1)
          · rfl
          · cases h2 : (p2 == r2)
            · rfl
            · exact absurd (by rw [eq_of_beq h1, eq_of_beq h2]) hsp.1
        obtain ⟨j, hj⟩ : ∃ j, Mk.joinI (p1, p2) = j := ⟨_, rfl⟩
        have hj2 : Mk.joinI (r1, r2) = j := hsp.2.symm.trans hj
        have cJ1 : ∀ u, Calls Try.prog 21 #[.int .u64 p1, .int .u64 p2] u fun e w' => e = .returned (.int .u64 j) ∧ w' = u := fun u => (join_any _ _ _).mono (by rintro e w' ⟨rfl, rfl⟩; exact ⟨by rw [← hj]; rfl, rfl⟩)
        have cJ2 : ∀ u, Calls Try.prog 21 #[.int .u64 r1, .int .u64 r2] u fun e w' => e = .returned (.int .u64 j) ∧ w' = u := fun u => (join_any _ _ _).mono (by rintro e w' ⟨rfl, rfl⟩; exact ⟨by rw [← hj2]; rfl, rfl⟩)
        have CC1 := hid cJ1
        have CC2 := hid cJ2
        have e0 : (v3.alloc (.cells #[.int .u64 p1, .int .u64 p2, .int .u64 r1, .int .u64 r2] 60)).cell? ⟨v3.heap.size, 0, none⟩ = some (.int .u64 p1) := by go_simp
        have e1 : (v3.alloc (.cells #[.int .u64 p1, .int .u64 p2, .int .u64 r1, .int .u64 r2] 60)).cell? ⟨v3.heap.size, 1, none⟩ = some (.int .u64 p2) := by go_simp
        have e2 : (v3.alloc (.cells #[.int .u64 p1, .int .u64 p2, .int .u64 r1, .int .u64 r2] 60)).cell? ⟨v3.heap.size, 2, none⟩ = some (.int .u64 r1) := by go_simp
        have e3 : (v3.alloc (.cells #[.int .u64 p1, .int .u64 p2, .int .u64 r1, .int .u64 r2] 60)).cell? ⟨v3.heap.size, 3, none⟩ = some (.int .u64 r2) := by go_simp
        clear cJ1 cJ2 hj hj2 hsp
        go_wp2_with fail
        go_quiet ((first
          | (go_at_call 21; with_reducible exact Calls.quiet_of_same (CC1.out _))
          | (go_at_call 21; with_reducible exact Calls.quiet_of_same (CC2.out _))))
        clear e0 e1 e2 e3
        have q4 : Below v3.heap.size v3 ((v3.alloc (.cells #[.int .u64 p1, .int .u64 p2, .int .u64 r1, .int .u64 r2] 60)).drewN nq) := seqB (aB v3 _) (drewB _ nq)
        generalize (v3.alloc (.cells #[.int .u64 p1, .int .u64 p2, .int .u64 r1, .int .u64 r2] 60)).drewN nq = v4 at q4 ⊢
        have z0d := (q4.cell (p := ⟨X, 0, none⟩) (World.lt_of_cell z0c)).trans z0c
        have z1d := (q4.cell (p := ⟨X, 1, none⟩) (World.lt_of_cell z1c)).trans z1c
        have HQ4 := hid (HQ3.out.stays q4)
        have hb4 := seqB hb3 q4
        clear z0c z1c HQ3 hb3 q4
        by_cases hc0 : ck = 0
        · have t6 : (ck == 0) = true := by simpa using hc0
          go_wp2_with fail
          refine (checkL_any R m k leaf (.slice a2 qs.length cap2) qs v4 HQ4.out).mono ?_
          rintro e v5 ⟨rfl, c5⟩
          rw [HCX.out]
          go_wp2_with fail
          go_ret
          exact ⟨rfl, seqB hb4 c5⟩
        · have t6 : (ck == 0) = false := by simpa using hc0
          go_wp2_with fail
          refine (checkL_any R m k leaf (.slice a2 qs.length cap2) qs v4 HQ4.out).mono ?_
          rintro e v5 ⟨rfl, c5⟩
          rw [HCX.out]
          go_wp2_with fail
          go_ret
          exact ⟨rfl, seqB hb4 c5⟩
  · go_enter Try.func15, Try.ntmps15
    go_wp2_with fail
    generalize w.alloc (.cells #[.int .u64 leaf, .slice a2 qs.length cap2] 50) = w0 at x0 x1 bw0 ⊢
    generalize w.heap.size = X at x0 x1 ⊢
    refine (examples4_any _).mono ?_
    rintro e w1 ⟨rfl, b1⟩
    have y0 := (b1.cell (p := ⟨X, 0, none⟩) (World.lt_of_cell x0)).trans x0
    have y1 := (b1.cell (p := ⟨X, 1, none⟩) (World.lt_of_cell x1)).trans x1
    by_cases hp : xs.length = 0
    · have t0 : ((xs.length : Int) == 0) = true := by rw [beq_iff_eq]; omega
      go_wp2_with fail
      go_ret
      exact ⟨rfl, seqB bw0 b1⟩
    · have t0 : ((xs.length : Int) == 0) = false := by rw [beq_eq_false_iff_ne]; omega
      by_cases hl : 40 < xs.length
      · have t1 : decide ((40 : Int) < (xs.length : Int)) = true := decide_eq_true (by omega)
        go_wp2_with fail
        go_ret
        exact ⟨rfl, seqB bw0 b1⟩
      · have t1 : decide ((40 : Int) < (xs.length : Int)) = false := decide_eq_false (by omega)
        have t2 : decide ((40 : Int) < (qs.length : Int)) = true := decide_eq_true (by omega)
        go_wp2_with fail
        go_ret
        exact ⟨rfl, seqB bw0 b1⟩
end Go.Proofs.Ytifpkhgcoopjnaa
