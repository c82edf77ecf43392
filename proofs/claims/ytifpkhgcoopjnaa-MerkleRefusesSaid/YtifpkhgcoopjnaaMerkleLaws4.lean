/- The law MerkleRefuses: its call returns true. No conditions. -/
import Derived.Test.YtifpkhgcoopjnaaMerkleEx
import Derived.Test.YtifpkhgcoopjnaaMerklePlain
namespace Go.Proofs.Ytifpkhgcoopjnaa
open Go.RowKit

theorem Own.emptyAt {base X : Nat} {e : TypeId} {k : IntKind} {w : World} (h : w.heap[X]? = some (.cells #[] e (0, 0))) (hb : base ≤ X) : Own base e k w (.slice (some ⟨X, 0, none⟩) 0 0) [] :=
  ⟨rfl, .inr ⟨X, 0, #[], rfl, hb, h, Nat.le_refl _, Nat.zero_le _, rfl, rfl⟩⟩

/-- step_appendI, with what the append leaves as it was. -/
theorem step_appendG {P : Program} {w : World} {t e : TypeId} {k : IntKind} (E : IntEl P t e k) {ops : Array Oper} {o : Oper} {a : Act} {K : Act → World → Prop} {Q : Exit → Act → World → Prop} {F : Prop} (hw : Region.wanted o (yielded ops a.tmps) = true) (s x : Operand)
    (ho : o.op = .call { callee := .builtin .append, args := #[s, x], argTypes := #[t, t] })
    (base : Nat) (xs ys : List Int) (v u : Value) (hs : a.eval s = v) (hx : a.eval x = u) (hown : Own base e k w v xs) (hsl : Sl k w u ys)
    (hbytes : xs.length + ys.length ≤ 17592186044416) (hbase : base ≤ w.heap.size)
    (h : ∀ v' w', Own base e k w' v' (xs ++ ys) → Below base w w' → (∀ g, w.heap[g]? ≠ none → some g ≠ v.ownBlock → w'.heap[g]? = w.heap[g]?) → K (a.put o.dst v') w') : if Region.wanted o (yielded ops a.tmps) = true then Oper.wp P o a w K Q else F := by
  rw [if_pos hw]
  exact wp_appendI E s x ho base xs ys v u hs hx hown hsl hbytes hbase fun v' w' h1 h2 => h v' w' h1 (hown.below h2 hbase) (fun g hg hne => h2.block g (by
    rcases Nat.lt_or_ge g w.heap.size with hlt | hge
    · exact hlt
    · exact absurd (Array.getElem?_eq_none hge) hg) hne)

theorem Mk.place_big (i : Int) : Mk.place 4097 i = 2 := by unfold Mk.place; rw [if_pos (by omega)]
theorem Mk.check_big (root i leaf : Int) (ps : List Int) : Mk.check root 4097 i leaf ps = 2 := by rw [Mk.check_bad (by rw [Mk.place_big]; decide), Mk.place_big]
theorem StayB.join {W u u' : World} {c : Prop} (h : Below W.heap.size W u ∧ c) (hs : Below W.heap.size u u') : Below W.heap.size W u' := h.1.trans hs
theorem Own.keptN {base : Nat} {e : TypeId} {k : IntKind} {w : World} {v : Value} {xs : List Int} (h : Own base e k w v xs) (q : Nat) : Own base e k (w.drewN q) v xs := h.kept (drewB w q)

set_option maxRecDepth 100000 in
set_option maxHeartbeats 6000000 in
theorem merkleRefuses_true (a : Option Addr) (len cap : Nat) (zs : List Int) (n i : Int) (w : World) (hr : IsRow .u64 w a len cap zs) (hn : (Lit.int .u8 n).wf = true) (hi : (Lit.int .i64 i).wf = true) :
    Calls Try.prog 13 #[.slice a len cap, .int .u8 n, .int .i64 i] w fun e w' => e = .returned (.bool true) ∧ Below w.heap.size w w' := by
  obtain ⟨xs, rfl, hs, _⟩ := Sl.of_row hr
  have hn' := bounds_u8 hn
  clear hr hn hi
  have HS := hid hs
  clear hs
  obtain ⟨m, hm⟩ : ∃ m : Nat, 1 + n % 100 = (m : Int) := ⟨(1 + n % 100).toNat, by omega⟩
  have hm1 : 1 ≤ m := by omega
  have hm2 : m ≤ 100 := by omega
  go_enter Try.func13, Try.ntmps13
  go_wp2_with fail
  refine (examples4_any _).mono ?_
  rintro e w1 ⟨rfl, b1⟩
  go_wp2_with fail
  refine (grown_any _ xs m _ (by omega) (HS.out.stays b1)).mono ?_
  rintro e w2 ⟨v2, rfl, ho2, b2⟩
  obtain ⟨ys, hys⟩ : ∃ ys, Mk.grown xs m = ys := ⟨_, rfl⟩
  have hyl : ys.length = m := by rw [← hys, Mk.grown_length]
  rw [hys] at ho2
  have hs2 := ho2.sl
  obtain ⟨g, gc, rfl, hg0, hg1, hg2, hg3⟩ := ho2.form (by omega)
  rw [hyl] at hs2 ⊢
  have HO := hid hs2
  have HCA := hid ho2.cellAt
  clear ho2 hs2 HS hys hn' hm
  go_wp2_with fail
  refine (root_any _ ys _ (by omega) HO.out).mono ?_
  rintro e w3 ⟨rfl, q3, rfl⟩
  obtain ⟨R, hR⟩ : ∃ R, I (Mk.root ys) = R := ⟨_, rfl⟩
  rw [hR]
  have b3 : Below w2.heap.size w2 (w2.drewN q3) := drewB w2 q3
  generalize w2.drewN q3 = w3 at b3 ⊢
  have b03 : Below w.heap.size w w3 := seqB b1 (seqB b2 b3)
  have HO3 := hid (HO.out.stays b3)
  go_wp2_with fail
  by_cases hv : 0 ≤ i ∧ i < m
  · obtain ⟨k, rfl⟩ : ∃ k : Nat, i = k := ⟨i.toNat, by omega⟩
    have hkm : k < m := by omega
    have t0 : decide ((k : Int) < 0) = false := decide_eq_false (by omega)
    have t1 : decide ((m : Int) ≤ (k : Int)) = false := decide_eq_false (by omega)
    have i1 : (0 : Int) ≤ (k : Int) := by omega
    have i2 : (k : Int) < (m : Int) := by omega
    refine (openL_ok _ ys k _ (by omega) (by omega) HO3.out).mono ?_
    rintro e w4 ⟨p, rfl, ho4, b4⟩
    have hpl := Mk.path_le (l := ys) (i := k) (by omega) (by omega)
    have hpst := Mk.path_length (l := ys) (i := k) (by omega)
    obtain ⟨ps, hps⟩ : ∃ ps, Mk.path ys k = ps := ⟨_, rfl⟩
    rw [hps] at ho4 hpl hpst
    obtain ⟨ap, cp, rfl, _, hcpm, _, _⟩ := ho4.sl
    have HP := hid ho4.sl
    obtain ⟨pl, hpe⟩ : ∃ pl, ps.length = pl := ⟨_, rfl⟩
    rw [hpe] at hpl hpst HP ⊢
    have HST := hid hpst
    clear ho4 hpst
    have f0 : (w4.alloc (.cells #[.slice ap pl cp, .int .i64 0] 46)).cell? ⟨w4.heap.size, 0, none⟩ = some (.slice ap pl cp) := by go_simp
    have f1 : (w4.alloc (.cells #[.slice ap pl cp, .int .i64 0] 46)).cell? ⟨w4.heap.size, 1, none⟩ = some (.int .i64 0) := by go_simp
    have b4W : Below w4.heap.size w4 (w4.alloc (.cells #[.slice ap pl cp, .int .i64 0] 46)) := aB w4 _
    go_wp2_with fail
    generalize (w4.alloc (.cells #[.slice ap pl cp, .int .i64 0] 46)) = W at f0 f1 b4W ⊢
    generalize w4.heap.size = P at f0 f1 ⊢
    have HPW : Hid (Sl .u64 W (.slice ap pl cp) ps) := HP.out.stays b4W
    have b3W : Below w3.heap.size w3 W := seqB b4 b4W
    have HOW := hid (HO3.out.stays b3W)
    have hbW : Below w.heap.size w W := seqB b03 b3W
    have hky := (HCA.out k (by omega)).1
    obtain ⟨y, hy⟩ : ∃ y, ys.getD k 0 = y := ⟨_, rfl⟩
    rw [hy] at hky
    have hkyW : W.cell? ⟨g, k, none⟩ = some (.int .u64 y) := ((seqB b3 b3W).cell (p := ⟨g, k, none⟩) (World.lt_of_cell hky)).trans hky
    have hf : ∀ u, Below W.heap.size W u → Below W.heap.size W u ∧ u.cell? ⟨P, 0, none⟩ = some (.slice ap pl cp) := fun u hu =>
      ⟨hu, (hu.cell (p := ⟨P, 0, none⟩) (World.lt_of_cell f0)).trans f0⟩
    have HF := hid hf
    have HKY := hid hkyW
    have b0 : Below W.heap.size W W.drew := dB W
    have HPS := hid (And.intro hps (And.intro hy (And.intro hyl hpe)))
    have F1 := hid f1
    clear hf f0 f1 b4W b3W b4 hky hkyW HP HO3 HO HCA hg0 hg1 hg2 hg3 b1 b2 b3 b03 hps hy hR hyl hcpm
    go_region_held3 (fun u => Below W.heap.size W u ∧ u.cell? ⟨P, 0, none⟩ = some (.slice ap pl cp))
      (first | exact HF.out _ b0 | exact HF.out _ hst6 | exact HF.out _ hst | exact HF.out _ (StayB.alloc (by assumption) _) | assumption)
      (first
        | (refine step_appendG elU64 ?_ (.tmp 57) (.tmp 59) ?_ W.heap.size [] ps (.slice (some ⟨W.heap.size, 0, none⟩) 0 0) (.slice ap pl cp) ?_ ?_ ?_ ?_ ?_ ?_ ?_
           rfl
           rfl
           rfl
           rfl
           (first | exact Own.emptyAt (heap_alloc_new W _) (Nat.le_refl _) | exact Own.emptyAt (((aB (W.alloc (.cells #[] 22)) _).block W.heap.size (by simp)).trans (heap_alloc_new W _)) (Nat.le_refl _))
           (exact HPW.out.stays (And.left (by assumption)))
           (simp; omega)
           (simp; try omega)
           intro v5 w5 ho5 hb5 hk5
           have hst := StayB.join (by assumption) hb5)
        | (refine step_appendG elU64 ?_ (.tmp 57) (.tmp 59) ?_ W.heap.size [] ps (.slice (some ⟨W.heap.size + 1, 0, none⟩) 0 0) (.slice ap pl cp) ?_ ?_ ?_ ?_ ?_ ?_ ?_
           rfl
           rfl
           rfl
           rfl
           (exact Own.emptyAt (by have h := heap_alloc_new (W.alloc (.cells #[.int .u64 0] 22)) (.cells #[] 22); rw [World.size_alloc] at h; exact h) (Nat.le_succ _))
           (exact HPW.out.stays (And.left (by assumption)))
           (simp; omega)
           (simp; try omega)
           intro v5 w5 ho5 hb5 hk5
           have hst := StayB.join (by assumption) hb5)
        | (refine step_appendG elU64 ?_ (.tmp 60) (.tmp 61) ?_ W.heap.size ([] ++ ps) [0] v5 (.slice (some ⟨w5.heap.size, 0, none⟩) 1 1) ?_ ?_ ?_ ?_ ?_ ?_ ?_
           rfl
           rfl
           rfl
           rfl
           (exact ho5.kept (aB w5 _))
           (exact Sl.single _ _ _ _ (by go_simp))
           (simp; omega)
           (have := hst.size; simp; omega)
           intro v6 w6 ho6 hb6 hk6
           have hst6 := StayB.join (by assumption) hb6)
        | (refine step_appendG elU64 ?_ (.tmp 60) (.tmp 61) ?_ W.heap.size ([] ++ ps) [0] v5 (.slice (some ⟨W.heap.size + 1, 0, none⟩) 1 1) ?_ ?_ ?_ ?_ ?_ ?_ ?_
           rfl
           rfl
           rfl
           rfl
           exact ho5
           (exact Sl.single _ _ _ _ (by have h2 := heap_alloc_new (W.alloc (.cells #[] 22)) (.cells #[.int .u64 0] 22); rw [World.size_alloc] at h2; have h3 := (hk5 (W.heap.size + 1) (fun hn => by cases hn.symm.trans h2) (by simp [Value.ownBlock])).trans h2; simp [World.cell?, h3]))
           (simp; omega)
           (have := hst.size; omega)
           intro v6 w6 ho6 hb6 hk6
           have hst6 := StayB.join (by assumption) hb6)
        | (refine step_appendG elU64 ?_ (.tmp 60) (.tmp 61) ?_ W.heap.size ([] ++ ps) [0] v5 (.slice (some ⟨W.heap.size, 0, none⟩) 1 1) ?_ ?_ ?_ ?_ ?_ ?_ ?_
           rfl
           rfl
           rfl
           rfl
           exact ho5
           (exact Sl.single _ _ _ _ (by have h2 := ((aB (W.alloc (.cells #[.int .u64 0] 22)) (.cells #[] 22)).block W.heap.size (by simp)).trans (heap_alloc_new W (.cells #[.int .u64 0] 22)); have h3 := (hk5 W.heap.size (fun hn => by cases hn.symm.trans h2) (by simp [Value.ownBlock])).trans h2; simp [World.cell?, h3]))
           (simp; omega)
           (have := hst.size; omega)
           intro v6 w6 ho6 hb6 hk6
           have hst6 := StayB.join (by assumption) hb6))
    all_goals
      rw [List.nil_append] at ho6
      have hpe' := HPS.out.2.2.2
      have hlen : Hid (pl = (Mk.steps m k).length) := by show _ = _; rw [HST.out, HPS.out.2.2.1]
      obtain ⟨g6, c6, hv6, _, _, _, _⟩ := ho6.form (by simp)
      rw [List.length_append, hpe', List.length_singleton] at hv6
      subst hv6
      have HLONG : Hid (Sl .u64 w6 (.slice (some ⟨g6, 0, none⟩) (pl + 1) c6) (ps ++ [0])) := by have := ho6.sl; exact this
      clear ho5 ho6 hk5 hk6 hb5 hb6 hst b0
      by_cases hp0 : pl = 0
      · have z0 : decide ((0 : Int) < (pl : Int)) = false := decide_eq_false (by omega)
        have z1 : ((pl : Int) == 0) = true := by rw [beq_iff_eq]; omega
        have hp0n : ¬ 0 < pl := by omega
        have hp0' := hid hp0
        clear hp0
        go_wp2_with fail
        have hgb := grown_any (.slice (some ⟨g, 0, none⟩) m gc) ys 4097 w6 (by omega) (HOW.out.stays hst6)
        refine hgb.mono ?_
        rintro e w7 ⟨v7, rfl, ho7, b7⟩
        have hg7 : (Mk.grown ys 4097).length = 4097 := Mk.grown_length _ _
        have hp7 : Mk.place ((Mk.grown ys 4097).length : Int) (k : Int) = 2 := by rw [hg7]; rfl
        have hs7 := hid ho7.sl
        obtain ⟨a7, c7, hv7, _⟩ := ho7.sl
        rw [hg7] at hv7
        subst hv7
        clear ho7 hgb
        go_wp2_with fail
        refine (openL_bad _ (Mk.grown ys 4097) k w7 (by rw [hg7]; omega) (by rw [hp7]; decide) hs7.out).mono ?_
        rintro e w8 ⟨rfl, b8⟩
        rw [hp7]
        have bA : Below W.heap.size W w8 := StayB.step ⟨StayB.step ⟨hst6, trivial⟩ b7, trivial⟩ b8
        have bB : Below W.heap.size W (w8.alloc (.cells #[.slice none 0 0, .int .i64 2] 46)) := StayB.alloc ⟨bA, trivial⟩ _
        have eb : (w8.alloc (.cells #[.slice none 0 0, .int .i64 2] 46)).cell? ⟨w8.heap.size, 1, none⟩ = some (.int .i64 2) := by go_simp
        obtain ⟨_, pc⟩ := HF.out _ bB
        have hlongW : Sl .u64 (w8.alloc (.cells #[.slice none 0 0, .int .i64 2] 46)) (.slice (some ⟨g6, 0, none⟩) (pl + 1) c6) (ps ++ [0]) := (HLONG.out.stays (seqB b7 b8)).stays (aB w8 _)
        have hkB := (bB.cell (p := ⟨g, k, none⟩) (World.lt_of_cell HKY.out)).trans HKY.out
        have hpW : Sl .u64 (w8.alloc (.cells #[.slice none 0 0, .int .i64 2] 46)) (.slice ap pl cp) ps := HPW.out.stays bB
        clear hs7 b7 b8
        go_wp2_with fail
        generalize w8.alloc (.cells #[.slice none 0 0, .int .i64 2] 46) = X at bB eb pc hlongW hkB hpW ⊢
        refine (checkL_any R 4097 k 0 (.slice ap pl cp) ps X hpW).mono ?_
        rintro e w9 ⟨rfl, b9⟩
        rw [Mk.check_big]
        go_wp2_with fail
        refine (checkL_any R 4097 (-1) 0 (.slice none 0 0) [] w9 (Sl.nil _ _)).mono ?_
        rintro e w10 ⟨rfl, b10⟩
        rw [Mk.check_big]
        have bXC : Below X.heap.size X w10 := seqB b9 b10
        have hkC := (bXC.cell (p := ⟨g, k, none⟩) (World.lt_of_cell hkB)).trans hkB
        have pcC := (bXC.cell (p := ⟨P, 0, none⟩) (World.lt_of_cell pc)).trans pc
        have hlongC := hid (hlongW.stays bXC)
        go_wp2_with fail
        refine (checkL_any R m k y (.slice (some ⟨g6, 0, none⟩) (pl + 1) c6) (ps ++ [0]) w10 hlongC.out).mono ?_
        rintro e w11 ⟨rfl, b11⟩
        rw [show Mk.check R (m : Int) (k : Int) y (ps ++ [0]) = 40 from Mk.check_length (Mk.place_ok hkm (by omega)) (by rw [List.length_append, Int.toNat_natCast, Int.toNat_natCast, hpe', ← hlen.out, List.length_singleton]; omega)]
        have hkD := (b11.cell (p := ⟨g, k, none⟩) (World.lt_of_cell hkC)).trans hkC
        have pcD := (b11.cell (p := ⟨P, 0, none⟩) (World.lt_of_cell pcC)).trans pcC
        have bW11 : Below W.heap.size W w11 := (bB.trans (bXC.mono bB.size)).trans (b11.mono (by have := bB.size; have := bXC.size; omega))
        have bWD : Below w.heap.size w w11 := seqB hbW bW11
        go_wp2_with fail
        go_ret
        exact ⟨rfl, bWD⟩
      · have hp0n : 0 < pl := by omega
        have z0 : decide ((0 : Int) < (pl : Int)) = true := decide_eq_true (by omega)
        have z1 : ((pl : Int) == 0) = false := by rw [beq_eq_false_iff_ne]; omega
        have z2 : ¬ pl = 0 := hp0
        have z3 : (1 : Int) ≤ (pl : Int) := by omega
        have z4 : ¬ ((pl : Int) < 1) := by omega
        obtain ⟨pb, po, hap, _, _⟩ := HPW.out.form.2.2.2 (by rw [hpe']; omega)
        subst hap
        have hsh := HPW.out.tail hp0n
        have h40 : Mk.check R (m : Int) (k : Int) y (ps.drop 1) = 40 := Mk.check_length (Mk.place_ok hkm (by omega)) (by rw [List.length_drop, Int.toNat_natCast, Int.toNat_natCast, hpe', ← hlen.out]; omega)
        have H40 := hid h40
        clear h40 hp0
        by_cases hc1 : cp = 1
        · subst hc1
          rw [if_pos rfl] at hsh
          have HSH := hid hsh
          clear hsh
          go_wp2_with fail
          have hgb := grown_any (.slice (some ⟨g, 0, none⟩) m gc) ys 4097 w6 (by omega) (HOW.out.stays hst6)
          refine hgb.mono ?_
          rintro e w7 ⟨v7, rfl, ho7, b7⟩
          have hg7 : (Mk.grown ys 4097).length = 4097 := Mk.grown_length _ _
          have hp7 : Mk.place ((Mk.grown ys 4097).length : Int) (k : Int) = 2 := by rw [hg7]; rfl
          have hs7 := hid ho7.sl
          obtain ⟨a7, c7, hv7, _⟩ := ho7.sl
          rw [hg7] at hv7
          subst hv7
          clear ho7 hgb
          go_wp2_with fail
          refine (openL_bad _ (Mk.grown ys 4097) k w7 (by rw [hg7]; omega) (by rw [hp7]; decide) hs7.out).mono ?_
          rintro e w8 ⟨rfl, b8⟩
          rw [hp7]
          have bA : Below W.heap.size W w8 := StayB.step ⟨StayB.step ⟨hst6, trivial⟩ b7, trivial⟩ b8
          have bB : Below W.heap.size W (w8.alloc (.cells #[.slice none 0 0, .int .i64 2] 46)) := StayB.alloc ⟨bA, trivial⟩ _
          have eb : (w8.alloc (.cells #[.slice none 0 0, .int .i64 2] 46)).cell? ⟨w8.heap.size, 1, none⟩ = some (.int .i64 2) := by go_simp
          obtain ⟨_, pc⟩ := HF.out _ bB
          have hlongW : Sl .u64 (w8.alloc (.cells #[.slice none 0 0, .int .i64 2] 46)) (.slice (some ⟨g6, 0, none⟩) (pl + 1) c6) (ps ++ [0]) := (HLONG.out.stays (seqB b7 b8)).stays (aB w8 _)
          have hkB := (bB.cell (p := ⟨g, k, none⟩) (World.lt_of_cell HKY.out)).trans HKY.out
          have hpW : Sl .u64 (w8.alloc (.cells #[.slice none 0 0, .int .i64 2] 46)) (.slice (some ⟨pb, po, none⟩) pl 1) ps := HPW.out.stays bB
          clear hs7 b7 b8
          go_wp2_with fail
          generalize w8.alloc (.cells #[.slice none 0 0, .int .i64 2] 46) = X at bB eb pc hlongW hkB hpW ⊢
          refine (checkL_any R 4097 k 0 (.slice (some ⟨pb, po, none⟩) pl 1) ps X hpW).mono ?_
          rintro e w9 ⟨rfl, b9⟩
          rw [Mk.check_big]
          go_wp2_with fail
          refine (checkL_any R 4097 (-1) 0 (.slice none 0 0) [] w9 (Sl.nil _ _)).mono ?_
          rintro e w10 ⟨rfl, b10⟩
          rw [Mk.check_big]
          have bXC : Below X.heap.size X w10 := seqB b9 b10
          have hkC := (bXC.cell (p := ⟨g, k, none⟩) (World.lt_of_cell hkB)).trans hkB
          have pcC := (bXC.cell (p := ⟨P, 0, none⟩) (World.lt_of_cell pc)).trans pc
          have hlongC := hid (hlongW.stays bXC)
          go_wp2_with fail
          refine (checkL_any R m k y (.slice (some ⟨g6, 0, none⟩) (pl + 1) c6) (ps ++ [0]) w10 hlongC.out).mono ?_
          rintro e w11 ⟨rfl, b11⟩
          rw [show Mk.check R (m : Int) (k : Int) y (ps ++ [0]) = 40 from Mk.check_length (Mk.place_ok hkm (by omega)) (by rw [List.length_append, Int.toNat_natCast, Int.toNat_natCast, hpe', ← hlen.out, List.length_singleton]; omega)]
          have hkD := (b11.cell (p := ⟨g, k, none⟩) (World.lt_of_cell hkC)).trans hkC
          have pcD := (b11.cell (p := ⟨P, 0, none⟩) (World.lt_of_cell pcC)).trans pcC
          have bW11 : Below W.heap.size W w11 := (bB.trans (bXC.mono bB.size)).trans (b11.mono (by have := bB.size; have := bXC.size; omega))
          have bWD : Below w.heap.size w w11 := seqB hbW bW11
          go_wp2_with fail
          refine (checkL_any R m k y _ (ps.drop 1) w11 (HSH.out.stays bW11)).mono ?_
          rintro e w12 ⟨rfl, b12⟩
          rw [H40.out]
          go_wp2_with fail
          go_ret
          exact ⟨rfl, seqB bWD b12⟩
        · rw [if_neg hc1] at hsh
          have HSH := hid hsh
          clear hsh
          go_wp2_with fail
          have hgb := grown_any (.slice (some ⟨g, 0, none⟩) m gc) ys 4097 w6 (by omega) (HOW.out.stays hst6)
          refine hgb.mono ?_
          rintro e w7 ⟨v7, rfl, ho7, b7⟩
          have hg7 : (Mk.grown ys 4097).length = 4097 := Mk.grown_length _ _
          have hp7 : Mk.place ((Mk.grown ys 4097).length : Int) (k : Int) = 2 := by rw [hg7]; rfl
          have hs7 := hid ho7.sl
          obtain ⟨a7, c7, hv7, _⟩ := ho7.sl
          rw [hg7] at hv7
          subst hv7
          clear ho7 hgb
          go_wp2_with fail
          refine (openL_bad _ (Mk.grown ys 4097) k w7 (by rw [hg7]; omega) (by rw [hp7]; decide) hs7.out).mono ?_
          rintro e w8 ⟨rfl, b8⟩
          rw [hp7]
          have bA : Below W.heap.size W w8 := StayB.step ⟨StayB.step ⟨hst6, trivial⟩ b7, trivial⟩ b8
          have bB : Below W.heap.size W (w8.alloc (.cells #[.slice none 0 0, .int .i64 2] 46)) := StayB.alloc ⟨bA, trivial⟩ _
          have eb : (w8.alloc (.cells #[.slice none 0 0, .int .i64 2] 46)).cell? ⟨w8.heap.size, 1, none⟩ = some (.int .i64 2) := by go_simp
          obtain ⟨_, pc⟩ := HF.out _ bB
          have hlongW : Sl .u64 (w8.alloc (.cells #[.slice none 0 0, .int .i64 2] 46)) (.slice (some ⟨g6, 0, none⟩) (pl + 1) c6) (ps ++ [0]) := (HLONG.out.stays (seqB b7 b8)).stays (aB w8 _)
          have hkB := (bB.cell (p := ⟨g, k, none⟩) (World.lt_of_cell HKY.out)).trans HKY.out
          have hpW : Sl .u64 (w8.alloc (.cells #[.slice none 0 0, .int .i64 2] 46)) (.slice (some ⟨pb, po, none⟩) pl cp) ps := HPW.out.stays bB
          clear hs7 b7 b8
          go_wp2_with fail
          generalize w8.alloc (.cells #[.slice none 0 0, .int .i64 2] 46) = X at bB eb pc hlongW hkB hpW ⊢
          refine (checkL_any R 4097 k 0 (.slice (some ⟨pb, po, none⟩) pl cp) ps X hpW).mono ?_
          rintro e w9 ⟨rfl, b9⟩
          rw [Mk.check_big]
          go_wp2_with fail
          refine (checkL_any R 4097 (-1) 0 (.slice none 0 0) [] w9 (Sl.nil _ _)).mono ?_
          rintro e w10 ⟨rfl, b10⟩
          rw [Mk.check_big]
          have bXC : Below X.heap.size X w10 := seqB b9 b10
          have hkC := (bXC.cell (p := ⟨g, k, none⟩) (World.lt_of_cell hkB)).trans hkB
          have pcC := (bXC.cell (p := ⟨P, 0, none⟩) (World.lt_of_cell pc)).trans pc
          have hlongC := hid (hlongW.stays bXC)
          go_wp2_with fail
          refine (checkL_any R m k y (.slice (some ⟨g6, 0, none⟩) (pl + 1) c6) (ps ++ [0]) w10 hlongC.out).mono ?_
          rintro e w11 ⟨rfl, b11⟩
          rw [show Mk.check R (m : Int) (k : Int) y (ps ++ [0]) = 40 from Mk.check_length (Mk.place_ok hkm (by omega)) (by rw [List.length_append, Int.toNat_natCast, Int.toNat_natCast, hpe', ← hlen.out, List.length_singleton]; omega)]
          have hkD := (b11.cell (p := ⟨g, k, none⟩) (World.lt_of_cell hkC)).trans hkC
          have pcD := (b11.cell (p := ⟨P, 0, none⟩) (World.lt_of_cell pcC)).trans pcC
          have bW11 : Below W.heap.size W w11 := (bB.trans (bXC.mono bB.size)).trans (b11.mono (by have := bB.size; have := bXC.size; omega))
          have bWD : Below w.heap.size w w11 := seqB hbW bW11
          go_wp2_with fail
          refine (checkL_any R m k y _ (ps.drop 1) w11 (HSH.out.stays bW11)).mono ?_
          rintro e w12 ⟨rfl, b12⟩
          rw [H40.out]
          go_wp2_with fail
          go_ret
          exact ⟨rfl, seqB bWD b12⟩
  · have hpl : Mk.place (ys.length : Int) i = 1 := by rw [hyl]; unfold Mk.place; rw [if_neg (by omega), if_pos (by omega)]
    refine (openL_bad _ ys i _ (by omega) (by rw [hpl]; decide) HO3.out).mono ?_
    rintro e w4 ⟨rfl, b4⟩
    rw [hpl]
    have hck : Mk.check R (m : Int) i 0 [] = 1 := by rw [← hyl, Mk.check_bad (by rw [hpl]; decide), hpl]
    by_cases h0 : i < 0
    · have t0 : decide (i < 0) = true := by simpa using h0
      go_wp2_with fail
      refine (checkL_any R m i 0 (.slice none 0 0) [] _ (Sl.nil _ _)).mono ?_
      rintro e w5 ⟨rfl, b5⟩
      rw [hck]
      go_wp2_with fail
      go_ret
      exact ⟨rfl, seqB b03 (seqB b4 (seqB (aB w4 _) b5))⟩
    · have t0 : decide (i < 0) = false := by simp; omega
      have t1 : decide ((m : Int) ≤ i) = true := by simp; omega
      go_wp2_with fail
      refine (checkL_any R m i 0 (.slice none 0 0) [] _ (Sl.nil _ _)).mono ?_
      rintro e w5 ⟨rfl, b5⟩
      rw [hck]
      go_wp2_with fail
      go_ret
      exact ⟨rfl, seqB b03 (seqB b4 (seqB (aB w4 _) b5))⟩
end Go.Proofs.Ytifpkhgcoopjnaa
