/- What the reference's Pairs computes. Conditions: a place of a list of at most 4096, a path of the right length. -/
import Derived.Test.YtifpkhgcoopjnaaMerkleRef2
namespace Go.Proofs.Ytifpkhgcoopjnaa
open Go.RowKit

theorem wpList_appendP {w : World} {ops : Array Oper} {rest : List Oper} {o : Oper} {a : Act} {Q : Exit → Act → World → Prop} (hw : Region.wanted o (yielded ops a.tmps) = true) (s x : Operand)
    (ho : o.op = .call { callee := .builtin .append, args := #[s, x], argTypes := #[81, 81] })
    (base : Nat) (l : List (Int × Int)) (p q : Int) (v : Value) (g c : Nat) (hs : a.eval s = v) (hx : a.eval x = .slice (some ⟨g, 0, none⟩) 1 c) (hown : OwnP base w v l)
    (hg : w.cell? ⟨g, 0, none⟩ = some (.int .u64 p) ∧ w.cell? ⟨g, 1, none⟩ = some (.int .u64 q)) (hl : l.length ≤ 1000000) (hbase : base ≤ w.heap.size)
    (h : ∀ v' w', OwnP base w' v' (l ++ [(p, q)]) → w.grownBy w' v.ownBlock → wpList Try.prog ops Q rest (a.put o.dst v') w') : wpList Try.prog ops Q (o :: rest) a w :=
  wpList_step fun K hK => by
    rw [if_pos hw]
    exact wp_appendP s x ho base l p q v g c hs hx hown hg hl hbase fun v' w' h1 h2 => hK _ _ (h v' w' h1 h2)

set_option maxRecDepth 100000 in
set_option maxHeartbeats 1000000 in
theorem rpairs_any (n i : Nat) (leaf : Int) (v : Value) (ps : List Int) (w : World) (hn : n ≤ 4096) (hi : i < n) (hl : ps.length = (Mk.steps n i).length) (hs : Sl .u64 w v ps) :
    Calls Try.prog 53 #[.int .i64 n, .int .i64 i, .agg #[.int .u64 leaf, v]] w fun e w' => ∃ v', e = .returned v' ∧ OwnP w.heap.size w' v' (Mk.pairs n i leaf ps) ∧ Below w.heap.size w w' := by
  have hsl := Mk.steps_length hi
  have HL := hid hl
  clear hl
  have HS := hid hs
  obtain ⟨a, cap, rfl, hcap, hmax, _, hf⟩ := hs
  have HF := hid hf
  clear hf
  have hX0 : ((w.alloc (.cells #[.int .u64 leaf, .slice a ps.length cap] 50)).alloc (.cells #[.int .u64 0, .int .u64 leaf] 59)).heap[w.heap.size]? = some (.cells #[.int .u64 leaf, .slice a ps.length cap] 50 (0, 0)) :=
    ((aB (w.alloc (.cells #[.int .u64 leaf, .slice a ps.length cap] 50)) _).block w.heap.size (by simp)).trans (heap_alloc_new w _)
  have hrow0 : OwnP w.heap.size ((w.alloc (.cells #[.int .u64 leaf, .slice a ps.length cap] 50)).alloc (.cells #[.int .u64 0, .int .u64 leaf] 59)) (.slice (some ⟨w.heap.size + 1, 0, none⟩) 1 1) [(0, leaf)] := by
    have h := OwnP.one (base := w.heap.size) (w.alloc (.cells #[.int .u64 leaf, .slice a ps.length cap] 50)) (by simp) 0 leaf
    simp only [World.size_alloc] at h
    exact h
  have hb0 : Below w.heap.size w ((w.alloc (.cells #[.int .u64 leaf, .slice a ps.length cap] 50)).alloc (.cells #[.int .u64 0, .int .u64 leaf] 59)) := seqB (aB w _) (aB _ _)
  go_enter Try.func53, Try.ntmps53
  go_wp2_with fail
  refine (rjoin_any _ _ _).mono ?_
  rintro e w' ⟨rfl, rfl⟩
  go_wp2_with fail
  generalize (w.alloc (.cells #[.int .u64 leaf, .slice a ps.length cap] 50)).alloc (.cells #[.int .u64 0, .int .u64 leaf] 59) = w0 at hX0 hrow0 hb0 ⊢
  refine (rsteps_ind n n i w0 (Nat.le_refl _) hn hi).mono ?_
  rintro e w1 ⟨sv, rfl, hos, b1⟩
  have hX1 := (b1.block w.heap.size (Array.getElem?_eq_some_iff.1 hX0).1).trans hX0
  have hrow1 := hrow0.kept b1
  have hbel1 : Below w.heap.size w w1 := hb0.trans (b1.mono hb0.size)
  have hl := HL.out
  obtain ⟨ss, hss⟩ : ∃ ss, Mk.steps n i = ss := ⟨_, rfl⟩
  rw [hss] at hos hl hsl
  obtain ⟨sa, sc, rfl, hsf⟩ := hos.form
  have HSF := hid hsf
  have HSS := hid hss
  obtain ⟨L, hL⟩ : ∃ L, ss.length = L := ⟨_, rfl⟩
  rw [hL] at hl hsl HSF ⊢
  have HROW := hid hrow1
  have HX1 := hid hX1
  have hL4 : L ≤ 4096 := by omega
  clear hos hsf hX0 hrow0 hb0 b1 hX1 hrow1 hss
  go_wp2_with fail
  go_loopw [7, 8, 10] (fun out top kv wr => ∃ (k g gc : Nat) (u : Int), out = .slice (some ⟨g, 0, none⟩) (k + 1) gc ∧ top = .int .u64 u ∧ kv = .int .i64 k ∧ k ≤ L ∧ Hid (u = Mk.upAt ss ps leaf k) ∧ Hid (OwnP w.heap.size wr (.slice (some ⟨g, 0, none⟩) (k + 1) gc) (Mk.pairsTo ss ps leaf k)) ∧ Hid (KpB w1 wr) ∧ wr.heap[w.heap.size]? = some (.cells #[.int .u64 leaf, .slice a ps.length cap] 50 (0, 0)) ∧ Below w.heap.size w wr) (fun _ _ kv _ => L - (intOf kv).toNat)
  case atStart => exact ⟨0, _, _, _, rfl, rfl, rfl, Nat.zero_le _, rfl, HROW, (fun _ _ _ e => e), HX1.out, hbel1⟩
  case round =>
    obtain ⟨k, g, gc, u, rfl, rfl, rfl, hk, hu, hown, hkp, hX, hbel⟩ := hrel
    by_cases hlt : k < L
    · obtain ⟨b, o, rfl, hblt, hpc⟩ := HF.out (by omega)
      obtain ⟨sg, scur, rfl, hsg, hsc, hsx⟩ := HSF.out (by omega)
      have hpk := (hbel.cell (p := ⟨b, o + k, none⟩) hblt).trans (hpc k (by omega))
      have hsgr := hkp.out sg scur (0, 0) hsg
      have hskk : wr.cell? ⟨sg, k, none⟩ = some (.bool (ss.getD k false)) := by rw [show wr.cell? ⟨sg, k, none⟩ = scur[k]? by simp [World.cell?, hsgr]]; exact hsx k hlt
      have c0 : wr.cell? ⟨w.heap.size, 1, none⟩ = some (.slice (some ⟨b, o, none⟩) ps.length cap) := by simp [World.cell?, hX]
      obtain ⟨p, hp⟩ : ∃ p, ps.getD k 0 = p := ⟨_, rfl⟩
      obtain ⟨x, hx⟩ : ∃ x, ss.getD k false = x := ⟨_, rfl⟩
      rw [hp] at hpk
      rw [hx] at hskk
      have HD : Hid (True ∧ ss.getD k false = x ∧ ps.getD k 0 = p) := ⟨trivial, hx, hp⟩
      have i1 : (0 : Int) ≤ (k : Int) := by omega
      have i2 : (k : Int) < (ps.length : Int) := by omega
      have i3 : (k : Int) < (L : Int) := by omega
      have n1 := World.new_ne wr _ c0
      have n2 := World.new_ne wr _ hpk
      have n3 := World.new_ne wr _ hskk
      have d0 := (aB wr (.cells #[.int .u64 p, .int .u64 u] 59)).cell (p := ⟨w.heap.size, 1, none⟩) (World.lt_of_cell c0)
      have d1 := (aB wr (.cells #[.int .u64 p, .int .u64 u] 59)).cell (p := ⟨b, o + k, none⟩) (World.lt_of_cell hpk)
      have d2 := (aB wr (.cells #[.int .u64 p, .int .u64 u] 59)).cell (p := ⟨sg, k, none⟩) (World.lt_of_cell hskk)
      rw [c0] at d0
      rw [hpk] at d1
      rw [hskk] at d2
      clear hpc hsg hsx hsgr hx hp hblt hsc
      cases x
      · go_wp2_with (at_builtin; apply Hid.out)
        refine hid ?_
        refine wpList_appendP rfl (.tmp 46) (.tmp 48) rfl w.heap.size (Mk.pairsTo ss ps leaf k) p u (.slice (some ⟨g, 0, none⟩) (k + 1) gc) (wr.heap.size + 1) 1 rfl rfl (hown.out.kept (seqB (aB wr (.cells #[.int .u64 p, .int .u64 u] 59)) (aB _ _))) (by constructor <;> go_simp) (by rw [Mk.pairsTo_length]; omega) (by have := hbel.size; simp; omega) ?_
        intro v3 w3 ho3 hgr
        have bK : Below wr.heap.size wr ((wr.alloc (.cells #[.int .u64 p, .int .u64 u] 59)).alloc (.cells #[.int .u64 p, .int .u64 u] 59)) := seqB (aB wr _) (aB _ _)
        have hrk := hown.out.kept bK
        have hKb : KpB w1 w3 := (hkp.out.trans (KpB.of_below bK)).trans (KpB.of_grownBy hgr (fun j cur fr hj ho => by obtain ⟨_, cur', hc⟩ := hrk.row hj; rw [hc] at ho; injection ho with ho; injection ho with _ ho; exact absurd ho (by decide)))
        have hglt := (hown.out.form (by rw [Mk.pairsTo_length]; omega))
        obtain ⟨g', _, hgv, _, hglt, _, _⟩ := hglt
        obtain rfl : g = g' := by simp only [Value.slice.injEq, Option.some.injEq, Addr.mk.injEq] at hgv; exact hgv.1.1
        have hX3 : w3.heap[w.heap.size]? = some (.cells #[.int .u64 leaf, .slice (some ⟨b, o, none⟩) ps.length cap] 50 (0, 0)) := by
          rw [hgr.block w.heap.size (by have := (Array.getElem?_eq_some_iff.1 hX).1; simp; omega) (by intro e; injection e with e; rw [e] at hX; obtain ⟨_, cur, hc⟩ := hown.out.row (r := g) rfl; change wr.heap[g]? = _ at hc; rw [hX] at hc; injection hc with hc; injection hc with _ hc; exact absurd hc (by decide)), bK.block w.heap.size (Array.getElem?_eq_some_iff.1 hX).1]
          exact hX
        have p0 : w3.cell? ⟨wr.heap.size, 0, none⟩ = some (.int .u64 p) := hgr.cell (by go_simp) (by intro e; injection e with e; change wr.heap.size = g at e; omega)
        have p1 : w3.cell? ⟨wr.heap.size, 1, none⟩ = some (.int .u64 u) := hgr.cell (by go_simp) (by intro e; injection e with e; change wr.heap.size = g at e; omega)
        have hB3 : Below w.heap.size w w3 := (hbel.trans (bK.mono hbel.size)).trans (hrk.below hgr (by have := hbel.size; simp; omega))
        have hpa : Mk.pairAt ss ps leaf k = (p, u) := by
          obtain ⟨s4, s5, s6⟩ := HD.out
          unfold Mk.pairAt
          rw [← hu.out, s5, s6]
          rfl
        rw [← hpa, ← Mk.pairsTo_succ] at ho3
        obtain ⟨g3, gc3, hv3, _, _, _, _⟩ := ho3.form (by rw [Mk.pairsTo_length]; omega)
        rw [Mk.pairsTo_length] at hv3
        subst hv3
        have HO3 := hid ho3
        have hup : Mk.joinI (p, u) = Mk.upAt ss ps leaf (k + 1) := by rw [Mk.upAt_succ, hpa]
        have HUP := hid hup
        have HKB := hid hKb
        have HX3 := hid hX3
        clear ho3 hgr hrk hgv hup hKb bK hpa hX3
        go_wp2_with fail
        refine (rjoin_any _ _ _).mono ?_
        rintro e w' ⟨rfl, rfl⟩
        go_wp2_with fail
        exact ⟨⟨k + 1, g3, gc3, Mk.joinI (p, u), rfl, rfl, by go_num, by omega, HUP, HO3, HKB, HX3.out, hB3⟩, by simp [intOf]; omega⟩
      · go_wp2_with (at_builtin; apply Hid.out)
        refine hid ?_
        refine wpList_appendP rfl (.tmp 46) (.tmp 48) rfl w.heap.size (Mk.pairsTo ss ps leaf k) u p (.slice (some ⟨g, 0, none⟩) (k + 1) gc) (wr.heap.size + 1) 1 rfl rfl (hown.out.kept (seqB (aB wr (.cells #[.int .u64 u, .int .u64 p] 59)) (aB _ _))) (by constructor <;> go_simp) (by rw [Mk.pairsTo_length]; omega) (by have := hbel.size; simp; omega) ?_
        intro v3 w3 ho3 hgr
        have bK : Below wr.heap.size wr ((wr.alloc (.cells #[.int .u64 u, .int .u64 p] 59)).alloc (.cells #[.int .u64 u, .int .u64 p] 59)) := seqB (aB wr _) (aB _ _)
        have hrk := hown.out.kept bK
        have hKb : KpB w1 w3 := (hkp.out.trans (KpB.of_below bK)).trans (KpB.of_grownBy hgr (fun j cur fr hj ho => by obtain ⟨_, cur', hc⟩ := hrk.row hj; rw [hc] at ho; injection ho with ho; injection ho with _ ho; exact absurd ho (by decide)))
        have hglt := (hown.out.form (by rw [Mk.pairsTo_length]; omega))
        obtain ⟨g', _, hgv, _, hglt, _, _⟩ := hglt
        obtain rfl : g = g' := by simp only [Value.slice.injEq, Option.some.injEq, Addr.mk.injEq] at hgv; exact hgv.1.1
        have hX3 : w3.heap[w.heap.size]? = some (.cells #[.int .u64 leaf, .slice (some ⟨b, o, none⟩) ps.length cap] 50 (0, 0)) := by
          rw [hgr.block w.heap.size (by have := (Array.getElem?_eq_some_iff.1 hX).1; simp; omega) (by intro e; injection e with e; rw [e] at hX; obtain ⟨_, cur, hc⟩ := hown.out.row (r := g) rfl; change wr.heap[g]? = _ at hc; rw [hX] at hc; injection hc with hc; injection hc with _ hc; exact absurd hc (by decide)), bK.block w.heap.size (Array.getElem?_eq_some_iff.1 hX).1]
          exact hX
        have p0 : w3.cell? ⟨wr.heap.size, 0, none⟩ = some (.int .u64 u) := hgr.cell (by go_simp) (by intro e; injection e with e; change wr.heap.size = g at e; omega)
        have p1 : w3.cell? ⟨wr.heap.size, 1, none⟩ = some (.int .u64 p) := hgr.cell (by go_simp) (by intro e; injection e with e; change wr.heap.size = g at e; omega)
        have hB3 : Below w.heap.size w w3 := (hbel.trans (bK.mono hbel.size)).trans (hrk.below hgr (by have := hbel.size; simp; omega))
        have hpa : Mk.pairAt ss ps leaf k = (u, p) := by
          obtain ⟨s4, s5, s6⟩ := HD.out
          unfold Mk.pairAt
          rw [← hu.out, s5, s6]
          rfl
        rw [← hpa, ← Mk.pairsTo_succ] at ho3
        obtain ⟨g3, gc3, hv3, _, _, _, _⟩ := ho3.form (by rw [Mk.pairsTo_length]; omega)
        rw [Mk.pairsTo_length] at hv3
        subst hv3
        have HO3 := hid ho3
        have hup : Mk.joinI (u, p) = Mk.upAt ss ps leaf (k + 1) := by rw [Mk.upAt_succ, hpa]
        have HUP := hid hup
        have HKB := hid hKb
        have HX3 := hid hX3
        clear ho3 hgr hrk hgv hup hKb bK hpa hX3
        go_wp2_with fail
        refine (rjoin_any _ _ _).mono ?_
        rintro e w' ⟨rfl, rfl⟩
        go_wp2_with fail
        exact ⟨⟨k + 1, g3, gc3, Mk.joinI (u, p), rfl, rfl, by go_num, by omega, HUP, HO3, HKB, HX3.out, hB3⟩, by simp [intOf]; omega⟩
    · obtain rfl : k = L := by omega
      have wn : IntKind.u64.wrap (n : Int) = (n : Int) := by rw [IntKind.wrap_u64]; omega
      clear hX HX1 HROW
      go_wp2_with (at_builtin; apply Hid.out)
      refine hid ?_
      refine wpList_appendP rfl (.tmp 55) (.tmp 60) rfl w.heap.size (Mk.pairsTo ss ps leaf k) n u (.slice (some ⟨g, 0, none⟩) (k + 1) gc) wr.heap.size 1 rfl rfl (hown.out.kept (aB wr _)) (by constructor <;> go_simp) (by rw [Mk.pairsTo_length]; omega) (by have := hbel.size; simp; omega) ?_
      intro v3 w3 ho3 hgr
      have hB3 : Below w.heap.size w w3 := (hbel.alloc hbel.size _).trans ((hown.out.kept (aB wr _)).below hgr (by have := hbel.size; simp; omega))
      have hfin : OwnP w.heap.size w3 v3 (Mk.pairs n i leaf ps) := by
        unfold Mk.pairs
        rw [HSS.out, hL, ← hu.out]
        exact ho3
      clear ho3 hgr
      go_wp2_with fail
      go_ret
      exact ⟨_, rfl, hfin, hB3⟩
end Go.Proofs.Ytifpkhgcoopjnaa
