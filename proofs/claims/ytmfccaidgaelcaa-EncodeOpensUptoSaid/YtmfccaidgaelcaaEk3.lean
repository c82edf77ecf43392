/- The pairs of an opening. No conditions. -/
import Derived.Test.YtmfccaidgaelcaaEk2
import Derived.Deep.RegionHeld3
import Derived.IntWalk
import Derived.RegionIn
import Derived.Stop.RegionWithIn
set_option linter.unusedVariables false
set_option linter.unusedSimpArgs false
namespace Go.Proofs.Ytmfccaidgaelcaa.Old
open Go.RowKit Go.Shelf
open Go.Proofs.Ytmfccaidgaelcaa.Mk (I B)

attribute [local go_sem] Oper.semAt_some World.cell?_alloc_some

theorem Boxed.of_below {W W' : World} {B t : Nat} {v : Value} (h : Boxed W B t v) (hb : Below W.heap.size W W') : Boxed W' B t v := (hb.block B h.lt).trans h
theorem KeepsOthers.of_below {W W' : World} (hb : Below W.heap.size W W') : KeepsOthers W W' := ⟨hb.size, fun k o hk _ => (hb.block k (Array.getElem?_eq_some_iff.1 hk).1).trans hk⟩
theorem KpB.of_below {W W' : World} (hb : Below W.heap.size W W') : KpB W W' := fun g cur fr e => (hb.block g (Array.getElem?_eq_some_iff.1 e).1).trans e
theorem KpB.of_grownBy {W W' : World} {row : Option Nat} (hg : W.grownBy W' row) (hr : ∀ (j : Nat) cur fr, row = some j → W.heap[j]? ≠ some (.cells cur 4 fr)) : KpB W W' := fun g cur fr e =>
  (hg.block g (Array.getElem?_eq_some_iff.1 e).1 (fun h => hr g cur fr h.symm e)).trans e
theorem KpB.box {W : World} {B t : Nat} {v : Value} (h : Boxed W B t v) (ht : t ≠ 4) (u : Value) : KpB W (W.setCell ⟨B, 0, none⟩ u) :=
  KpB.of_grownBy (grownBy_setCell' W B u) (fun j cur fr e k => by
    cases e
    rw [show W.heap[B]? = _ from h] at k
    injection k with k
    injection k with _ k
    exact ht k)
theorem belowPutObj {s : Nat} {w W : World} {l : Nat} {o' : Obj} (h : Below s w W) (hl : s ≤ l) : Below s w (W.putObj l o') :=
  ⟨h.os, h.tape, h.output, by simpa using h.size, fun k hk => (World.putObj_heap_other (by omega)).trans (h.block k hk)⟩
theorem Sl.tail {k : IntKind} {w : World} {b o n cap : Nat} {xs : List Int} (h : Sl k w (.slice (some ⟨b, o, none⟩) n cap) xs) (hn : 0 < n) : Sl k w (.slice (some (if cap = 1 then ⟨b, o, none⟩ else ⟨b, o + 1, none⟩)) (n - 1) (cap - 1)) (xs.drop 1) := by
  by_cases hc : cap = 1
  · subst hc
    obtain ⟨h1, h2, h3, _⟩ := h.form
    have h0 : xs.drop 1 = [] := List.drop_eq_nil_of_le (by omega)
    obtain rfl : n = 1 := by omega
    rw [h0, if_pos rfl]
    exact ⟨_, _, rfl, Nat.le_refl _, by unfold maxLen; omega, by simp, fun h => absurd h (by simp)⟩
  · rw [if_neg hc]
    exact h.drop 1 (by omega)
theorem OwnP.row {base : Nat} {w : World} {v : Value} {l : List (Int × Int)} (h : OwnP base w v l) {r : Nat} (hr : v.ownBlock = some r) : base ≤ r ∧ ∃ cur, w.heap[r]? = some (.cells cur 123 (0, 0)) := by
  obtain ⟨h1, h2⟩ := h
  rcases h2 with ⟨rfl, _⟩ | ⟨g, cap, cur, rfl, hb, hg, _⟩
  · simp [Value.ownBlock] at hr
  · simp only [Value.ownBlock, Option.some.injEq] at hr
    subst hr
    exact ⟨hb, cur, hg⟩
theorem OwnP.boxed {base : Nat} {w : World} {v : Value} {l : List (Int × Int)} (h : OwnP base w v l) {B t : Nat} {u : Value} (hb : Boxed w B t u) (ht : t ≠ 123) : some B ≠ v.ownBlock := by
  intro e
  obtain ⟨_, cur, hg⟩ := h.row e.symm
  rw [show w.heap[B]? = _ from hb] at hg
  injection hg with hg
  injection hg with _ hg
  exact ht hg
theorem OwnP.other {base : Nat} {w : World} {v : Value} {l : List (Int × Int)} (h : OwnP base w v l) {k : Nat} {o : Obj} (ho : w.heap[k]? = some o) (hc : o.isCells = false) : some k ≠ v.ownBlock := by
  intro e
  obtain ⟨_, cur, hg⟩ := h.row e.symm
  rw [ho] at hg
  cases hg
  cases hc
theorem OwnP.moved {base : Nat} {w w' : World} {v : Value} {l : List (Int × Int)} (h : OwnP base w v l) (hm : ∀ r, v.ownBlock = some r → w'.heap[r]? = w.heap[r]?) : OwnP base w' v l := by
  obtain ⟨h1, h2⟩ := h
  refine ⟨h1, ?_⟩
  rcases h2 with h2 | ⟨g, cap, cur, rfl, hbg, hgg, rest⟩
  · exact .inl h2
  · exact .inr ⟨g, cap, cur, rfl, hbg, (hm g rfl).trans hgg, rest⟩
theorem OwnP.below {base : Nat} {w w' : World} {v : Value} {l : List (Int × Int)} (h : OwnP base w v l) (hg : w.grownBy w' v.ownBlock) (hb : base ≤ w.heap.size) : Below base w w' :=
  (Below.refl base w).grown hg hb (fun r hr => (h.row hr).1)

theorem sides_any (n i : Nat) (w : World) : Calls Try.prog 110 #[.int .i64 n, .int .i64 i] w fun e w' =>
    e = .returned (.func (.func 124) #[] #[.pointer (some ⟨w.heap.size, 0, none⟩), .pointer (some ⟨w.heap.size + 1, 0, none⟩)]) ∧
    w' = (w.alloc (.cells #[.int .i64 n] 3)).alloc (.cells #[.int .i64 i] 3) := by
  go_enter Try.func110, Try.ntmps110
  go_wp2
  go_ret
  exact ⟨by simp, rfl⟩




















set_option maxRecDepth 100000 in
set_option maxHeartbeats 1000000 in
theorem pairs_any (n i : Nat) (leaf : Int) (v : Value) (ps : List Int) (w : World) (hn : n ≤ 4096) (hi : i < n) (hs : Sl .u64 w v ps) :
    Calls Try.prog 62 #[.int .i64 n, .int .i64 i, .int .u64 leaf, v] w fun e w' => ∃ v', e = .returned (.tuple #[v', .bool (decide (ps.length = (Mk.steps n i).length))]) ∧
      (ps.length = (Mk.steps n i).length → OwnP w.heap.size w' v' (Mk.pairs n i leaf ps)) ∧ Below w.heap.size w w' := by
  have HS := hid hs
  obtain ⟨a, cap, rfl, hcap, hmax, _⟩ := hs
  have hsl := Mk.steps_length hi
  refine (callsIn_wide (n := 5)).1 ?_
  refine callsIn_of_wp_marks Try.func62 rfl trivial ?_ rfl
  simp only [Try.ntmps62, List.size_toArray, List.length_cons, List.length_nil, Nat.reduceAdd, Nat.reduceSub, Array.replicate_succ, Array.replicate_zero, List.push_toArray, List.append_toArray, List.nil_append, List.cons_append]
  gi_wp2
  refine ⟨trivial, ?_⟩
  gi_at_call 58
  refine (callsIn_wide.2 (join_any _ _ _)).mono ?_
  rintro e w' ⟨rfl, rfl⟩
  gi_wp2
  refine ⟨trivial, ?_⟩
  gi_at_call 110
  refine (callsIn_wide.2 (sides_any _ _ _)).mono ?_
  rintro e w' ⟨rfl, rfl⟩
  gi_wp2
  generalize hW : ((((((((w.alloc (.cells #[.slice a ps.length cap] 52)).alloc (.cells #[.slice none 0 0] 120)).alloc (.cells #[.bool false] 4)).alloc (.cells #[.int .u64 0, .int .u64 leaf] 123)).alloc (.cells #[.slice (some ⟨w.heap.size + 1 + 1 + 1, 0, none⟩) 1 1] 120)).alloc (.cells #[.int .u64 (I (Dg.join (B 0) (B leaf)))] 54)).alloc (.cells #[.int .i64 n] 3)).alloc (.cells #[.int .i64 i] 3)) = W0
  have hsz : W0.heap.size = w.heap.size + 8 := by rw [← hW]; simp
  have hP : Boxed W0 w.heap.size 52 (.slice a ps.length cap) := by rw [← hW]; exact (((((((Boxed.new _ _ _).alloc _).alloc _).alloc _).alloc _).alloc _).alloc _).alloc _
  have h1 : Boxed W0 (w.heap.size + 1) 120 (.slice none 0 0) := by rw [← hW]; have h := Boxed.new (w.alloc (.cells #[.slice a ps.length cap] 52)) 120 (.slice none 0 0); rw [World.size_alloc] at h; exact ((((((h.alloc _).alloc _).alloc _).alloc _).alloc _).alloc _)
  have h2 : Boxed W0 (w.heap.size + 1 + 1) 4 (.bool false) := by rw [← hW]; have h := Boxed.new ((w.alloc (.cells #[.slice a ps.length cap] 52)).alloc (.cells #[.slice none 0 0] 120)) 4 (.bool false); simp only [World.size_alloc] at h; exact (((((h.alloc _).alloc _).alloc _).alloc _).alloc _)
  have hrow : OwnP w.heap.size W0 (.slice (some ⟨w.heap.size + 1 + 1 + 1, 0, none⟩) 1 1) [(0, leaf)] := by
    rw [← hW]
    have h := OwnP.one (base := w.heap.size) (((w.alloc (.cells #[.slice a ps.length cap] 52)).alloc (.cells #[.slice none 0 0] 120)).alloc (.cells #[.bool false] 4)) (by simp; omega) 0 leaf
    simp only [World.size_alloc] at h
    exact (((h.kept (aB _ _)).kept (aB _ _)).kept (aB _ _)).kept (aB _ _)
  have hL : Boxed W0 (w.heap.size + 1 + 1 + 1 + 1) 120 (.slice (some ⟨w.heap.size + 1 + 1 + 1, 0, none⟩) 1 1) := by rw [← hW]; have h := Boxed.new ((((w.alloc (.cells #[.slice a ps.length cap] 52)).alloc (.cells #[.slice none 0 0] 120)).alloc (.cells #[.bool false] 4)).alloc (.cells #[.int .u64 0, .int .u64 leaf] 123)) 120 (.slice (some ⟨w.heap.size + 1 + 1 + 1, 0, none⟩) 1 1); simp only [World.size_alloc] at h; exact (((h.alloc _).alloc _).alloc _)
  have hU : Boxed W0 (w.heap.size + 1 + 1 + 1 + 1 + 1) 54 (.int .u64 (I (Dg.join (B 0) (B leaf)))) := by rw [← hW]; have h := Boxed.new (((((w.alloc (.cells #[.slice a ps.length cap] 52)).alloc (.cells #[.slice none 0 0] 120)).alloc (.cells #[.bool false] 4)).alloc (.cells #[.int .u64 0, .int .u64 leaf] 123)).alloc (.cells #[.slice (some ⟨w.heap.size + 1 + 1 + 1, 0, none⟩) 1 1] 120)) 54 (.int .u64 (I (Dg.join (B 0) (B leaf)))); simp only [World.size_alloc] at h; exact ((h.alloc _).alloc _)
  have hBn : Boxed W0 (w.heap.size + 1 + 1 + 1 + 1 + 1 + 1) 3 (.int .i64 n) := by rw [← hW]; have h := Boxed.new ((((((w.alloc (.cells #[.slice a ps.length cap] 52)).alloc (.cells #[.slice none 0 0] 120)).alloc (.cells #[.bool false] 4)).alloc (.cells #[.int .u64 0, .int .u64 leaf] 123)).alloc (.cells #[.slice (some ⟨w.heap.size + 1 + 1 + 1, 0, none⟩) 1 1] 120)).alloc (.cells #[.int .u64 (I (Dg.join (B 0) (B leaf)))] 54)) 3 (.int .i64 n); simp only [World.size_alloc] at h; exact (h.alloc _)
  have hBi : Boxed W0 (w.heap.size + 1 + 1 + 1 + 1 + 1 + 1 + 1) 3 (.int .i64 i) := by rw [← hW]; have h := Boxed.new (((((((w.alloc (.cells #[.slice a ps.length cap] 52)).alloc (.cells #[.slice none 0 0] 120)).alloc (.cells #[.bool false] 4)).alloc (.cells #[.int .u64 0, .int .u64 leaf] 123)).alloc (.cells #[.slice (some ⟨w.heap.size + 1 + 1 + 1, 0, none⟩) 1 1] 120)).alloc (.cells #[.int .u64 (I (Dg.join (B 0) (B leaf)))] 54)).alloc (.cells #[.int .i64 n] 3)) 3 (.int .i64 i); simp only [World.size_alloc] at h; exact h
  have hB : Below w.heap.size w W0 := by rw [← hW]; exact seqB (aB w _) (seqB (aB _ _) (seqB (aB _ _) (seqB (aB _ _) (seqB (aB _ _) (seqB (aB _ _) (seqB (aB _ _) (aB _ _))))))) 
  clear hW
  generalize e7 : w.heap.size + 1 + 1 + 1 + 1 + 1 + 1 + 1 = A7 at hBi ⊢
  generalize e6 : w.heap.size + 1 + 1 + 1 + 1 + 1 + 1 = A6 at hBn e7 ⊢
  generalize e5 : w.heap.size + 1 + 1 + 1 + 1 + 1 = A5 at hU e6 e7 ⊢
  generalize e4 : w.heap.size + 1 + 1 + 1 + 1 = A4 at hL e5 e6 e7 ⊢
  generalize e3 : w.heap.size + 1 + 1 + 1 = A3 at hL hrow e4 e5 e6 e7 ⊢
  generalize e2 : w.heap.size + 1 + 1 = A2 at h2 e3 e4 e5 e6 e7 ⊢
  generalize e1 : w.heap.size + 1 = A1 at h1 e2 e3 e4 e5 e6 e7 ⊢
  generalize e0 : w.heap.size = A0 at hP hrow hB hsz e1 ⊢
  obtain ⟨ss, hss⟩ : ∃ ss, Mk.steps n i = ss := ⟨_, rfl⟩
  have hsides := sides_list n i hn hi W0 (A6) (A7) (by omega) hBn hBi
  rw [hss] at hsides hsl
  have HSS := hid hss
  clear hss
  refine wpIn_range_list (encs := fun b : Bool => #[.bool b]) (Kp := KpB) (xs := ss) rfl (by omega) (gf := 124) rfl trivial (enters_of Try.func124 (by kernel_rfl) rfl) (hsides _) KpB.trans
    (fun W l o o' h ho => KpB.putObj W l o o' h ho) (by intro r hr; omega) (fun _ => rfl)
    (fun k W => k ≤ ps.length ∧ ∃ pv lv, Boxed W A0 52 pv ∧ Sl .u64 w pv (ps.drop k) ∧ Boxed W (A4) 120 lv ∧ OwnP A0 W lv (Mk.pairsTo ss ps leaf k) ∧
      Boxed W (A5) 54 (.int .u64 (Mk.upAt ss ps leaf k)) ∧ Boxed W (A1) 120 (.slice none 0 0) ∧ Boxed W (A2) 4 (.bool false) ∧ Below A0 w W)
    (fun c W => c = .ret ∧ ps.length < ss.length ∧ Boxed W (A1) 120 (.slice none 0 0) ∧ Boxed W (A2) 4 (.bool false) ∧ Below A0 w W)
    ?hI ?hIx ?h0
    (fun x => { tmps := #[.int .i64 n, .int .i64 i, .int .u64 leaf, .slice a ps.length cap, undef, undef, undef, .pointer (some ⟨A0, 0, none⟩), .pointer (some ⟨A1, 0, none⟩), .pointer (some ⟨A2, 0, none⟩), .pointer (some ⟨A4, 0, none⟩), .pointer (some ⟨A5, 0, none⟩), .bool x, undef, .int .u64 leaf, .agg #[.int .u64 0, .int .u64 leaf], .slice (some ⟨A3, 0, none⟩) 1 1, .int .u64 leaf, .int .u64 (I (Dg.join (B 0) (B leaf))), .int .i64 n, .int .i64 i, .func (.func 124) #[] #[.pointer (some ⟨A6, 0, none⟩), .pointer (some ⟨A7, 0, none⟩)], .bool x, undef, undef, undef, undef, undef, undef, undef, undef, undef, undef, undef, undef, undef, undef, undef, undef, undef, undef, undef, undef, undef, undef, undef, undef, undef, undef, undef, undef, undef, undef, undef, undef, undef, undef, undef], defers := [] }) ?assign ?body ?done ?stop
  case hI =>
    rintro k W l o o' hl ho hc ⟨hk, pv, lv, hP, hSl, hL, hrow, hU, h1, h2, hB⟩
    refine ⟨hk, pv, lv, hP.kept (grownBy_putObj' W l o') (by intro e; injection e with e; omega), hSl, hL.kept (grownBy_putObj' W l o') (by intro e; injection e with e; omega), hrow.grown (grownBy_putObj' W l o') (.inl (hrow.other ho hc)),
      hU.kept (grownBy_putObj' W l o') (by intro e; injection e with e; omega), h1.kept (grownBy_putObj' W l o') (by intro e; injection e with e; omega), h2.kept (grownBy_putObj' W l o') (by intro e; injection e with e; omega), belowPutObj hB (by omega)⟩
  case hIx =>
    rintro c W l o o' hl ho hc ⟨hk, hlt, h1, h2, hB⟩
    exact ⟨hk, hlt, h1.kept (grownBy_putObj' W l o') (by intro e; injection e with e; omega), h2.kept (grownBy_putObj' W l o') (by intro e; injection e with e; omega), belowPutObj hB (by omega)⟩
  case h0 =>
    intro W' hst
    have tr : ∀ (B t : Nat) (v : Value), Boxed W0 B t v → B < A0 + 6 → Boxed W' B t v := fun B t v h hb => (hst.block B h.lt (by omega)).trans h
    refine ⟨Nat.zero_le _, _, _, tr _ _ _ hP (by omega), HS.out, tr _ _ _ hL (by omega), ?_, tr _ _ _ hU (by omega), tr _ _ _ h1 (by omega), tr _ _ _ h2 (by omega), ?_⟩
    · exact hrow.moved fun r hr => by
        simp only [Value.ownBlock, Option.some.injEq] at hr
        subst hr
        exact hst.block _ (by omega) (by omega)
    · exact ⟨hst.os.trans hB.os, hst.tape.trans hB.tape, hst.output.trans hB.output, Nat.le_trans hB.size hst.size, fun k hk => (hst.block k (by omega) (by omega)).trans (hB.block k hk)⟩
  case assign =>
    intro l x W K hK
    gi_wp2
    exact hK
  case body =>
    rintro l k x W hx ⟨hk, pv, lv, hP, hSl, hL, hrow, hU, h1, h2, hB⟩
    clear hsides HSS HS
    have hkl : k < ss.length := (List.getElem?_eq_some_iff.1 hx).1
    by_cases hke : k = ps.length
    · rw [hke, List.drop_length] at hSl
      obtain ⟨a', cap', rfl, _⟩ := hSl
      have c1 := hP.cell
      have c2 := h1.cell
      have c3 := h1.frozen
      have c4 := h2.cell
      have c5 := h2.frozen
      clear hP hL hrow hU
      gi_wp2
      have hne : ¬ (A2 = A1) := by omega
      refine ⟨(KeepsOthers.setCell _ _ _).trans (KeepsOthers.setCell _ _ _), rfl, by omega, ?_, ?_, ?_⟩
      · exact boxOther (h1.set _) _ (by omega) _
      · exact (boxOther h2 _ (by omega) _).set _
      · exact (hB.setCell (p := ⟨A1, 0, none⟩) (by show A0 ≤ A1; omega) _).setCell (p := ⟨A2, 0, none⟩) (by show A0 ≤ A2; omega) _
    · have hlt : k < ps.length := by omega
      have hSl' := hSl
      obtain ⟨a', cap', rfl, q1, q2, q3, hf⟩ := hSl
      have hdl : (ps.drop k).length = ps.length - k := by rw [List.length_drop]
      obtain ⟨b, o, rfl, hb, hc⟩ := hf (by omega)
      have hc0 := hc 0 (by omega)
      have hg0 : (ps.drop k).getD 0 0 = ps.getD k 0 := by simp [List.getD, List.getElem?_drop]
      rw [Nat.add_zero, hg0] at hc0
      have hcW : W.cell? ⟨b, o, none⟩ = some (.int .u64 (ps.getD k 0)) := by rw [hB.cell (p := ⟨b, o, none⟩) (e0 ▸ hb)]; exact hc0
      obtain ⟨p, hp⟩ : ∃ p, ps.getD k 0 = p := ⟨_, rfl⟩
      obtain ⟨u, hu⟩ : ∃ u, Mk.upAt ss ps leaf k = u := ⟨_, rfl⟩
      obtain ⟨len, hlen⟩ : ∃ len, (ps.drop k).length = len := ⟨_, rfl⟩
      rw [hp] at hcW
      rw [hu] at hU
      rw [hlen] at q1 hP
      have hlz : ((len : Int) == 0) = false := by rw [beq_eq_false_iff_ne]; omega
      have i1 : (0 : Int) < (len : Int) := by omega
      have i0 : ¬ len = 0 := by omega
      have i2 : ¬ ((len : Int) < 1) := by omega
      have i3 : (1 : Int) ≤ (len : Int) := by omega
      have c1 := hP.cell
      have c2 := hU.cell
      have HD := hid (And.intro hSl' (And.intro hc (And.intro hlen (And.intro hp hu))))
      clear hSl' hc hc0 hg0 hlen hp hu hdl hf
      gi_wp2
      refine wpIn_region_wpAny (by kernel_rfl) (by kernel_rfl) (by rintro ⟨_, _, hOut⟩; exact hOut) ?_
      refine wpAny_of_T (keys := [6]) (R := fun _ w' => w'.cell? ⟨A0, 0, none⟩ = some (.slice (some ⟨b, o, none⟩) len cap') ∧ w'.cell? ⟨A5, 0, none⟩ = some (.int .u64 u) ∧ w'.cell? ⟨b, o, none⟩ = some (.int .u64 p)) _ _ _ _ ?_
      have hHeld0 : Held [6] (fun (_ : Nat) w' => w'.cell? ⟨A0, 0, none⟩ = some (.slice (some ⟨b, o, none⟩) len cap') ∧ w'.cell? ⟨A5, 0, none⟩ = some (.int .u64 u) ∧ w'.cell? ⟨b, o, none⟩ = some (.int .u64 p)) (Array.replicate 7 false) W.drew := fun _ _ _ => ⟨c1, c2, hcW⟩
      refine wpAnyT_take 0 (some 26) (.slice (some ⟨b, o, none⟩) len cap') rfl rfl (by kernel_rfl) (by kernel_rfl) (by kernel_rfl) (by kernel_rfl) (by kernel_rfl) (fun _ _ _ h => h) (by assumption) (by rfl) (by intro w' hh; obtain ⟨k1, k2, k3⟩ := hh 6 (by simp) (by kernel_rfl); go_simp) (fun hHeld => ?_)
      simp only [Act.put, List.setIfInBounds_toArray, List.set_cons_zero, List.set_cons_succ]
      refine wpAnyT_take 1 (some 27) (.pointer (some ⟨b, o, none⟩)) rfl rfl (by kernel_rfl) (by kernel_rfl) (by kernel_rfl) (by kernel_rfl) (by kernel_rfl) (fun _ _ _ h => h) (by assumption) (by rfl) (by intro w' hh; obtain ⟨k1, k2, k3⟩ := hh 6 (by simp) (by kernel_rfl); go_simp) (fun hHeld => ?_)
      simp only [Act.put, List.setIfInBounds_toArray, List.set_cons_zero, List.set_cons_succ]
      refine wpAnyT_take 2 (some 28) (.int .u64 p) rfl rfl (by kernel_rfl) (by kernel_rfl) (by kernel_rfl) (by kernel_rfl) (by kernel_rfl) (fun _ _ _ h => h) (by assumption) (by rfl) (by intro w' hh; obtain ⟨k1, k2, k3⟩ := hh 6 (by simp) (by kernel_rfl); go_simp) (fun hHeld => ?_)
      simp only [Act.put, List.setIfInBounds_toArray, List.set_cons_zero, List.set_cons_succ]
      refine wpAnyT_take 3 (some 29) (.int .u64 u) rfl rfl (by kernel_rfl) (by kernel_rfl) (by kernel_rfl) (by kernel_rfl) (by kernel_rfl) (fun _ _ _ h => h) (by assumption) (by rfl) (by intro w' hh; obtain ⟨k1, k2, k3⟩ := hh 6 (by simp) (by kernel_rfl); go_simp) (fun hHeld => ?_)
      simp only [Act.put, List.setIfInBounds_toArray, List.set_cons_zero, List.set_cons_succ]
      refine wpAnyT_take 4 (some 30) (.agg #[.int .u64 p, .int .u64 u]) rfl rfl (by kernel_rfl) (by kernel_rfl) (by kernel_rfl) (by kernel_rfl) (by kernel_rfl) (fun _ _ _ h => h) (by assumption) (by rfl) (by intro w' hh; obtain ⟨k1, k2, k3⟩ := hh 6 (by simp) (by kernel_rfl); go_simp) (fun hHeld => ?_)
      simp only [Act.put, List.setIfInBounds_toArray, List.set_cons_zero, List.set_cons_succ]
      refine wpAnyT_step 5 rfl (by kernel_rfl) (by rfl) ?_
      go_simp
      refine ⟨fun _ _ _ => ⟨by go_simp, by go_simp, by go_simp⟩, ?_⟩
      refine wpAnyT_step 6 rfl (by kernel_rfl) (by rfl) ?_
      go_simp
      refine ⟨Held.none (by kernel_rfl), wpAnyT_done (by kernel_rfl) ?_⟩
      -- REGION10
      obtain ⟨g, gc, rfl, hg0, hg1, hg2, hg3⟩ := hrow.form (by rw [Mk.pairsTo_length]; omega)
      have lA4 := hL.lt
      have lA5 := hU.lt
      have lA0 := hP.lt
      obtain ⟨ad, had⟩ : ∃ ad, Hid ((if cap' = 1 then (⟨b, o, none⟩ : Addr) else ⟨b, o + 1, none⟩) = ad) := ⟨_, rfl⟩
      cases x
      · gi_wp2
        have d3 : (W.alloc (.cells #[.int .u64 p, .int .u64 u] 123)).drew.cell? ⟨W.heap.size, 0, none⟩ = some (.int .u64 p) := by go_simp
        have d4 : (W.alloc (.cells #[.int .u64 p, .int .u64 u] 123)).drew.cell? ⟨W.heap.size, 1, none⟩ = some (.int .u64 u) := by go_simp
        have q0 : Below W.heap.size W (W.alloc (.cells #[.int .u64 p, .int .u64 u] 123)).drew := seqB (aB W _) (dB _)
        have q1 : W.heap.size < (W.alloc (.cells #[.int .u64 p, .int .u64 u] 123)).drew.heap.size := by simp
        generalize (W.alloc (.cells #[.int .u64 p, .int .u64 u] 123)).drew = W2 at *
        have d1 : W2.cell? ⟨A4, 0, none⟩ = some (.slice (some ⟨g, 0, none⟩) (Mk.pairsTo ss ps leaf k).length gc) := Boxed.cell (Boxed.of_below hL q0)
        have d2 : W2.cell? ⟨A0, 0, none⟩ = some (.slice (some ⟨b, o, none⟩) len cap') := Boxed.cell (Boxed.of_below hP q0)
        refine wpIn_region_wpAny (by kernel_rfl) (by kernel_rfl) (by rintro ⟨_, _, hOut⟩; exact hOut) ?_
        refine wpAny_of_T (keys := [11, 12, 13]) (R := fun t w' => (t = 11 → w'.cell? ⟨A4, 0, none⟩ = some (.slice (some ⟨g, 0, none⟩) (Mk.pairsTo ss ps leaf k).length gc)) ∧ (t = 13 → w'.cell? ⟨A0, 0, none⟩ = some (.slice (some ⟨b, o, none⟩) len cap') ∧ w'.cell? ⟨W.heap.size, 0, none⟩ = some (.int .u64 p) ∧ w'.cell? ⟨W.heap.size, 1, none⟩ = some (.int .u64 u))) _ _ _ _ ?_
        have hHeld0 : Held [11, 12, 13] (fun (t : Nat) (w' : World) => (t = 11 → w'.cell? ⟨A4, 0, none⟩ = some (.slice (some ⟨g, 0, none⟩) (Mk.pairsTo ss ps leaf k).length gc)) ∧ (t = 13 → w'.cell? ⟨A0, 0, none⟩ = some (.slice (some ⟨b, o, none⟩) len cap') ∧ w'.cell? ⟨W.heap.size, 0, none⟩ = some (.int .u64 p) ∧ w'.cell? ⟨W.heap.size, 1, none⟩ = some (.int .u64 u))) (Array.replicate 14 false) W2.drew := fun _ _ _ => ⟨fun _ => d1, fun _ => ⟨d2, d3, d4⟩⟩
        refine wpAnyT_take 0 (some 37) (.slice (some ⟨g, 0, none⟩) (Mk.pairsTo ss ps leaf k).length gc) rfl rfl (by kernel_rfl) (by kernel_rfl) (by kernel_rfl) (by kernel_rfl) (by kernel_rfl) (fun _ _ _ h => h) (by assumption) (by rfl) (by intro w' hh; have k1 := (hh 11 (by simp) (by kernel_rfl)).1 rfl; go_simp) (fun hHeld => ?_)
        simp only [Act.put, List.setIfInBounds_toArray, List.set_cons_zero, List.set_cons_succ]
        refine wpAnyT_take 1 (some 38) (.agg #[.int .u64 p, .int .u64 u]) rfl rfl (by kernel_rfl) (by kernel_rfl) (by kernel_rfl) (by kernel_rfl) (by kernel_rfl) (fun _ _ _ h => h) (by assumption) (by rfl) (by intro w' hh; obtain ⟨k1, k2, k3⟩ := (hh 13 (by simp) (by kernel_rfl)).2 rfl; go_simp) (fun hHeld => ?_)
        simp only [Act.put, List.setIfInBounds_toArray, List.set_cons_zero, List.set_cons_succ]
        refine wpAnyT_take 4 (some 41) (.pointer (some ⟨W.heap.size, 0, none⟩)) rfl rfl (by kernel_rfl) (by kernel_rfl) (by kernel_rfl) (by kernel_rfl) (by kernel_rfl) (fun _ _ _ h => h) (by assumption) (by rfl) (by intro w' hh; obtain ⟨k1, k2, k3⟩ := (hh 13 (by simp) (by kernel_rfl)).2 rfl; go_simp) (fun hHeld => ?_)
        simp only [Act.put, List.setIfInBounds_toArray, List.set_cons_zero, List.set_cons_succ]
        refine wpAnyT_take 6 (some 43) (.pointer (some ⟨W.heap.size, 1, none⟩)) rfl rfl (by kernel_rfl) (by kernel_rfl) (by kernel_rfl) (by kernel_rfl) (by kernel_rfl) (fun _ _ _ h => h) (by assumption) (by rfl) (by intro w' hh; obtain ⟨k1, k2, k3⟩ := (hh 13 (by simp) (by kernel_rfl)).2 rfl; go_simp) (fun hHeld => ?_)
        simp only [Act.put, List.setIfInBounds_toArray, List.set_cons_zero, List.set_cons_succ]
        refine wpAnyT_take 5 (some 42) (.int .u64 p) rfl rfl (by kernel_rfl) (by kernel_rfl) (by kernel_rfl) (by kernel_rfl) (by kernel_rfl) (fun _ _ _ h => h) (by assumption) (by rfl) (by intro w' hh; obtain ⟨k1, k2, k3⟩ := (hh 13 (by simp) (by kernel_rfl)).2 rfl; go_simp) (fun hHeld => ?_)
        simp only [Act.put, List.setIfInBounds_toArray, List.set_cons_zero, List.set_cons_succ]
        refine wpAnyT_take 7 (some 44) (.int .u64 u) rfl rfl (by kernel_rfl) (by kernel_rfl) (by kernel_rfl) (by kernel_rfl) (by kernel_rfl) (fun _ _ _ h => h) (by assumption) (by rfl) (by intro w' hh; obtain ⟨k1, k2, k3⟩ := (hh 13 (by simp) (by kernel_rfl)).2 rfl; go_simp) (fun hHeld => ?_)
        simp only [Act.put, List.setIfInBounds_toArray, List.set_cons_zero, List.set_cons_succ]
        refine wpAnyT_take 9 (some 46) (.slice (some ⟨b, o, none⟩) len cap') rfl rfl (by kernel_rfl) (by kernel_rfl) (by kernel_rfl) (by kernel_rfl) (by kernel_rfl) (fun _ _ _ h => h) (by assumption) (by rfl) (by intro w' hh; obtain ⟨k1, k2, k3⟩ := (hh 13 (by simp) (by kernel_rfl)).2 rfl; go_simp) (fun hHeld => ?_)
        simp only [Act.put, List.setIfInBounds_toArray, List.set_cons_zero, List.set_cons_succ]
        refine wpAnyT_take 10 (some 47) (.slice (some ad) (len - 1) (cap' - 1)) rfl rfl (by kernel_rfl) (by kernel_rfl) (by kernel_rfl) (by kernel_rfl) (by kernel_rfl) (fun _ _ _ h => h) (by assumption) (by rfl) (by intro w' hh; rw [← had.out]; by_cases hcc : cap' = 1 <;> go_simp) (fun hHeld => ?_)
        simp only [Act.put, List.setIfInBounds_toArray, List.set_cons_zero, List.set_cons_succ]
        refine wpAnyT_step 2 rfl (by kernel_rfl) (by rfl) ?_
        go_simp
        refine ⟨fun _ _ _ => ⟨fun _ => by go_simp, fun _ => ⟨by go_simp, by go_simp, by go_simp⟩⟩, ?_⟩
        refine wpAnyT_step 3 rfl (by kernel_rfl) (by rfl) ?_
        have qr : Below W.heap.size W (W2.alloc (.cells #[.int .u64 p, .int .u64 u] 123)).drew := q0.trans ((seqB (aB W2 _) (dB _)).mono q0.size)
        have hrow3 := hrow.kept qr
        have hL3 := Boxed.of_below hL qr
        have hP3 := Boxed.of_below hP qr
        have hU3 := Boxed.of_below hU qr
        have h13 := Boxed.of_below h1 qr
        have h23 := Boxed.of_below h2 qr
        refine wp_appendP (.tmp 37) (.tmp 39) rfl A0 (Mk.pairsTo ss ps leaf k) p u (.slice (some ⟨g, 0, none⟩) (Mk.pairsTo ss ps leaf k).length gc) W2.heap.size 1 rfl rfl hrow3 (by constructor <;> go_simp) (by rw [Mk.pairsTo_length]; omega) (by have := hB.size; have := qr.size; omega) ?_
        intro v3 W3 ho3 hgr
        have hL4 := hL3.kept hgr (hrow3.boxed hL3 (by decide))
        have hP4 := hP3.kept hgr (hrow3.boxed hP3 (by decide))
        have hU4 := hU3.kept hgr (hrow3.boxed hU3 (by decide))
        have h14 := h13.kept hgr (hrow3.boxed h13 (by decide))
        have h24 := h23.kept hgr (hrow3.boxed h23 (by decide))
        have hNW : W.heap.size ≠ g := by omega
        have n3 : W3.cell? ⟨W.heap.size, 0, none⟩ = some (.int .u64 p) := hgr.cell (by go_simp) (by intro e; injection e with e; exact hNW e)
        have n4 : W3.cell? ⟨W.heap.size, 1, none⟩ = some (.int .u64 u) := hgr.cell (by go_simp) (by intro e; injection e with e; exact hNW e)
        have hKo : KeepsOthers W W3 := (KeepsOthers.of_below qr).trans (KeepsOthers.of_grownBy hgr (fun j o' hj ho => by obtain ⟨_, cur, hc⟩ := hrow3.row hj; rw [hc] at ho; cases ho; rfl))
        have hKb : KpB W W3 := (KpB.of_below qr).trans (KpB.of_grownBy hgr (fun j cur fr hj ho => by obtain ⟨_, cur, hc⟩ := hrow3.row hj; rw [hc] at ho; injection ho with ho; injection ho with _ ho; exact absurd ho (by decide)))
        have hB3 : Below A0 w W3 := (hB.trans (qr.mono (by have := hB.size; omega))).trans (hrow3.below hgr (by have := hB.size; have := qr.size; omega))
        obtain ⟨g3, gc3, hv3, hg30, hg31, hg32, hg33⟩ := ho3.form (by simp)
        rw [show (Mk.pairsTo ss ps leaf k ++ [(p, u)]).length = k + 2 by simp [Mk.pairsTo_length]] at hv3
        subst hv3
        have e1 := hL4.cell
        have e2 := hL4.frozen
        have e3 := hP4.cell
        have e4 := hP4.frozen
        have e5 := hU4.cell
        have e6 := hU4.frozen
        have HR := hid (And.intro ho3 (And.intro hgr (And.intro hrow3 qr)))
        clear ho3 hgr hrow3 hL3 hP3 hU3 h13 h23 hg33 hg32 qr
        refine ⟨fun _ _ _ => ⟨fun _ => e1, fun _ => ⟨e3, n3, n4⟩⟩, ?_⟩
        try simp only [Act.put, List.setIfInBounds_toArray, List.set_cons_zero, List.set_cons_succ]
        refine wpAnyT_step 8 rfl (by kernel_rfl) (by rfl) ?_
        go_simp
        refine (join_any _ _ _).mono ?_
        rintro e w' ⟨rfl, rfl⟩
        refine ⟨fun _ _ _ => ⟨fun _ => e1, fun _ => ⟨e3, n3, n4⟩⟩, ?_⟩
        refine wpAnyT_step 11 rfl (by kernel_rfl) (by rfl) ?_
        go_simp
        have f3 := (boxOther hP4 A4 (by omega) (.slice (some ⟨g3, 0, none⟩) (k + 2) gc3))
        have f5 := (boxOther hU4 A4 (by omega) (.slice (some ⟨g3, 0, none⟩) (k + 2) gc3))
        have f4 := boxOther f3 A5 (by omega) (.int .u64 (I (Dg.join (B p) (B u))))
        have y1 := f3.cell
        have y3 := f5.cell
        have y4 := f5.frozen
        have y5 := f4.cell
        have y6 := f4.frozen
        have z0 : ∀ (B : Nat) (v : Value), B ≠ W.heap.size → (W3.setCell ⟨B, 0, none⟩ v).cell? ⟨W.heap.size, 0, none⟩ = some (.int .u64 p) ∧ (W3.setCell ⟨B, 0, none⟩ v).cell? ⟨W.heap.size, 1, none⟩ = some (.int .u64 u) := fun B v hne => ⟨(World.cell?_setCell_far _ _ _ _ hne).trans n3, (World.cell?_setCell_far _ _ _ _ hne).trans n4⟩
        refine ⟨fun t _ hl => ⟨fun e => by subst e; exact Bool.noConfusion (show true = false from hl), fun _ => ⟨y1, (z0 A4 _ (by omega)).1, (z0 A4 _ (by omega)).2⟩⟩, ?_⟩
        refine wpAnyT_step 12 rfl (by kernel_rfl) (by rfl) ?_
        go_simp
        refine ⟨fun t _ hl => ⟨fun e => by subst e; exact Bool.noConfusion (show true = false from hl), fun _ => ⟨y5, (World.cell?_setCell_far _ _ _ _ (fun e => absurd (show A5 = W.heap.size from e) (by omega))).trans (z0 A4 _ (by omega)).1, (World.cell?_setCell_far _ _ _ _ (fun e => absurd (show A5 = W.heap.size from e) (by omega))).trans (z0 A4 _ (by omega)).2⟩⟩, ?_⟩
        refine wpAnyT_step 13 rfl (by kernel_rfl) (by rfl) ?_
        go_simp
        refine ⟨Held.none (by kernel_rfl), wpAnyT_done (by kernel_rfl) ?_⟩
        gi_wp2
        obtain ⟨ho3, hgr, hrow3, qr⟩ := HR.out
        obtain ⟨s1, s2, s3, s4, s5⟩ := HD.out
        have r4 := ho3.grown (grownBy_setCell' W3 A4 (.slice (some ⟨g3, 0, none⟩) (k + 2) gc3)) (.inl (ho3.boxed hL4 (by decide)))
        have r5 := r4.grown (grownBy_setCell' _ A5 (.int .u64 (I (Dg.join (B p) (B u))))) (.inl (r4.boxed f5 (by decide)))
        have r6 := r5.grown (grownBy_setCell' _ A0 (.slice (some ad) (len - 1) (cap' - 1))) (.inl (r5.boxed f4 (by decide)))
        have hpa : Mk.pairAt ss ps leaf k = (p, u) := by
          unfold Mk.pairAt
          rw [s4, s5, show ss.getD k false = false by simp [List.getD, hx]]
          rfl
        refine ⟨((hKo.trans (KeepsOthers.setCell _ _ _)).trans (KeepsOthers.setCell _ _ _)).trans (KeepsOthers.setCell _ _ _), ((hKb.trans (KpB.box hL4 (by decide) _)).trans (KpB.box f5 (by decide) _)).trans (KpB.box f4 (by decide) _), by omega, _, _, f4.set _, ?_, boxOther (boxOther (hL4.set _) A5 (by omega) _) A0 (by omega) _, ?_, ?_, boxOther (boxOther (boxOther h14 A4 (by omega) _) A5 (by omega) _) A0 (by omega) _, boxOther (boxOther (boxOther h24 A4 (by omega) _) A5 (by omega) _) A0 (by omega) _, ?_⟩
        · rw [s3] at s1
          have := s1.tail (by omega)
          rw [had.out, List.drop_drop] at this
          exact this
        · rw [Mk.pairsTo_succ, hpa]; exact r6
        · rw [Mk.upAt_succ, hpa]; exact boxOther (f5.set _) A0 (by omega) _
        · exact ((hB3.setCell (p := ⟨A4, 0, none⟩) (by show A0 ≤ A4; omega) _).setCell (p := ⟨A5, 0, none⟩) (by show A0 ≤ A5; omega) _).setCell (p := ⟨A0, 0, none⟩) (by show A0 ≤ A0; omega) _

      · gi_wp2
        refine wpIn_region_wpAny (by kernel_rfl) (by kernel_rfl) (by rintro ⟨_, _, hOut⟩; exact hOut) ?_
        refine wpAny_of_T (keys := [5]) (R := fun _ w' => w'.cell? ⟨A0, 0, none⟩ = some (.slice (some ⟨b, o, none⟩) len cap') ∧ w'.cell? ⟨A5, 0, none⟩ = some (.int .u64 u) ∧ w'.cell? ⟨b, o, none⟩ = some (.int .u64 p)) _ _ _ _ ?_
        have hHeld0 : Held [5] (fun (_ : Nat) w' => w'.cell? ⟨A0, 0, none⟩ = some (.slice (some ⟨b, o, none⟩) len cap') ∧ w'.cell? ⟨A5, 0, none⟩ = some (.int .u64 u) ∧ w'.cell? ⟨b, o, none⟩ = some (.int .u64 p)) (Array.replicate 6 false) ((W.alloc (.cells #[.int .u64 p, .int .u64 u] 123)).drew).drew := fun _ _ _ => ⟨by go_simp, by go_simp, by go_simp⟩
        refine wpAnyT_take 0 (some 32) (.int .u64 u) rfl rfl (by kernel_rfl) (by kernel_rfl) (by kernel_rfl) (by kernel_rfl) (by kernel_rfl) (fun _ _ _ h => h) (by assumption) (by rfl) (by intro w' hh; obtain ⟨k1, k2, k3⟩ := hh 5 (by simp) (by kernel_rfl); go_simp) (fun hHeld => ?_)
        simp only [Act.put, List.setIfInBounds_toArray, List.set_cons_zero, List.set_cons_succ]
        refine wpAnyT_take 1 (some 33) (.slice (some ⟨b, o, none⟩) len cap') rfl rfl (by kernel_rfl) (by kernel_rfl) (by kernel_rfl) (by kernel_rfl) (by kernel_rfl) (fun _ _ _ h => h) (by assumption) (by rfl) (by intro w' hh; obtain ⟨k1, k2, k3⟩ := hh 5 (by simp) (by kernel_rfl); go_simp) (fun hHeld => ?_)
        simp only [Act.put, List.setIfInBounds_toArray, List.set_cons_zero, List.set_cons_succ]
        refine wpAnyT_take 2 (some 34) (.pointer (some ⟨b, o, none⟩)) rfl rfl (by kernel_rfl) (by kernel_rfl) (by kernel_rfl) (by kernel_rfl) (by kernel_rfl) (fun _ _ _ h => h) (by assumption) (by rfl) (by intro w' hh; obtain ⟨k1, k2, k3⟩ := hh 5 (by simp) (by kernel_rfl); go_simp) (fun hHeld => ?_)
        simp only [Act.put, List.setIfInBounds_toArray, List.set_cons_zero, List.set_cons_succ]
        refine wpAnyT_take 3 (some 35) (.int .u64 p) rfl rfl (by kernel_rfl) (by kernel_rfl) (by kernel_rfl) (by kernel_rfl) (by kernel_rfl) (fun _ _ _ h => h) (by assumption) (by rfl) (by intro w' hh; obtain ⟨k1, k2, k3⟩ := hh 5 (by simp) (by kernel_rfl); go_simp) (fun hHeld => ?_)
        simp only [Act.put, List.setIfInBounds_toArray, List.set_cons_zero, List.set_cons_succ]
        refine wpAnyT_take 4 (some 36) (.agg #[.int .u64 u, .int .u64 p]) rfl rfl (by kernel_rfl) (by kernel_rfl) (by kernel_rfl) (by kernel_rfl) (by kernel_rfl) (fun _ _ _ h => h) (by assumption) (by rfl) (by intro w' hh; obtain ⟨k1, k2, k3⟩ := hh 5 (by simp) (by kernel_rfl); go_simp) (fun hHeld => ?_)
        simp only [Act.put, List.setIfInBounds_toArray, List.set_cons_zero, List.set_cons_succ]
        refine wpAnyT_step 5 rfl (by kernel_rfl) (by rfl) ?_
        go_simp
        refine ⟨Held.none (by kernel_rfl), wpAnyT_done (by kernel_rfl) ?_⟩
        gi_wp2
        have d3 : (W.alloc (.cells #[.int .u64 u, .int .u64 p] 123)).drew.drew.cell? ⟨W.heap.size, 0, none⟩ = some (.int .u64 u) := by go_simp
        have d4 : (W.alloc (.cells #[.int .u64 u, .int .u64 p] 123)).drew.drew.cell? ⟨W.heap.size, 1, none⟩ = some (.int .u64 p) := by go_simp
        have q0 : Below W.heap.size W (W.alloc (.cells #[.int .u64 u, .int .u64 p] 123)).drew.drew := seqB (aB W _) (seqB (dB _) (dB _))
        have q1 : W.heap.size < (W.alloc (.cells #[.int .u64 u, .int .u64 p] 123)).drew.drew.heap.size := by simp
        generalize (W.alloc (.cells #[.int .u64 u, .int .u64 p] 123)).drew.drew = W2 at *
        have d1 : W2.cell? ⟨A4, 0, none⟩ = some (.slice (some ⟨g, 0, none⟩) (Mk.pairsTo ss ps leaf k).length gc) := Boxed.cell (Boxed.of_below hL q0)
        have d2 : W2.cell? ⟨A0, 0, none⟩ = some (.slice (some ⟨b, o, none⟩) len cap') := Boxed.cell (Boxed.of_below hP q0)
        refine wpIn_region_wpAny (by kernel_rfl) (by kernel_rfl) (by rintro ⟨_, _, hOut⟩; exact hOut) ?_
        refine wpAny_of_T (keys := [11, 12, 13]) (R := fun t w' => (t = 11 → w'.cell? ⟨A4, 0, none⟩ = some (.slice (some ⟨g, 0, none⟩) (Mk.pairsTo ss ps leaf k).length gc)) ∧ (t = 13 → w'.cell? ⟨A0, 0, none⟩ = some (.slice (some ⟨b, o, none⟩) len cap') ∧ w'.cell? ⟨W.heap.size, 0, none⟩ = some (.int .u64 u) ∧ w'.cell? ⟨W.heap.size, 1, none⟩ = some (.int .u64 p))) _ _ _ _ ?_
        have hHeld0 : Held [11, 12, 13] (fun (t : Nat) (w' : World) => (t = 11 → w'.cell? ⟨A4, 0, none⟩ = some (.slice (some ⟨g, 0, none⟩) (Mk.pairsTo ss ps leaf k).length gc)) ∧ (t = 13 → w'.cell? ⟨A0, 0, none⟩ = some (.slice (some ⟨b, o, none⟩) len cap') ∧ w'.cell? ⟨W.heap.size, 0, none⟩ = some (.int .u64 u) ∧ w'.cell? ⟨W.heap.size, 1, none⟩ = some (.int .u64 p))) (Array.replicate 14 false) W2.drew := fun _ _ _ => ⟨fun _ => d1, fun _ => ⟨d2, d3, d4⟩⟩
        refine wpAnyT_take 0 (some 37) (.slice (some ⟨g, 0, none⟩) (Mk.pairsTo ss ps leaf k).length gc) rfl rfl (by kernel_rfl) (by kernel_rfl) (by kernel_rfl) (by kernel_rfl) (by kernel_rfl) (fun _ _ _ h => h) (by assumption) (by rfl) (by intro w' hh; have k1 := (hh 11 (by simp) (by kernel_rfl)).1 rfl; go_simp) (fun hHeld => ?_)
        simp only [Act.put, List.setIfInBounds_toArray, List.set_cons_zero, List.set_cons_succ]
        refine wpAnyT_take 1 (some 38) (.agg #[.int .u64 u, .int .u64 p]) rfl rfl (by kernel_rfl) (by kernel_rfl) (by kernel_rfl) (by kernel_rfl) (by kernel_rfl) (fun _ _ _ h => h) (by assumption) (by rfl) (by intro w' hh; obtain ⟨k1, k2, k3⟩ := (hh 13 (by simp) (by kernel_rfl)).2 rfl; go_simp) (fun hHeld => ?_)
        simp only [Act.put, List.setIfInBounds_toArray, List.set_cons_zero, List.set_cons_succ]
        refine wpAnyT_take 4 (some 41) (.pointer (some ⟨W.heap.size, 0, none⟩)) rfl rfl (by kernel_rfl) (by kernel_rfl) (by kernel_rfl) (by kernel_rfl) (by kernel_rfl) (fun _ _ _ h => h) (by assumption) (by rfl) (by intro w' hh; obtain ⟨k1, k2, k3⟩ := (hh 13 (by simp) (by kernel_rfl)).2 rfl; go_simp) (fun hHeld => ?_)
        simp only [Act.put, List.setIfInBounds_toArray, List.set_cons_zero, List.set_cons_succ]
        refine wpAnyT_take 6 (some 43) (.pointer (some ⟨W.heap.size, 1, none⟩)) rfl rfl (by kernel_rfl) (by kernel_rfl) (by kernel_rfl) (by kernel_rfl) (by kernel_rfl) (fun _ _ _ h => h) (by assumption) (by rfl) (by intro w' hh; obtain ⟨k1, k2, k3⟩ := (hh 13 (by simp) (by kernel_rfl)).2 rfl; go_simp) (fun hHeld => ?_)
        simp only [Act.put, List.setIfInBounds_toArray, List.set_cons_zero, List.set_cons_succ]
        refine wpAnyT_take 5 (some 42) (.int .u64 u) rfl rfl (by kernel_rfl) (by kernel_rfl) (by kernel_rfl) (by kernel_rfl) (by kernel_rfl) (fun _ _ _ h => h) (by assumption) (by rfl) (by intro w' hh; obtain ⟨k1, k2, k3⟩ := (hh 13 (by simp) (by kernel_rfl)).2 rfl; go_simp) (fun hHeld => ?_)
        simp only [Act.put, List.setIfInBounds_toArray, List.set_cons_zero, List.set_cons_succ]
        refine wpAnyT_take 7 (some 44) (.int .u64 p) rfl rfl (by kernel_rfl) (by kernel_rfl) (by kernel_rfl) (by kernel_rfl) (by kernel_rfl) (fun _ _ _ h => h) (by assumption) (by rfl) (by intro w' hh; obtain ⟨k1, k2, k3⟩ := (hh 13 (by simp) (by kernel_rfl)).2 rfl; go_simp) (fun hHeld => ?_)
        simp only [Act.put, List.setIfInBounds_toArray, List.set_cons_zero, List.set_cons_succ]
        refine wpAnyT_take 9 (some 46) (.slice (some ⟨b, o, none⟩) len cap') rfl rfl (by kernel_rfl) (by kernel_rfl) (by kernel_rfl) (by kernel_rfl) (by kernel_rfl) (fun _ _ _ h => h) (by assumption) (by rfl) (by intro w' hh; obtain ⟨k1, k2, k3⟩ := (hh 13 (by simp) (by kernel_rfl)).2 rfl; go_simp) (fun hHeld => ?_)
        simp only [Act.put, List.setIfInBounds_toArray, List.set_cons_zero, List.set_cons_succ]
        refine wpAnyT_take 10 (some 47) (.slice (some ad) (len - 1) (cap' - 1)) rfl rfl (by kernel_rfl) (by kernel_rfl) (by kernel_rfl) (by kernel_rfl) (by kernel_rfl) (fun _ _ _ h => h) (by assumption) (by rfl) (by intro w' hh; rw [← had.out]; by_cases hcc : cap' = 1 <;> go_simp) (fun hHeld => ?_)
        simp only [Act.put, List.setIfInBounds_toArray, List.set_cons_zero, List.set_cons_succ]
        refine wpAnyT_step 2 rfl (by kernel_rfl) (by rfl) ?_
        go_simp
        refine ⟨fun _ _ _ => ⟨fun _ => by go_simp, fun _ => ⟨by go_simp, by go_simp, by go_simp⟩⟩, ?_⟩
        refine wpAnyT_step 3 rfl (by kernel_rfl) (by rfl) ?_
        have qr : Below W.heap.size W (W2.alloc (.cells #[.int .u64 u, .int .u64 p] 123)).drew := q0.trans ((seqB (aB W2 _) (dB _)).mono q0.size)
        have hrow3 := hrow.kept qr
        have hL3 := Boxed.of_below hL qr
        have hP3 := Boxed.of_below hP qr
        have hU3 := Boxed.of_below hU qr
        have h13 := Boxed.of_below h1 qr
        have h23 := Boxed.of_below h2 qr
        refine wp_appendP (.tmp 37) (.tmp 39) rfl A0 (Mk.pairsTo ss ps leaf k) u p (.slice (some ⟨g, 0, none⟩) (Mk.pairsTo ss ps leaf k).length gc) W2.heap.size 1 rfl rfl hrow3 (by constructor <;> go_simp) (by rw [Mk.pairsTo_length]; omega) (by have := hB.size; have := qr.size; omega) ?_
        intro v3 W3 ho3 hgr
        have hL4 := hL3.kept hgr (hrow3.boxed hL3 (by decide))
        have hP4 := hP3.kept hgr (hrow3.boxed hP3 (by decide))
        have hU4 := hU3.kept hgr (hrow3.boxed hU3 (by decide))
        have h14 := h13.kept hgr (hrow3.boxed h13 (by decide))
        have h24 := h23.kept hgr (hrow3.boxed h23 (by decide))
        have hNW : W.heap.size ≠ g := by omega
        have n3 : W3.cell? ⟨W.heap.size, 0, none⟩ = some (.int .u64 u) := hgr.cell (by go_simp) (by intro e; injection e with e; exact hNW e)
        have n4 : W3.cell? ⟨W.heap.size, 1, none⟩ = some (.int .u64 p) := hgr.cell (by go_simp) (by intro e; injection e with e; exact hNW e)
        have hKo : KeepsOthers W W3 := (KeepsOthers.of_below qr).trans (KeepsOthers.of_grownBy hgr (fun j o' hj ho => by obtain ⟨_, cur, hc⟩ := hrow3.row hj; rw [hc] at ho; cases ho; rfl))
        have hKb : KpB W W3 := (KpB.of_below qr).trans (KpB.of_grownBy hgr (fun j cur fr hj ho => by obtain ⟨_, cur, hc⟩ := hrow3.row hj; rw [hc] at ho; injection ho with ho; injection ho with _ ho; exact absurd ho (by decide)))
        have hB3 : Below A0 w W3 := (hB.trans (qr.mono (by have := hB.size; omega))).trans (hrow3.below hgr (by have := hB.size; have := qr.size; omega))
        obtain ⟨g3, gc3, hv3, hg30, hg31, hg32, hg33⟩ := ho3.form (by simp)
        rw [show (Mk.pairsTo ss ps leaf k ++ [(u, p)]).length = k + 2 by simp [Mk.pairsTo_length]] at hv3
        subst hv3
        have e1 := hL4.cell
        have e2 := hL4.frozen
        have e3 := hP4.cell
        have e4 := hP4.frozen
        have e5 := hU4.cell
        have e6 := hU4.frozen
        have HR := hid (And.intro ho3 (And.intro hgr (And.intro hrow3 qr)))
        clear ho3 hgr hrow3 hL3 hP3 hU3 h13 h23 hg33 hg32 qr
        refine ⟨fun _ _ _ => ⟨fun _ => e1, fun _ => ⟨e3, n3, n4⟩⟩, ?_⟩
        try simp only [Act.put, List.setIfInBounds_toArray, List.set_cons_zero, List.set_cons_succ]
        refine wpAnyT_step 8 rfl (by kernel_rfl) (by rfl) ?_
        go_simp
        refine (join_any _ _ _).mono ?_
        rintro e w' ⟨rfl, rfl⟩
        refine ⟨fun _ _ _ => ⟨fun _ => e1, fun _ => ⟨e3, n3, n4⟩⟩, ?_⟩
        refine wpAnyT_step 11 rfl (by kernel_rfl) (by rfl) ?_
        go_simp
        have f3 := (boxOther hP4 A4 (by omega) (.slice (some ⟨g3, 0, none⟩) (k + 2) gc3))
        have f5 := (boxOther hU4 A4 (by omega) (.slice (some ⟨g3, 0, none⟩) (k + 2) gc3))
        have f4 := boxOther f3 A5 (by omega) (.int .u64 (I (Dg.join (B u) (B p))))
        have y1 := f3.cell
        have y3 := f5.cell
        have y4 := f5.frozen
        have y5 := f4.cell
        have y6 := f4.frozen
        have z0 : ∀ (B : Nat) (v : Value), B ≠ W.heap.size → (W3.setCell ⟨B, 0, none⟩ v).cell? ⟨W.heap.size, 0, none⟩ = some (.int .u64 u) ∧ (W3.setCell ⟨B, 0, none⟩ v).cell? ⟨W.heap.size, 1, none⟩ = some (.int .u64 p) := fun B v hne => ⟨(World.cell?_setCell_far _ _ _ _ hne).trans n3, (World.cell?_setCell_far _ _ _ _ hne).trans n4⟩
        refine ⟨fun t _ hl => ⟨fun e => by subst e; exact Bool.noConfusion (show true = false from hl), fun _ => ⟨y1, (z0 A4 _ (by omega)).1, (z0 A4 _ (by omega)).2⟩⟩, ?_⟩
        refine wpAnyT_step 12 rfl (by kernel_rfl) (by rfl) ?_
        go_simp
        refine ⟨fun t _ hl => ⟨fun e => by subst e; exact Bool.noConfusion (show true = false from hl), fun _ => ⟨y5, (World.cell?_setCell_far _ _ _ _ (fun e => absurd (show A5 = W.heap.size from e) (by omega))).trans (z0 A4 _ (by omega)).1, (World.cell?_setCell_far _ _ _ _ (fun e => absurd (show A5 = W.heap.size from e) (by omega))).trans (z0 A4 _ (by omega)).2⟩⟩, ?_⟩
        refine wpAnyT_step 13 rfl (by kernel_rfl) (by rfl) ?_
        go_simp
        refine ⟨Held.none (by kernel_rfl), wpAnyT_done (by kernel_rfl) ?_⟩
        gi_wp2
        obtain ⟨ho3, hgr, hrow3, qr⟩ := HR.out
        obtain ⟨s1, s2, s3, s4, s5⟩ := HD.out
        have r4 := ho3.grown (grownBy_setCell' W3 A4 (.slice (some ⟨g3, 0, none⟩) (k + 2) gc3)) (.inl (ho3.boxed hL4 (by decide)))
        have r5 := r4.grown (grownBy_setCell' _ A5 (.int .u64 (I (Dg.join (B u) (B p))))) (.inl (r4.boxed f5 (by decide)))
        have r6 := r5.grown (grownBy_setCell' _ A0 (.slice (some ad) (len - 1) (cap' - 1))) (.inl (r5.boxed f4 (by decide)))
        have hpa : Mk.pairAt ss ps leaf k = (u, p) := by
          unfold Mk.pairAt
          rw [s4, s5, show ss.getD k false = true by simp [List.getD, hx]]
          rfl
        refine ⟨((hKo.trans (KeepsOthers.setCell _ _ _)).trans (KeepsOthers.setCell _ _ _)).trans (KeepsOthers.setCell _ _ _), ((hKb.trans (KpB.box hL4 (by decide) _)).trans (KpB.box f5 (by decide) _)).trans (KpB.box f4 (by decide) _), by omega, _, _, f4.set _, ?_, boxOther (boxOther (hL4.set _) A5 (by omega) _) A0 (by omega) _, ?_, ?_, boxOther (boxOther (boxOther h14 A4 (by omega) _) A5 (by omega) _) A0 (by omega) _, boxOther (boxOther (boxOther h24 A4 (by omega) _) A5 (by omega) _) A0 (by omega) _, ?_⟩
        · rw [s3] at s1
          have := s1.tail (by omega)
          rw [had.out, List.drop_drop] at this
          exact this
        · rw [Mk.pairsTo_succ, hpa]; exact r6
        · rw [Mk.upAt_succ, hpa]; exact boxOther (f5.set _) A0 (by omega) _
        · exact ((hB3.setCell (p := ⟨A4, 0, none⟩) (by show A0 ≤ A4; omega) _).setCell (p := ⟨A5, 0, none⟩) (by show A0 ≤ A5; omega) _).setCell (p := ⟨A0, 0, none⟩) (by show A0 ≤ A0; omega) _

  case done =>
    rintro D W hD ⟨hk, pv, lv, hP, hSl, hL, hrow, hU, h1, h2, hB⟩ hK
    clear hsides HS
    gi_wp2
    refine wpIn_wide.2 (wp_region_noPanic (wp_region_any (by kernel_rfl) ?_))
    obtain ⟨g, gc, hv, hg0, hg1, hg2, hg3⟩ := hrow.form (by rw [Mk.pairsTo_length]; omega)
    rw [Mk.pairsTo_length] at hv
    subst hv
    obtain ⟨pa, cap', hv, q1, q2, q3, _⟩ := hSl
    have hdl : (ps.drop ss.length).length = ps.length - ss.length := by rw [List.length_drop]
    obtain ⟨len, hlen⟩ : ∃ len, (ps.drop ss.length).length = len := ⟨_, rfl⟩
    rw [hlen] at hv hdl
    subst hv
    obtain ⟨u, hu⟩ : ∃ u, Mk.upAt ss ps leaf ss.length = u := ⟨_, rfl⟩
    rw [hu] at hU
    have HU := hid hu
    have HDL := hid hdl
    have HLE := hid hlen
    have HKL := hid hk
    obtain ⟨c, hc⟩ : ∃ c : Bool, ((len : Int) == 0) = c := ⟨_, rfl⟩
    have HC := hid hc
    have hwn : IntKind.u64.wrap (n : Int) = (n : Int) := by rw [IntKind.wrap_u64]; omega
    have c1 := hL.cell
    have c2 := hU.cell
    have c3 := hP.cell
    clear hu hdl hlen q1 q2 q3
    refine wpAny_of_T (keys := [11]) (R := fun _ w' => w'.cell? ⟨A4, 0, none⟩ = some (.slice (some ⟨g, 0, none⟩) (ss.length + 1) gc) ∧ w'.cell? ⟨A5, 0, none⟩ = some (.int .u64 u) ∧ w'.cell? ⟨A0, 0, none⟩ = some (.slice pa len cap')) _ _ _ _ ?_
    have hHeld0 : Held [11] (fun (_ : Nat) (w' : World) => w'.cell? ⟨A4, 0, none⟩ = some (.slice (some ⟨g, 0, none⟩) (ss.length + 1) gc) ∧ w'.cell? ⟨A5, 0, none⟩ = some (.int .u64 u) ∧ w'.cell? ⟨A0, 0, none⟩ = some (.slice pa len cap')) (Array.replicate 12 false) W.drew := fun _ _ _ => ⟨c1, c2, c3⟩
    refine wpAnyT_take 0 (some 48) (.slice (some ⟨g, 0, none⟩) (ss.length + 1) gc) rfl rfl (by kernel_rfl) (by kernel_rfl) (by kernel_rfl) (by kernel_rfl) (by kernel_rfl) (fun _ _ _ h => h) (by assumption) (by rfl) (by intro w' hh; obtain ⟨k1, k2, k3⟩ := hh 11 (by simp) (by kernel_rfl); go_simp) (fun hHeld => ?_)
    simp only [Act.put, List.setIfInBounds_toArray, List.set_cons_zero, List.set_cons_succ]
    refine wpAnyT_take 1 (some 49) (.int .i64 n) rfl rfl (by kernel_rfl) (by kernel_rfl) (by kernel_rfl) (by kernel_rfl) (by kernel_rfl) (fun _ _ _ h => h) (by assumption) (by rfl) (by intro w' hh; obtain ⟨k1, k2, k3⟩ := hh 11 (by simp) (by kernel_rfl); go_simp) (fun hHeld => ?_)
    simp only [Act.put, List.setIfInBounds_toArray, List.set_cons_zero, List.set_cons_succ]
    refine wpAnyT_take 2 (some 50) (.int .u64 n) rfl rfl (by kernel_rfl) (by kernel_rfl) (by kernel_rfl) (by kernel_rfl) (by kernel_rfl) (fun _ _ _ h => h) (by assumption) (by rfl) (by intro w' hh; obtain ⟨k1, k2, k3⟩ := hh 11 (by simp) (by kernel_rfl); go_simp) (fun hHeld => ?_)
    simp only [Act.put, List.setIfInBounds_toArray, List.set_cons_zero, List.set_cons_succ]
    refine wpAnyT_take 3 (some 51) (.int .u64 u) rfl rfl (by kernel_rfl) (by kernel_rfl) (by kernel_rfl) (by kernel_rfl) (by kernel_rfl) (fun _ _ _ h => h) (by assumption) (by rfl) (by intro w' hh; obtain ⟨k1, k2, k3⟩ := hh 11 (by simp) (by kernel_rfl); go_simp) (fun hHeld => ?_)
    simp only [Act.put, List.setIfInBounds_toArray, List.set_cons_zero, List.set_cons_succ]
    refine wpAnyT_take 4 (some 52) (.agg #[.int .u64 n, .int .u64 u]) rfl rfl (by kernel_rfl) (by kernel_rfl) (by kernel_rfl) (by kernel_rfl) (by kernel_rfl) (fun _ _ _ h => h) (by assumption) (by rfl) (by intro w' hh; obtain ⟨k1, k2, k3⟩ := hh 11 (by simp) (by kernel_rfl); go_simp) (fun hHeld => ?_)
    simp only [Act.put, List.setIfInBounds_toArray, List.set_cons_zero, List.set_cons_succ]
    refine wpAnyT_take 7 (some 55) (.slice pa len cap') rfl rfl (by kernel_rfl) (by kernel_rfl) (by kernel_rfl) (by kernel_rfl) (by kernel_rfl) (fun _ _ _ h => h) (by assumption) (by rfl) (by intro w' hh; obtain ⟨k1, k2, k3⟩ := hh 11 (by simp) (by kernel_rfl); go_simp) (fun hHeld => ?_)
    simp only [Act.put, List.setIfInBounds_toArray, List.set_cons_zero, List.set_cons_succ]
    refine wpAnyT_take 8 (some 56) (.int .i64 len) rfl rfl (by kernel_rfl) (by kernel_rfl) (by kernel_rfl) (by kernel_rfl) (by kernel_rfl) (fun _ _ _ h => h) (by assumption) (by rfl) (by intro w' hh; obtain ⟨k1, k2, k3⟩ := hh 11 (by simp) (by kernel_rfl); go_simp) (fun hHeld => ?_)
    simp only [Act.put, List.setIfInBounds_toArray, List.set_cons_zero, List.set_cons_succ]
    refine wpAnyT_take 9 (some 57) (.bool c) rfl rfl (by kernel_rfl) (by kernel_rfl) (by kernel_rfl) (by kernel_rfl) (by kernel_rfl) (fun _ _ _ h => h) (by assumption) (by rfl) (by intro w' hh; obtain ⟨k1, k2, k3⟩ := hh 11 (by simp) (by kernel_rfl); go_simp) (fun hHeld => ?_)
    simp only [Act.put, List.setIfInBounds_toArray, List.set_cons_zero, List.set_cons_succ]
    refine wpAnyT_step 5 rfl (by kernel_rfl) (by rfl) ?_
    go_simp
    refine ⟨fun _ _ _ => ⟨by go_simp, by go_simp, by go_simp⟩, ?_⟩
    refine wpAnyT_step 6 rfl (by kernel_rfl) (by rfl) ?_
    have qr : Below W.heap.size W (W.alloc (.cells #[.int .u64 n, .int .u64 u] 123)).drew := seqB (aB W _) (dB _)
    have hrow3 := hrow.kept qr
    have h13 := Boxed.of_below h1 qr
    have h23 := Boxed.of_below h2 qr
    have hL3 := Boxed.of_below hL qr
    have hP3 := Boxed.of_below hP qr
    have hU3 := Boxed.of_below hU qr
    refine wp_appendP (.tmp 48) (.tmp 53) rfl A0 (Mk.pairsTo ss ps leaf ss.length) n u (.slice (some ⟨g, 0, none⟩) (ss.length + 1) gc) W.heap.size 1 rfl rfl hrow3 (by constructor <;> go_simp) (by rw [Mk.pairsTo_length]; omega) (by have := hB.size; have := qr.size; omega) ?_
    intro v3 W3 ho3 hgr
    have h14 := h13.kept hgr (hrow3.boxed h13 (by decide))
    have h24 := h23.kept hgr (hrow3.boxed h23 (by decide))
    have hL4 := hL3.kept hgr (hrow3.boxed hL3 (by decide))
    have hP4 := hP3.kept hgr (hrow3.boxed hP3 (by decide))
    have hU4 := hU3.kept hgr (hrow3.boxed hU3 (by decide))
    have hB3 : Below A0 w W3 := (hB.trans (qr.mono (by have := hB.size; omega))).trans (hrow3.below hgr (by have := hB.size; have := qr.size; omega))
    have hKo : KeepsOthers W W3 := (KeepsOthers.of_below qr).trans (KeepsOthers.of_grownBy hgr (fun j o' hj ho => by obtain ⟨_, cur, hc⟩ := hrow3.row hj; rw [hc] at ho; cases ho; rfl))
    obtain ⟨g3, gc3, hv3, hg30, hg31, hg32, hg33⟩ := ho3.form (by simp)
    rw [show (Mk.pairsTo ss ps leaf ss.length ++ [((n : Int), u)]).length = ss.length + 2 by simp [Mk.pairsTo_length]] at hv3
    subst hv3
    have e1 := h14.cell
    have e2 := h14.frozen
    have e3 := h24.cell
    have e4 := h24.frozen
    have k1 := hL4.cell
    have k2 := hU4.cell
    have k3 := hP4.cell
    have f2 := boxOther h24 A1 (by omega) (.slice (some ⟨g3, 0, none⟩) (ss.length + 2) gc3)
    have y1 := f2.cell
    have y2 := f2.frozen
    have HR := hid ho3
    clear ho3 hgr hrow3 hL3 hP3 hU3 h13 h23 hg33 hg32 qr
    refine ⟨fun _ _ _ => ⟨k1, k2, k3⟩, ?_⟩
    simp only [Act.put, List.setIfInBounds_toArray, List.set_cons_zero, List.set_cons_succ]
    refine wpAnyT_step 10 rfl (by kernel_rfl) (by rfl) ?_
    go_simp
    refine ⟨fun _ _ _ => ⟨Boxed.cell (boxOther hL4 A1 (by omega) _), Boxed.cell (boxOther hU4 A1 (by omega) _), Boxed.cell (boxOther hP4 A1 (by omega) _)⟩, ?_⟩
    refine wpAnyT_step 11 rfl (by kernel_rfl) (by rfl) ?_
    go_simp
    refine ⟨Held.none (by kernel_rfl), wpAnyT_done (by kernel_rfl) (NoPanic.normal ?_)⟩
    gi_wp2
    have hK' := ((hKo.trans (KeepsOthers.setCell _ ⟨A1, 0, none⟩ (.slice (some ⟨g3, 0, none⟩) (ss.length + 2) gc3))).trans (KeepsOthers.setCell _ ⟨A2, 0, none⟩ (.bool c))).same D _ hK rfl
    refine ⟨by simp, .inl ⟨_, _, rfl, run_takeDeferred hK', ?_⟩⟩
    have r1 := ((boxOther (h14.set (.slice (some ⟨g3, 0, none⟩) (ss.length + 2) gc3)) A2 (by omega) (.bool c)).kept (grownBy_putObj' _ D (.deferred none)) (by intro e; injection e with e; omega)).cell
    have r2 := ((f2.set (.bool c)).kept (grownBy_putObj' _ D (.deferred none)) (by intro e; injection e with e; omega)).cell
    refine ⟨.tuple #[.slice (some ⟨g3, 0, none⟩) (ss.length + 2) gc3, .bool c], ?_, .slice (some ⟨g3, 0, none⟩) (ss.length + 2) gc3, ?_, ?_, ?_⟩
    · simp [results, Try.f62, go_sem, r1, r2]
    · have hcd : c = decide (ps.length = (Mk.steps n i).length) := by
        rw [← HC.out, HSS.out, Bool.eq_iff_iff, beq_iff_eq, decide_eq_true_iff]
        have := HDL.out
        have := HKL.out
        omega
      rw [hcd]
    · intro _
      have r4 := HR.out.grown (grownBy_setCell' W3 A1 (.slice (some ⟨g3, 0, none⟩) (ss.length + 2) gc3)) (.inl (HR.out.boxed h14 (by decide)))
      have r5 := r4.grown (grownBy_setCell' _ A2 (.bool c)) (.inl (r4.boxed f2 (by decide)))
      have r6 := r5.grown (grownBy_putObj' _ D (.deferred none)) (.inl (r5.other hK' rfl))
      unfold Mk.pairs
      rw [HSS.out, HU.out, e0]
      exact r6
    · rw [e0]
      exact belowPutObj ((hB3.setCell (p := ⟨A1, 0, none⟩) (by show A0 ≤ A1; omega) _).setCell (p := ⟨A2, 0, none⟩) (by show A0 ≤ A2; omega) _) (by omega)
  case stop =>
    rintro D c W hD ⟨rfl, hlt, h1, h2, hB⟩ hK
    clear hsides HS
    gi_wp2
    refine ⟨by simp, .inl ⟨_, _, rfl, run_takeDeferred hK, ?_⟩⟩
    have r1 := (h1.kept (grownBy_putObj' _ D (.deferred none)) (by intro e; injection e with e; omega)).cell
    have r2 := (h2.kept (grownBy_putObj' _ D (.deferred none)) (by intro e; injection e with e; omega)).cell
    refine ⟨.tuple #[.slice none 0 0, .bool false], ?_, .slice none 0 0, ?_, ?_, ?_⟩
    · simp [results, Try.f62, go_sem, r1, r2]
    · rw [HSS.out, decide_eq_false (by omega)]
    · intro h
      rw [HSS.out] at h
      omega
    · rw [e0]; exact belowPutObj hB (by omega)
end Go.Proofs.Ytmfccaidgaelcaa.Old
