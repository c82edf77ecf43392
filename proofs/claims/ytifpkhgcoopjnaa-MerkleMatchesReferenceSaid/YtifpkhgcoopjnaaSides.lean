/- What the iterator of the sides hands out. Conditions: a place of a list of at most 4096. -/
import Derived.Test.YtifpkhgcoopjnaaRows
import Derived.Test.YtifpkhgcoopjnaaSidesPure
import Derived.Test.YtifpkhgcoopjnaaRange
import Derived.Test.YtifpkhgcoopjnaaMerkleWalk
import Derived.RangeFuncBox
import Derived.Maps.AppendAt
namespace Go.Proofs.Ytifpkhgcoopjnaa
open Go.RowKit Go.Shelf

attribute [local go_sem] Oper.semAt_some

theorem infoBool : (Try.prog.info? 4).map (fun i => (i.zero, i.size, i.bytes)) = some (some (.bool false), 1, 1) := by kernel_rfl

/-- Rows of bools lie as they lay. -/
def KpB (W W' : World) : Prop := ∀ (g : Nat) (cur : Array Value) (fr : Nat × Nat), W.heap[g]? = some (.cells cur 4 fr) → W'.heap[g]? = some (.cells cur 4 fr)
theorem KpB.trans {A C D : World} (h : KpB A C) (k : KpB C D) : KpB A D := fun g cur fr e => k g cur fr (h g cur fr e)
theorem KpB.putObj (W : World) (l : Nat) (o o' : Obj) (h : W.heap[l]? = some o) (ho : o.isCells = false) : KpB W (W.putObj l o') := fun g cur fr e => by
  have : g ≠ l := by rintro rfl; rw [h] at e; cases e; cases ho
  exact (World.putObj_heap_other this).trans e

/-- The number in a box, for a measure. -/
def boxNat (W : World) (B : Nat) : Nat := match W.cell? ⟨B, 0, none⟩ with | some (.int _ q) => q.toNat | _ => 0
theorem boxNat_of {W : World} {B t : Nat} {k : IntKind} {q : Int} (h : Boxed W B t (.int k q)) : boxNat W B = q.toNat := by unfold boxNat; rw [h.cell]

theorem rowBase {w : World} {base n size : Nat} {e : TypeId} {v : Value} {xs : List Value} (h : w.ownsRow base e size v n xs) : ∀ r, v.ownBlock = some r → base ≤ r := by
  intro r hr
  rcases h.2 with ⟨rfl, _⟩ | ⟨g, cap, cur, rfl, hb, _⟩
  · simp [Value.ownBlock] at hr
  · simp [Value.ownBlock] at hr; omega
theorem boxOther {W : World} {B t : Nat} {v : Value} (h : Boxed W B t v) (b : Nat) (hb : b ≠ B) (u : Value) : Boxed (W.setCell ⟨b, 0, none⟩ u) B t v := h.kept (grownBy_setCell' W b u) (by simpa using fun e => hb e.symm)
theorem rowKept {w w' : World} {base n size : Nat} {e : TypeId} {v : Value} {xs : List Value} (h : w.ownsRow base e size v n xs) {row : Option Nat} (hg : w.grownBy w' row) (hr : ∀ r, row = some r → r < base) : w'.ownsRow base e size v n xs := by
  refine ⟨h.1, ?_⟩
  rcases h.2 with h2 | ⟨g, cap, cur, rfl, hb, hgg, rest⟩
  · exact .inl h2
  · exact .inr ⟨g, cap, cur, rfl, hb, (hg.block g (Array.getElem?_eq_some_iff.1 hgg).1 (fun e => by have := hr g e.symm; omega)).trans hgg, rest⟩

set_option maxRecDepth 100000 in
set_option maxHeartbeats 1000000 in
theorem sides_list (n i : Nat) (hn : n ≤ 4096) (hi : i < n) (w : World) (Bn Bi : Nat) (hne : Bn ≠ Bi) (h1 : Boxed w Bn 3 (.int .i64 n)) (h2 : Boxed w Bi 3 (.int .i64 i)) (m : Nat) :
    SeqList Fence.wide m Try.prog 60 #[.pointer (some ⟨Bn, 0, none⟩), .pointer (some ⟨Bi, 0, none⟩)] (fun b : Bool => #[.bool b]) KpB (fun r => r = Bn ∨ r = Bi) (Mk.steps n i) w := by
  intro l J Jx W hbW hJ0 hY
  have b1 : Boxed W Bn 3 (.int .i64 n) := h1.kept (row := none) ⟨hbW.os, hbW.tape, hbW.output, hbW.size, fun k hk _ => hbW.block k hk⟩ (by simp)
  have b2 : Boxed W Bi 3 (.int .i64 i) := h2.kept (row := none) ⟨hbW.os, hbW.tape, hbW.output, hbW.size, fun k hk _ => hbW.block k hk⟩ (by simp)
  have HJ0 := hid hJ0
  have HY := hid hY
  clear hJ0 hY h1 h2 hbW
  obtain ⟨i0, hi0, hz0, hz1, hz2⟩ := info_parts infoBool
  refine callsIn_of_wp Try.func60 rfl trivial ?_ rfl
  simp only [Try.ntmps60, List.size_toArray, List.length_cons, List.length_nil, Nat.reduceAdd, Nat.reduceSub, Array.replicate_succ, Array.replicate_zero, List.push_toArray, List.append_toArray, List.nil_append, List.cons_append]
  gi_wp2
  gi_loopw [4] (fun v wr => ∃ (n' i' : Nat) (done : List Bool), Boxed wr Bn 3 (.int .i64 n') ∧ Boxed wr Bi 3 (.int .i64 i') ∧ i' < n' ∧ done.length + n' ≤ n ∧ Hid (Mk.sides n i = done ++ Mk.sides n' i') ∧ wr.ownsRow W.heap.size 4 1 v done.length (done.map Value.bool) ∧ StepB (fun r => r = Bn ∨ r = Bi) W wr)
    (fun _ wr => boxNat wr Bn)
  case atStart => exact ⟨n, i, [], b1, b2, hi, by simp, rfl, World.ownsRow_nil _ _ _ _, StepB.refl _ _⟩
  case round =>
    obtain ⟨n', i', done, c1, c2, hin, hdn, hsd, hrow, hst⟩ := hrel
    have cc1 := c1.cell
    have cf1 := c1.frozen
    have cc2 := c2.cell
    have cf2 := c2.frozen
    obtain ⟨wo, rfl⟩ : ∃ wo : World, wo = wr := ⟨_, rfl⟩
    have hin0 : 0 < n' := by omega
    by_cases h2 : 2 ≤ n'
    · have hh := Mk.half_lt h2
      have hp := Mk.half_pos n'
      gi_wp2
      gi_loopw [5] (fun k wq => ∃ k' e : Nat, k = .int .i64 k' ∧ Hid (k' = 2 ^ e) ∧ k' < n' ∧ 0 < k' ∧ wo = wq) (fun k _ => n' - (intOf k).toNat)
      case atStart => exact ⟨1, 0, rfl, rfl, by omega, by omega, rfl⟩
      case round =>
        obtain ⟨k, e, rfl, he, hk, hk0, rfl⟩ := hrel
        by_cases hlt : 2 * k < n'
        · gi_wp2
          refine ⟨⟨2 * k, e + 1, by simp; omega, ?_, hlt, by omega, by trivial⟩, by simp [intOf]; omega⟩
          show _ = _
          rw [he.out, Nat.pow_succ, Nat.mul_comm]
        · have hhalf := Mk.half_unique he.out hk (by omega)
          have HH := hid hhalf
          clear hhalf
          by_cases hik : i' < k
          · have d1 : decide ((i' : Int) < (k : Int)) = true := by simp; omega
            gi_wp2_with (gi_at_builtin; go_must (refine wpListIn_append_own _ rfl (.tmp 15) (.tmp 19) 79 rfl W.heap.size 4 i0 (.bool false) 1 1 Try.underlying79 hi0 hz0 hz1 hz2 rfl (by decide) _ done.length _ rfl (hrow.alloc _) ⟨wo.heap.size, 0, none⟩ 1 1 [.bool true] rfl rfl (cell_one_new _ _ _) (by simp [Value.oneCell']) (by unfold maxLen; omega) (by omega) (by have := hst.size; simp; omega) ?_); apply Hid.out)
            refine hid ?_
            intro v1 w1 hown1 hgr1 _
            have hBn : Bn < W.heap.size := b1.lt
            have hBi : Bi < W.heap.size := b2.lt
            have hrb := rowBase (hrow.alloc (.cells #[.bool true] 4))
            have e1 : Boxed w1 Bn 3 (.int .i64 n') := (c1.alloc _).kept hgr1 (fun e => by have := hrb Bn e.symm; omega)
            have e2 : Boxed w1 Bi 3 (.int .i64 i') := (c2.alloc _).kept hgr1 (fun e => by have := hrb Bi e.symm; omega)
            have hst1 : StepB (fun r => r = Bn ∨ r = Bi) W w1 := (hst.trans (StepB.of_below (aB wo _))).grown hgr1 hrb
            have f1 := e1.cell
            have f2 := e1.frozen
            have f3 := e2.cell
            have f4 := e2.frozen
            clear hgr1 hrb cc1 cf1 cc2 cf2
            gi_wp2
            have hs := Mk.sides_left h2 (show i' < Mk.half n' by rw [← HH.out]; exact hik)
            refine ⟨⟨k, i', done ++ [true], e1.set _, boxOther e2 _ hne _, hik, by rw [List.length_append, List.length_singleton]; omega, ?_, ?_, hst1.setCell _ (.inl (.inl rfl)) _⟩, ?_⟩
            · show _ = _
              rw [hsd.out, hs, List.append_assoc, HH.out]; rfl
            · rw [List.length_append, List.map_append]
              exact rowKept hown1 (grownBy_setCell' _ _ _) (fun r e => by cases e; exact hBn)
            · rw [boxNat_of (e1.set _), boxNat_of c1]; simp; omega
          · have d1 : decide ((i' : Int) < (k : Int)) = false := by simp; omega
            gi_wp2_with (gi_at_builtin; go_must (refine wpListIn_append_own _ rfl (.tmp 15) (.tmp 19) 79 rfl W.heap.size 4 i0 (.bool false) 1 1 Try.underlying79 hi0 hz0 hz1 hz2 rfl (by decide) _ done.length _ rfl (hrow.alloc _) ⟨wo.heap.size, 0, none⟩ 1 1 [.bool false] rfl rfl (cell_one_new _ _ _) (by simp [Value.oneCell']) (by unfold maxLen; omega) (by omega) (by have := hst.size; simp; omega) ?_); apply Hid.out)
            refine hid ?_
            intro v1 w1 hown1 hgr1 _
            have hBn : Bn < W.heap.size := b1.lt
            have hBi : Bi < W.heap.size := b2.lt
            have hrb := rowBase (hrow.alloc (.cells #[.bool false] 4))
            have e1 : Boxed w1 Bn 3 (.int .i64 n') := (c1.alloc _).kept hgr1 (fun e => by have := hrb Bn e.symm; omega)
            have e2 : Boxed w1 Bi 3 (.int .i64 i') := (c2.alloc _).kept hgr1 (fun e => by have := hrb Bi e.symm; omega)
            have hst1 : StepB (fun r => r = Bn ∨ r = Bi) W w1 := (hst.trans (StepB.of_below (aB wo _))).grown hgr1 hrb
            have f1 := e1.cell
            have f2 := e1.frozen
            have f3 := e2.cell
            have f4 := e2.frozen
            have g1 : ((n' : Int) - (k : Int)) = ((n' - k : Nat) : Int) := by omega
            have g2 : ((i' : Int) - (k : Int)) = ((i' - k : Nat) : Int) := by omega
            have g3 : IntKind.i64.wrap ((n' : Int) - (k : Int)) = (n' : Int) - (k : Int) := IntWalk.i64_in _ (by omega)
            have g4 : IntKind.i64.wrap ((i' : Int) - (k : Int)) = (i' : Int) - (k : Int) := IntWalk.i64_in _ (by omega)
            have hne' : ¬ Bn = Bi := hne
            have hne'' : ¬ Bi = Bn := fun h => hne h.symm
            clear hgr1 hrb cc1 cf1 cc2 cf2
            gi_wp2
            gi_region
            gi_wp2
            have hs := Mk.sides_right h2 (show Mk.half n' ≤ i' by rw [← HH.out]; omega)
            have e3 := boxOther (e1.set (.int .i64 ((n' - k : Nat) : Int))) Bi (fun h => hne h.symm) (.int .i64 ((i' - k : Nat) : Int))
            have e4 := (boxOther e2 Bn hne (.int .i64 ((n' - k : Nat) : Int))).set (.int .i64 ((i' - k : Nat) : Int))
            have hst2 := (hst1.setCell ⟨Bn, 0, none⟩ (.inl (.inl rfl)) (.int .i64 ((n' - k : Nat) : Int))).setCell ⟨Bi, 0, none⟩ (.inl (.inr rfl)) (.int .i64 ((i' - k : Nat) : Int))
            have hrow2 := rowKept (rowKept hown1 (grownBy_setCell' _ Bn (.int .i64 ((n' - k : Nat) : Int))) (fun r e => by injection e with e; omega)) (grownBy_setCell' _ Bi (.int .i64 ((i' - k : Nat) : Int))) (fun r e => by injection e with e; omega)
            refine ⟨⟨n' - k, i' - k, done ++ [false], e3, e4, by omega, by rw [List.length_append, List.length_singleton]; omega, ?_, ?_, ?_⟩, ?_⟩
            · show _ = _
              rw [hsd.out, hs, List.append_assoc, HH.out]; rfl
            · rw [List.length_append, List.map_append]
              exact hrow2
            · exact hst2.trans (StepB.of_below (dB _))
            · rw [boxNat_of c1]
              have : boxNat ((w1.setCell ⟨Bn, 0, none⟩ (.int .i64 ((n' - k : Nat) : Int))).setCell ⟨Bi, 0, none⟩ (.int .i64 ((i' - k : Nat) : Int))).drew Bn = (((n' - k : Nat) : Int)).toNat := boxNat_of e3
              rw [this]; omega
    · have h1n : n' = 1 := by omega
      have hdone : Mk.sides n i = done := by rw [hsd.out, Mk.sides_one n' i' (by omega), List.append_nil]
      have HD := hid hdone
      have hl1 : ¬ ((1 : Int) < (n' : Int)) := by omega
      have hJ := HJ0.out wo hst
      clear hdone h1n hin hi0 hz0 hz1 hz2 HJ0 b1 b2 hst c2 cc2 cf2 cf1 c1 hsd
      rcases hrow with ⟨hdl, ⟨rfl, h0⟩ | ⟨g, cap, cur, rfl, hb, hg, hnc, hmax, hcs, htk⟩⟩
      · obtain rfl : done = [] := List.eq_nil_of_length_eq_zero h0
        gi_wp2
        refine wpIn_loop_rounds 1 ?_
        rw [roundsIn_succ]
        gi_wp2
        go_end0
        refine ⟨⟨_, rfl⟩, .inl ?_⟩
        have : (Mk.steps n i).length = 0 := by unfold Mk.steps; rw [HD.out]; rfl
        rw [this]; exact hJ
      · have hg' : ∀ k, k < done.length → cur[k]? = some (.bool (done.getD k false)) := fun k hk => by
          have h1 : (done.map Value.bool)[k]? = cur[k]? := by rw [← htk, List.getElem?_take_of_lt (by omega)]; simp
          rw [← h1]; simp [List.getD, hk]
        have HG := hid hg'
        have HGG := hid hg
        have hdn' : done.length ≤ 4096 := by omega
        clear hg' hg htk hcs hmax
        gi_wp2
        gi_loopw [6] (fun x wq => ∃ t : Nat, t ≤ done.length ∧ x = .int .i64 ((done.length : Int) - 1 - t) ∧ J t wq ∧ Hid (wq.heap[g]? = some (.cells cur 4 (0, 0)))) (fun x _ => (intOf x + 1).toNat)
        case atStart => exact ⟨0, by omega, by simp, hJ, HGG⟩
        case round =>
          obtain ⟨t, ht, rfl, hJt, hgt⟩ := hrel
          by_cases hlt : t < done.length
          · obtain ⟨u, hu⟩ : ∃ u : Nat, done.length - 1 - t = u := ⟨_, rfl⟩
            have huI : (done.length : Int) - 1 - (t : Int) = (u : Int) := by omega
            have hul : u < done.length := by omega
            have hst : (Mk.steps n i)[t]? = some (done.getD u false) := by
              unfold Mk.steps
              rw [HD.out, List.getElem?_reverse hlt, hu]
              simp [List.getD, hul]
            have hc : wr.cell? ⟨g, u, none⟩ = some (.bool (done.getD u false)) := by rw [show wr.cell? ⟨g, u, none⟩ = cur[u]? by simp [World.cell?, hgt.out]]; exact HG.out u hul
            obtain ⟨c, hcc⟩ : ∃ c, done.getD u false = c := ⟨_, rfl⟩
            rw [hcc] at hc hst
            obtain ⟨fn, tmps, assign, body, hy, hR⟩ := HY.out t c wr hst hJt
            clear hcc hst
            gi_wp2
            refine ⟨fun h => by simp [Fence.wide] at h, hR.mono ?_⟩
            rintro e W3 (⟨rfl, hJ3, hk3⟩ | ⟨rfl, hJx3⟩)
            · have hg3 := hk3 g cur (0, 0) hgt.out
              gi_wp2
              exact ⟨⟨t + 1, by omega, by congr 1; omega, hJ3, hg3⟩, by simp [intOf]; omega⟩
            · gi_wp2
              refine bodyPost_ret (results_none rfl _ _ _) rfl ?_
              exact ⟨⟨_, rfl⟩, .inr hJx3⟩
          · obtain rfl : t = done.length := by omega
            gi_wp2
            go_end0
            refine ⟨⟨_, rfl⟩, .inl ?_⟩
            have : (Mk.steps n i).length = done.length := by unfold Mk.steps; rw [HD.out, List.length_reverse]
            rw [this]; exact hJt
end Go.Proofs.Ytifpkhgcoopjnaa
