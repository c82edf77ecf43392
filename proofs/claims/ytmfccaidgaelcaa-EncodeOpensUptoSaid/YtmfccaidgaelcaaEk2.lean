/- The sides of a place, handed out one by one. No conditions. -/
import Derived.Test.YtmfccaidgaelcaaEk1
import Derived.LoopIn
import Derived.LoopNIn
import Derived.Maps.AppendAt
import Derived.OrdersHeld
import Derived.OrdersIn
import Derived.OwnWalkIn
import Derived.RangeFuncBound
import Derived.RangeFuncBox
import Derived.RangeFuncCalls
import Derived.RangeFuncLeaves
import Derived.RangeFuncNested
import Derived.Shelf.Abstract
import Derived.StillTail
import Derived.TacticsIn
import Derived.TacticsInMore
set_option linter.unusedVariables false
set_option linter.unusedSimpArgs false
namespace Go.Proofs.Ytmfccaidgaelcaa.Old
open Go.RowKit
open Go.Proofs.Ytmfccaidgaelcaa.Mk (I B)

/-- What the iterator may do ahead of the first round: new blocks, and turns of the blocks bs. -/
structure StepB (bs : Nat → Prop) (W W' : World) : Prop where
  os : W'.os = W.os
  tape : W'.tape = W.tape
  output : W'.output = W.output
  size : W.heap.size ≤ W'.heap.size
  block : ∀ k, k < W.heap.size → ¬ bs k → W'.heap[k]? = W.heap[k]?

theorem StepB.refl (bs : Nat → Prop) (W : World) : StepB bs W W := ⟨rfl, rfl, rfl, Nat.le_refl _, fun _ _ _ => rfl⟩
theorem StepB.trans {bs : Nat → Prop} {A C D : World} (h : StepB bs A C) (k : StepB bs C D) : StepB bs A D :=
  ⟨k.os.trans h.os, k.tape.trans h.tape, k.output.trans h.output, Nat.le_trans h.size k.size, fun i hi hn => (k.block i (Nat.lt_of_lt_of_le hi h.size) hn).trans (h.block i hi hn)⟩
theorem StepB.of_below {bs : Nat → Prop} {A C : World} (h : Below A.heap.size A C) : StepB bs A C := ⟨h.os, h.tape, h.output, h.size, fun k hk _ => h.block k hk⟩
theorem StepB.setCell {bs : Nat → Prop} {A C : World} (h : StepB bs A C) (p : Addr) (hp : bs p.block ∨ A.heap.size ≤ p.block) (u : Value) : StepB bs A (C.setCell p u) :=
  ⟨h.os, h.tape, h.output, by simpa [World.setCell] using h.size, fun k hk hn => (Below.heap_setCell _ _ _ _ (by rintro rfl; rcases hp with hp | hp; exact hn hp; omega)).trans (h.block k hk hn)⟩
theorem StepB.grown {bs : Nat → Prop} {A C D : World} {row : Option Nat} (h : StepB bs A C) (hg : C.grownBy D row) (hr : ∀ k, row = some k → A.heap.size ≤ k) : StepB bs A D :=
  ⟨hg.os.trans h.os, hg.tape.trans h.tape, hg.output.trans h.output, Nat.le_trans h.size hg.size, fun k hk hn => (hg.block k (Nat.lt_of_lt_of_le hk h.size) (fun e => by have := hr k e.symm; omega)).trans (h.block k hk hn)⟩

/-- How the body of a round may be left. -/
def postL (Kp : World → World → Prop) (I : Nat → World → Prop) (Ix : Code → World → Prop) (k : Nat) (W : World) : Exit → Act → World → Prop
  | .normal, _, W' => KeepsOthers W W' ∧ Kp W W' ∧ I (k + 1) W'
  | .ret, _, W' => KeepsOthers W W' ∧ Ix .ret W'
  | .exit id, _, W' => KeepsOthers W W' ∧ Ix (.exit id) W'
  | .goto t, _, W' => KeepsOthers W W' ∧ Ix (.goto t) W'
  | .panic _, _, _ => False
  | .outgrown, _, _ => False

/-- What an iterator that hands out xs does, whatever the caller knows of the worlds between the rounds. -/
def SeqList {α : Type} (F : Fence) (n : Nat) (P : Program) (g : Nat) (lb : Array Value) (encs : α → Array Value) (Kp : World → World → Prop) (bs : Nat → Prop) (xs : List α) (w : World) : Prop :=
  ∀ (l : Nat) (J : Nat → World → Prop) (Jx : World → Prop) (W : World), Below w.heap.size w W → (∀ W', StepB bs W W' → J 0 W') →
    (∀ k x W1, xs[k]? = some x → J k W1 → YieldAt F (n - 1) P l (encs x) W1 fun e W' => (e = .returned (.bool true) ∧ J (k + 1) W' ∧ Kp W1 W') ∨ (e = .returned (.bool false) ∧ Jx W')) →
    CallsIn F n P g (#[.func (.yield l) #[] #[]] ++ lb) W fun e W' => (∃ v, e = .returned v) ∧ (J xs.length W' ∨ Jx W')

theorem wpIn_range_list {F : Fence} {n : Nat} {P : Program} {α : Type} {g : Operand} {ps : Array Tmp} {assign body : Code} {Q : Exit → Act → World → Prop} {a : Act} {w : World}
    (hro : F.round = none) (h1 : 1 ≤ n) {gf : Nat} {lb : Array Value} (hg : a.eval g = .func (.func gf) #[] lb) (hFg : F.fn gf) (eg : ∀ args w, (callFunc gf args).run P w = .ok (.enter gf args) w)
    {encs : α → Array Value} {Kp : World → World → Prop} {bs : Nat → Prop} {xs : List α} (hseq : SeqList F (n - 1) P gf lb encs Kp bs xs w)
    (hKt : ∀ {A B C : World}, Kp A B → Kp B C → Kp A C) (hKb : ∀ (W : World) (l : Nat) (o o' : Obj), W.heap[l]? = some o → o.isCells = false → Kp W (W.putObj l o'))
    (hbs : ∀ r, bs r → r < w.heap.size) (hps : ∀ x, (encs x).size = ps.size)
    (I : Nat → World → Prop) (Ix : Code → World → Prop)
    (hI : ∀ k (W : World) (l : Nat) (o o' : Obj), w.heap.size ≤ l → W.heap[l]? = some o → o.isCells = false → I k W → I k (W.putObj l o'))
    (hIx : ∀ c (W : World) (l : Nat) (o o' : Obj), w.heap.size ≤ l → W.heap[l]? = some o → o.isCells = false → Ix c W → Ix c (W.putObj l o'))
    (h0 : ∀ W', StepB bs w W' → I 0 W') (a₁ : α → Act)
    (hassign : ∀ (l : Nat) (x : α) (W : World) (K : Act → World → Prop), K (a₁ x) W →
      assign.wpIn (F.inRound l) (n - 1 - 1) P (Exit.then K (fun _ _ _ => False)) { tmps := (ps.zip (encs x)).foldl (fun t (p, v) => t.setIfInBounds p v) a.tmps, defers := [] } W)
    (hbody : ∀ (l : Nat) (k : Nat) (x : α) (W : World), xs[k]? = some x → I k W → body.wpIn (F.inRound l) (n - 1 - 1) P (postL Kp I Ix k W) (a₁ x) W)
    (hdone : ∀ (D : Nat) (W : World), w.heap.size ≤ D → I xs.length W → W.heap[D]? = some (.deferred (some [])) → Q .normal { a with defers := { target := .collected D, args := #[] } :: a.defers } W)
    (hstop : ∀ (D : Nat) (c : Code) (W : World), w.heap.size ≤ D → Ix c W → W.heap[D]? = some (.deferred (some [])) → c.wpIn F n P Q { a with defers := { target := .collected D, args := #[] } :: a.defers } W) :
    (Code.rangeFunc g ps assign body).wpIn F n P Q a w := by
  refine wpIn_rangeFunc fun fn hfn => ?_
  rw [hro]
  -- the loop's record, and the world in which the iterator begins
  let rec0 : LoopState → Option Code → Loop := fun st pe => { state := st, pending := pe, fn := fn, tmps := a.tmps, params := ps, assign := assign, body := body, defers := w.heap.size }
  let R := w.heap.size + 1
  generalize hW1 : (w.alloc (.deferred (some []))).alloc (.loop (rec0 .ready none)) = W1
  have hsz1 : W1.heap.size = w.heap.size + 2 := by rw [← hW1]; simp
  have hL1 : W1.heap[R]? = some (.loop (rec0 .ready none)) := by
    rw [← hW1]; have := World.alloc_heap_new (w.alloc (.deferred (some []))) (.loop (rec0 .ready none)); rwa [World.size_alloc] at this
  have hD1 : W1.heap[w.heap.size]? = some (.deferred (some [])) := by
    rw [← hW1]; exact (Below.heap_alloc _ _ _ (by simp)).trans (World.alloc_heap_new w _)
  have hb1 : Below w.heap.size w W1 := by
    rw [← hW1]; exact seqB (aB w _) (aB _ _)
  refine ⟨R, [{ target := .collected w.heap.size, args := #[] }], W1, { target := .fn (.func gf) lb, args := #[.func (.yield R) #[] #[]] }, W1, gf,
    #[.func (.yield R) #[] #[]] ++ lb, W1, ?_, ?_, ?_, ?_, fun _ => h1, ?_⟩
  · rw [← hW1]; exact run_enterLoop_outer _ _ _ _ _
  · simp only [resolve, hg]
    simp [go_sem]
  · intro f' hf'; simp [Target.leads] at hf'; subst hf'; exact hFg
  · simp [invoke, go_sem, eg]
  -- the caller's facts with the record's beside them
  refine (hseq R (fun k W => I k W ∧ W.heap[R]? = some (.loop (rec0 .ready none)) ∧ W.heap[w.heap.size]? = some (.deferred (some [])))
    (fun W => ∃ c, Ix c W ∧ W.heap[R]? = some (.loop (rec0 .done (some c))) ∧ W.heap[w.heap.size]? = some (.deferred (some []))) W1 hb1 ?_ ?_).mono ?_
  · intro W' hst
    refine ⟨h0 W' ((StepB.of_below hb1).trans hst), ?_, ?_⟩
    · rw [hst.block R (by rw [hsz1]; show w.heap.size + 1 < _; omega) (fun h => by have := hbs _ h; have : R = w.heap.size + 1 := rfl; omega)]; exact hL1
    · rw [hst.block w.heap.size (by rw [hsz1]; omega) (fun h => by have := hbs _ h; omega)]; exact hD1
  · rintro k x W hx ⟨hi, hl, hk⟩
    have hlt : R < W.heap.size := (Array.getElem?_eq_some_iff.1 hl).1
    have hRw : w.heap.size ≤ R := Nat.le_succ _
    have hRne : w.heap.size ≠ R := Nat.ne_of_lt (Nat.lt_succ_self _)
    have hy := run_yield (P := P) (args := encs x) hl (hps x)
    refine ⟨fn, _, assign, body, hy, roundIn_of_wpIn hfn (hassign _ x W _ ⟨_, run_beginRound hl rfl, ?_⟩)⟩
    have hl2 : (W.putObj R (.loop { rec0 .ready none with state := .busy })).heap[R]? = some (.loop { rec0 .ready none with state := .busy }) := World.putObj_heap_same hlt
    have hk2 : (W.putObj R (.loop { rec0 .ready none with state := .busy })).heap[w.heap.size]? = some (.deferred (some [])) := (World.putObj_heap_other hRne).trans hk
    have hw2 : Kp W (W.putObj R (.loop { rec0 .ready none with state := .busy })) := hKb _ _ _ _ hl rfl
    refine wpIn_mono (hbody _ k x _ hx (hI _ _ _ _ _ hRw hl rfl hi)) ?_
    have fin : ∀ (jump : Option Code) (W3 : World), KeepsOthers (W.putObj R (.loop { rec0 .ready none with state := .busy })) W3 →
        (Instr.endRound R jump).run P W3 = .ok (.bool jump.isNone) (W3.putObj R (.loop (rec0 (if jump.isNone then .ready else .done) jump))) ∧
        W3.heap[R]? = some (.loop { rec0 .ready none with state := .busy }) ∧
        (W3.putObj R (.loop (rec0 (if jump.isNone then .ready else .done) jump))).heap[R]? = some (.loop (rec0 (if jump.isNone then .ready else .done) jump)) ∧
        (W3.putObj R (.loop (rec0 (if jump.isNone then .ready else .done) jump))).heap[w.heap.size]? = some (.deferred (some [])) := fun jump W3 hk3 => by
      have hl3 := hk3.same _ _ hl2 rfl
      exact ⟨run_endRound (P := P) jump hl3, hl3, World.putObj_heap_same (Array.getElem?_eq_some_iff.1 hl3).1, (World.putObj_heap_other hRne).trans (hk3.same _ _ hk2 rfl)⟩
    rintro e a3 W3 hp
    cases e with
    | normal =>
      obtain ⟨hk3, hkp3, hi3⟩ := hp
      obtain ⟨hr, hl3, hl4, hk4⟩ := fin none W3 hk3
      exact ⟨_, _, hr, .inl ⟨rfl, ⟨hI _ _ _ _ _ hRw hl3 rfl hi3, hl4, hk4⟩, hKt (hKt hw2 hkp3) (hKb _ _ _ _ hl3 rfl)⟩⟩
    | ret =>
      obtain ⟨hk3, hi3⟩ := hp
      obtain ⟨hr, hl3, hl4, hk4⟩ := fin (some .ret) W3 hk3
      exact ⟨_, _, hr, .inr ⟨rfl, .ret, hIx _ _ _ _ _ hRw hl3 rfl hi3, hl4, hk4⟩⟩
    | exit id =>
      obtain ⟨hk3, hi3⟩ := hp
      obtain ⟨hr, hl3, hl4, hk4⟩ := fin (some (.exit id)) W3 hk3
      exact ⟨_, _, hr, .inr ⟨rfl, .exit id, hIx _ _ _ _ _ hRw hl3 rfl hi3, hl4, hk4⟩⟩
    | goto t =>
      obtain ⟨hk3, hi3⟩ := hp
      obtain ⟨hr, hl3, hl4, hk4⟩ := fin (some (.goto t)) W3 hk3
      exact ⟨_, _, hr, .inr ⟨rfl, .goto t, hIx _ _ _ _ _ hRw hl3 rfl hi3, hl4, hk4⟩⟩
    | panic ch => exact hp.elim
    | outgrown => exact hp.elim
  · have hRw : w.heap.size ≤ R := Nat.le_succ _
    have hRne : w.heap.size ≠ R := Nat.ne_of_lt (Nat.lt_succ_self _)
    rintro e W2 ⟨⟨v, rfl⟩, (⟨hi, hl, hk⟩ | ⟨c, hi, hl, hk⟩)⟩
    · exact ⟨none, _, run_endLoop (P := P) hl (by simp [rec0]), hdone _ _ (Nat.le_refl _) (hI _ _ _ _ _ hRw hl rfl hi) ((World.putObj_heap_other hRne).trans hk)⟩
    · exact ⟨some c, _, run_endLoop (P := P) hl (by simp [rec0]), hstop _ c _ (Nat.le_refl _) (hIx _ _ _ _ _ hRw hl rfl hi) ((World.putObj_heap_other hRne).trans hk)⟩

end Go.Proofs.Ytmfccaidgaelcaa.Old
namespace Go.Proofs.Ytmfccaidgaelcaa.Old
open Go.RowKit Go.Shelf
open Go.Proofs.Ytmfccaidgaelcaa.Mk (I B)

attribute [local go_sem] Oper.semAt_some

theorem infoBool : (Try.prog.info? 4).map (fun i => (i.zero, i.size, i.bytes)) = some (some (.bool false), 1, 1) := by kernel_rfl

/-- Rows of bools lie as they lay. -/
def KpB (W W' : World) : Prop := ∀ (g : Nat) (cur : Array Value) (fr : Nat × Nat), W.heap[g]? = some (.cells cur 4 fr) → W'.heap[g]? = some (.cells cur 4 fr)
theorem KpB.trans {A C D : World} (h : KpB A C) (k : KpB C D) : KpB A D := fun g cur fr e => k g cur fr (h g cur fr e)
theorem KpB.putObj (W : World) (l : Nat) (o o' : Obj) (h : W.heap[l]? = some o) (ho : o.isCells = false) : KpB W (W.putObj l o') := fun g cur fr e => by
  have : g ≠ l := by rintro rfl; rw [h] at e; cases e; cases ho
  exact (World.putObj_heap_other this).trans e

/-- The number in a box, for a measure. -/
def boxNat (W : World) (B : Nat) : Nat := match W.cell? ⟨B, 0, none⟩ with | some (.int _ q) => q.toNat | _ => 0
theorem boxNat_of {W : World} {B t : Nat} {k : IntKind} {q : Int} (h : Boxed W B t (.int k q)) : boxNat W B = q.toNat := by unfold boxNat; rw [h.cell]

theorem rowBase {w : World} {base n size : Nat} {e : TypeId} {v : Value} {xs : List Value} (h : w.ownsRow base e size v n xs) : ∀ r, v.ownBlock = some r → base ≤ r := by
  intro r hr
  rcases h.2 with ⟨rfl, _⟩ | ⟨g, cap, cur, rfl, hb, _⟩
  · simp [Value.ownBlock] at hr
  · simp [Value.ownBlock] at hr; omega
theorem boxOther {W : World} {B t : Nat} {v : Value} (h : Boxed W B t v) (b : Nat) (hb : b ≠ B) (u : Value) : Boxed (W.setCell ⟨b, 0, none⟩ u) B t v := h.kept (grownBy_setCell' W b u) (by simpa using fun e => hb e.symm)
theorem rowKept {w w' : World} {base n size : Nat} {e : TypeId} {v : Value} {xs : List Value} (h : w.ownsRow base e size v n xs) {row : Option Nat} (hg : w.grownBy w' row) (hr : ∀ r, row = some r → r < base) : w'.ownsRow base e size v n xs := by
  refine ⟨h.1, ?_⟩
  rcases h.2 with h2 | ⟨g, cap, cur, rfl, hb, hgg, rest⟩
  · exact .inl h2
  · exact .inr ⟨g, cap, cur, rfl, hb, (hg.block g (Array.getElem?_eq_some_iff.1 hgg).1 (fun e => by have := hr g e.symm; omega)).trans hgg, rest⟩

set_option maxRecDepth 100000 in
set_option maxHeartbeats 1000000 in
theorem sides_list (n i : Nat) (hn : n ≤ 4096) (hi : i < n) (w : World) (Bn Bi : Nat) (hne : Bn ≠ Bi) (h1 : Boxed w Bn 3 (.int .i64 n)) (h2 : Boxed w Bi 3 (.int .i64 i)) (m : Nat) :
    SeqList Fence.wide m Try.prog 124 #[.pointer (some ⟨Bn, 0, none⟩), .pointer (some ⟨Bi, 0, none⟩)] (fun b : Bool => #[.bool b]) KpB (fun r => r = Bn ∨ r = Bi) (Mk.steps n i) w := by
  intro l J Jx W hbW hJ0 hY
  have b1 : Boxed W Bn 3 (.int .i64 n) := h1.kept (row := none) ⟨hbW.os, hbW.tape, hbW.output, hbW.size, fun k hk _ => hbW.block k hk⟩ (by simp)
  have b2 : Boxed W Bi 3 (.int .i64 i) := h2.kept (row := none) ⟨hbW.os, hbW.tape, hbW.output, hbW.size, fun k hk _ => hbW.block k hk⟩ (by simp)
  have HJ0 := hid hJ0
  have HY := hid hY
  clear hJ0 hY h1 h2 hbW
  obtain ⟨i0, hi0, hz0, hz1, hz2⟩ := info_parts infoBool
  refine callsIn_of_wp Try.func124 rfl trivial ?_ rfl
  simp only [Try.ntmps124, List.size_toArray, List.length_cons, List.length_nil, Nat.reduceAdd, Nat.reduceSub, Array.replicate_succ, Array.replicate_zero, List.push_toArray, List.append_toArray, List.nil_append, List.cons_append]
  gi_wp2
  gi_loopw [4] (fun v wr => ∃ (n' i' : Nat) (done : List Bool), Boxed wr Bn 3 (.int .i64 n') ∧ Boxed wr Bi 3 (.int .i64 i') ∧ i' < n' ∧ done.length + n' ≤ n ∧ Hid (Mk.sides n i = done ++ Mk.sides n' i') ∧ wr.ownsRow W.heap.size 4 1 v done.length (done.map Value.bool) ∧ StepB (fun r => r = Bn ∨ r = Bi) W wr)
    (fun _ wr => boxNat wr Bn)
  case atStart => exact ⟨n, i, [], b1, b2, hi, by simp, rfl, World.ownsRow_nil _ _ _ _, StepB.refl _ _⟩
  case round =>
    obtain ⟨n', i', done, c1, c2, hin, hdn, hsd, hrow, hst⟩ := hrel
    have cc1 := c1.cell
    have cf1 := c1.frozen
    have cc2 := c2.cell
    have cf2 := c2.frozen
    obtain ⟨wo, rfl⟩ : ∃ wo : World, wo = wr := ⟨_, rfl⟩
    have hin0 : 0 < n' := by omega
    by_cases h2 : 2 ≤ n'
    · have hh := Mk.half_lt h2
      have hp := Mk.half_pos n'
      gi_wp2
      gi_loopw [5] (fun k wq => ∃ k' e : Nat, k = .int .i64 k' ∧ Hid (k' = 2 ^ e) ∧ k' < n' ∧ 0 < k' ∧ wo = wq) (fun k _ => n' - (intOf k).toNat)
      case atStart => exact ⟨1, 0, rfl, rfl, by omega, by omega, rfl⟩
      case round =>
        obtain ⟨k, e, rfl, he, hk, hk0, rfl⟩ := hrel
        by_cases hlt : 2 * k < n'
        · gi_wp2
          refine ⟨⟨2 * k, e + 1, by simp; omega, ?_, hlt, by omega, by trivial⟩, by simp [intOf]; omega⟩
          show _ = _
          rw [he.out, Nat.pow_succ, Nat.mul_comm]
        · have hhalf := Mk.half_unique he.out hk (by omega)
          have HH := hid hhalf
          clear hhalf
          by_cases hik : i' < k
          · have d1 : decide ((i' : Int) < (k : Int)) = true := by simp; omega
            gi_wp2_with (gi_at_builtin; go_must (refine wpListIn_append_own _ rfl (.tmp 15) (.tmp 19) 192 rfl W.heap.size 4 i0 (.bool false) 1 1 Try.underlying192 hi0 hz0 hz1 hz2 rfl (by decide) _ done.length _ rfl (hrow.alloc _) ⟨wo.heap.size, 0, none⟩ 1 1 [.bool true] rfl rfl (cell_one_new _ _ _) (by simp [Value.oneCell']) (by unfold maxLen; omega) (by omega) (by have := hst.size; simp; omega) ?_); apply Hid.out)
            refine hid ?_
            intro v1 w1 hown1 hgr1 _
            have hBn : Bn < W.heap.size := b1.lt
            have hBi : Bi < W.heap.size := b2.lt
            have hrb := rowBase (hrow.alloc (.cells #[.bool true] 4))
            have e1 : Boxed w1 Bn 3 (.int .i64 n') := (c1.alloc _).kept hgr1 (fun e => by have := hrb Bn e.symm; omega)
            have e2 : Boxed w1 Bi 3 (.int .i64 i') := (c2.alloc _).kept hgr1 (fun e => by have := hrb Bi e.symm; omega)
            have hst1 : StepB (fun r => r = Bn ∨ r = Bi) W w1 := (hst.trans (StepB.of_below (aB wo _))).grown hgr1 hrb
            have f1 := e1.cell
            have f2 := e1.frozen
            have f3 := e2.cell
            have f4 := e2.frozen
            clear hgr1 hrb cc1 cf1 cc2 cf2
            gi_wp2
            have hs := Mk.sides_left h2 (show i' < Mk.half n' by rw [← HH.out]; exact hik)
            refine ⟨⟨k, i', done ++ [true], e1.set _, boxOther e2 _ hne _, hik, by rw [List.length_append, List.length_singleton]; omega, ?_, ?_, hst1.setCell _ (.inl (.inl rfl)) _⟩, ?_⟩
            · show _ = _
              rw [hsd.out, hs, List.append_assoc, HH.out]; rfl
            · rw [List.length_append, List.map_append]
              exact rowKept hown1 (grownBy_setCell' _ _ _) (fun r e => by cases e; exact hBn)
            · rw [boxNat_of (e1.set _), boxNat_of c1]; simp; omega
          · have d1 : decide ((i' : Int) < (k : Int)) = false := by simp; omega
            gi_wp2_with (gi_at_builtin; go_must (refine wpListIn_append_own _ rfl (.tmp 15) (.tmp 19) 192 rfl W.heap.size 4 i0 (.bool false) 1 1 Try.underlying192 hi0 hz0 hz1 hz2 rfl (by decide) _ done.length _ rfl (hrow.alloc _) ⟨wo.heap.size, 0, none⟩ 1 1 [.bool false] rfl rfl (cell_one_new _ _ _) (by simp [Value.oneCell']) (by unfold maxLen; omega) (by omega) (by have := hst.size; simp; omega) ?_); apply Hid.out)
            refine hid ?_
            intro v1 w1 hown1 hgr1 _
            have hBn : Bn < W.heap.size := b1.lt
            have hBi : Bi < W.heap.size := b2.lt
            have hrb := rowBase (hrow.alloc (.cells #[.bool false] 4))
            have e1 : Boxed w1 Bn 3 (.int .i64 n') := (c1.alloc _).kept hgr1 (fun e => by have := hrb Bn e.symm; omega)
            have e2 : Boxed w1 Bi 3 (.int .i64 i') := (c2.alloc _).kept hgr1 (fun e => by have := hrb Bi e.symm; omega)
            have hst1 : StepB (fun r => r = Bn ∨ r = Bi) W w1 := (hst.trans (StepB.of_below (aB wo _))).grown hgr1 hrb
            have f1 := e1.cell
            have f2 := e1.frozen
            have f3 := e2.cell
            have f4 := e2.frozen
            have g1 : ((n' : Int) - (k : Int)) = ((n' - k : Nat) : Int) := by omega
            have g2 : ((i' : Int) - (k : Int)) = ((i' - k : Nat) : Int) := by omega
            have g3 : IntKind.i64.wrap ((n' : Int) - (k : Int)) = (n' : Int) - (k : Int) := IntWalk.i64_in _ (by omega)
            have g4 : IntKind.i64.wrap ((i' : Int) - (k : Int)) = (i' : Int) - (k : Int) := IntWalk.i64_in _ (by omega)
            have hne' : ¬ Bn = Bi := hne
            have hne'' : ¬ Bi = Bn := fun h => hne h.symm
            clear hgr1 hrb cc1 cf1 cc2 cf2
            gi_wp2
            gi_region
            gi_wp2
            have hs := Mk.sides_right h2 (show Mk.half n' ≤ i' by rw [← HH.out]; omega)
            have e3 := boxOther (e1.set (.int .i64 ((n' - k : Nat) : Int))) Bi (fun h => hne h.symm) (.int .i64 ((i' - k : Nat) : Int))
            have e4 := (boxOther e2 Bn hne (.int .i64 ((n' - k : Nat) : Int))).set (.int .i64 ((i' - k : Nat) : Int))
            have hst2 := (hst1.setCell ⟨Bn, 0, none⟩ (.inl (.inl rfl)) (.int .i64 ((n' - k : Nat) : Int))).setCell ⟨Bi, 0, none⟩ (.inl (.inr rfl)) (.int .i64 ((i' - k : Nat) : Int))
            have hrow2 := rowKept (rowKept hown1 (grownBy_setCell' _ Bn (.int .i64 ((n' - k : Nat) : Int))) (fun r e => by injection e with e; omega)) (grownBy_setCell' _ Bi (.int .i64 ((i' - k : Nat) : Int))) (fun r e => by injection e with e; omega)
            refine ⟨⟨n' - k, i' - k, done ++ [false], e3, e4, by omega, by rw [List.length_append, List.length_singleton]; omega, ?_, ?_, ?_⟩, ?_⟩
            · show _ = _
              rw [hsd.out, hs, List.append_assoc, HH.out]; rfl
            · rw [List.length_append, List.map_append]
              exact hrow2
            · exact hst2.trans (StepB.of_below (dB _))
            · rw [boxNat_of c1]
              have : boxNat ((w1.setCell ⟨Bn, 0, none⟩ (.int .i64 ((n' - k : Nat) : Int))).setCell ⟨Bi, 0, none⟩ (.int .i64 ((i' - k : Nat) : Int))).drew Bn = (((n' - k : Nat) : Int)).toNat := boxNat_of e3
              rw [this]; omega
    · have h1n : n' = 1 := by omega
      have hdone : Mk.sides n i = done := by rw [hsd.out, Mk.sides_one n' i' (by omega), List.append_nil]
      have HD := hid hdone
      have hl1 : ¬ ((1 : Int) < (n' : Int)) := by omega
      have hJ := HJ0.out wo hst
      clear hdone h1n hin hi0 hz0 hz1 hz2 HJ0 b1 b2 hst c2 cc2 cf2 cf1 c1 hsd
      rcases hrow with ⟨hdl, ⟨rfl, h0⟩ | ⟨g, cap, cur, rfl, hb, hg, hnc, hmax, hcs, htk⟩⟩
      · obtain rfl : done = [] := List.eq_nil_of_length_eq_zero h0
        gi_wp2
        refine wpIn_loop_rounds 1 ?_
        rw [roundsIn_succ]
        gi_wp2
        go_end0
        refine ⟨⟨_, rfl⟩, .inl ?_⟩
        have : (Mk.steps n i).length = 0 := by unfold Mk.steps; rw [HD.out]; rfl
        rw [this]; exact hJ
      · have hg' : ∀ k, k < done.length → cur[k]? = some (.bool (done.getD k false)) := fun k hk => by
          have h1 : (done.map Value.bool)[k]? = cur[k]? := by rw [← htk, List.getElem?_take_of_lt (by omega)]; simp
          rw [← h1]; simp [List.getD, hk]
        have HG := hid hg'
        have HGG := hid hg
        have hdn' : done.length ≤ 4096 := by omega
        clear hg' hg htk hcs hmax
        gi_wp2
        gi_loopw [6] (fun x wq => ∃ t : Nat, t ≤ done.length ∧ x = .int .i64 ((done.length : Int) - 1 - t) ∧ J t wq ∧ Hid (wq.heap[g]? = some (.cells cur 4 (0, 0)))) (fun x _ => (intOf x + 1).toNat)
        case atStart => exact ⟨0, by omega, by simp, hJ, HGG⟩
        case round =>
          obtain ⟨t, ht, rfl, hJt, hgt⟩ := hrel
          by_cases hlt : t < done.length
          · obtain ⟨u, hu⟩ : ∃ u : Nat, done.length - 1 - t = u := ⟨_, rfl⟩
            have huI : (done.length : Int) - 1 - (t : Int) = (u : Int) := by omega
            have hul : u < done.length := by omega
            have hst : (Mk.steps n i)[t]? = some (done.getD u false) := by
              unfold Mk.steps
              rw [HD.out, List.getElem?_reverse hlt, hu]
              simp [List.getD, hul]
            have hc : wr.cell? ⟨g, u, none⟩ = some (.bool (done.getD u false)) := by rw [show wr.cell? ⟨g, u, none⟩ = cur[u]? by simp [World.cell?, hgt.out]]; exact HG.out u hul
            obtain ⟨c, hcc⟩ : ∃ c, done.getD u false = c := ⟨_, rfl⟩
            rw [hcc] at hc hst
            obtain ⟨fn, tmps, assign, body, hy, hR⟩ := HY.out t c wr hst hJt
            clear hcc hst
            gi_wp2
            refine ⟨fun h => by simp [Fence.wide] at h, hR.mono ?_⟩
            rintro e W3 (⟨rfl, hJ3, hk3⟩ | ⟨rfl, hJx3⟩)
            · have hg3 := hk3 g cur (0, 0) hgt.out
              gi_wp2
              exact ⟨⟨t + 1, by omega, by congr 1; omega, hJ3, hg3⟩, by simp [intOf]; omega⟩
            · gi_wp2
              refine bodyPost_ret (results_none rfl _ _ _) rfl ?_
              exact ⟨⟨_, rfl⟩, .inr hJx3⟩
          · obtain rfl : t = done.length := by omega
            gi_wp2
            go_end0
            refine ⟨⟨_, rfl⟩, .inl ?_⟩
            have : (Mk.steps n i).length = done.length := by unfold Mk.steps; rw [HD.out, List.length_reverse]
            rw [this]; exact hJt
end Go.Proofs.Ytmfccaidgaelcaa.Old
namespace Go.Proofs.Ytmfccaidgaelcaa.Old

theorem callsIn_round {l n : Nat} {P : Program} {f : FuncId} {args : Array Value} {w : World} {R : Ending → World → Prop} (h : Calls P f args w R) : CallsIn (Fence.wide.inRound l) n P f args w R :=
  (callsIn_wide (n := n)).2 h

theorem wpIn_of_wp_oper {l n : Nat} {P : Program} {o : Oper} {a : Act} {w : World} {K : Act → World → Prop} {Q : Exit → Act → World → Prop} (hd : ∀ c, o.op ≠ .defer c) (h : o.wp P a w K Q) : o.wpIn (Fence.wide.inRound l) n P a w K Q := by
  unfold Oper.wpIn
  refine ⟨fun _ _ => trivial, ?_⟩
  rw [Fence.inRound_round, Oper.semAt_some _ _ _ hd]
  unfold Oper.wp at h
  generalize (execOp a.eval o).run P w = r at *
  have hdep : (Fence.wide.inRound l).depth.isSome = true → 1 ≤ n := fun e => by simp [Fence.wide] at e
  cases r with
  | ok x w' =>
    cases x <;> first
      | exact h
      | exact ⟨hdep, callsIn_round h⟩
      | exact ⟨hdep, fun c cs _ => let ⟨v, w', r, s⟩ := h c cs; ⟨v, w', r, stepsIn_wide.2 s⟩⟩
      | exact h.elim
  | halt x w' => cases x <;> first | exact h | exact h.elim

theorem wpAnyIn_of_wpAny {l n : Nat} {P : Program} {md : Region.Mode} {ops : Array Oper} {Q : Exit → Act → World → Prop} (hd : ∀ (i : Nat) (o : Oper), ops[i]? = some o → ∀ c, o.op ≠ .defer c) (hq : ¬ LetsOut Q) :
    ∀ (fuel : Nat) (listed : Array Bool) (a : Act) (w : World), wpAny P md ops Q fuel listed a w → wpAnyIn (Fence.wide.inRound l) n P md ops Q fuel listed a w
  | 0, _, _, _, h => h
  | fuel + 1, listed, a, w, h => by
    refine ⟨h.1, fun i hi => ?_⟩
    have h2 := h.2 i hi
    unfold wpOp at h2
    unfold wpOpIn
    split at h2
    · rename_i e; rw [e]; exact wpAnyIn_of_wpAny hd hq fuel _ _ _ h2
    · rename_i o e
      rw [e]
      simp only []
      split
      · rename_i hw
        simp only [hw, if_true] at h2
        rcases h2 with h2 | ⟨_, h2⟩
        · exact Oper.wpIn_mono (fun a w => wpAnyIn_of_wpAny hd hq fuel _ a w) (wpIn_of_wp_oper (hd i o e) h2)
        · exact absurd h2 hq
      · rename_i hw
        simp only [hw] at h2
        exact ⟨fun _ _ => trivial, wpAnyIn_of_wpAny hd hq fuel _ _ _ h2⟩

def noDefers (ops : Array Oper) : Bool := ops.all fun o => match o.op with | .defer _ => false | _ => true
theorem noDefers.spec {ops : Array Oper} (h : noDefers ops = true) : ∀ (i : Nat) (o : Oper), ops[i]? = some o → ∀ c, o.op ≠ .defer c := by
  intro i o hi c e
  unfold noDefers at h
  rw [Array.all_eq_true] at h
  obtain ⟨hlt, rfl⟩ := Array.getElem?_eq_some_iff.1 hi
  have := h i hlt
  rw [e] at this
  cases this

theorem wpIn_region_wpAny {l n : Nat} {P : Program} {ops : Array Oper} {Q : Exit → Act → World → Prop} {id : Nat} {a : Act} {w : World} (hm : P.follows .mixedOrders = true) (hn : noDefers ops = true) (hq : ¬ LetsOut Q)
    (h : wpAny P .any ops Q ops.size (Array.replicate ops.size false) a w.drew) : (Code.region id ops true).wpIn (Fence.wide.inRound l) n P Q a w :=
  wpIn_region_any hm (wpAnyIn_of_wpAny (noDefers.spec hn) hq _ _ _ _ h)

/-! ### Loads taken first where what they read may be written behind them -/
section
variable {P : Program} {ops : Array Oper} {Q : Exit → Act → World → Prop} {md : Region.Mode} {R : Nat → World → Prop} {keys : List Nat}

/-- What is held of the world while operation t of the keys has not come up. -/
def Held (keys : List Nat) (R : Nat → World → Prop) (l : Array Bool) (w : World) : Prop := ∀ t, t ∈ keys → l.getD t false = false → R t w
/-- The part that operation i may use: of those that wait for it. -/
def HeldFor (md : Region.Mode) (ops : Array Oper) (keys : List Nat) (R : Nat → World → Prop) (i : Nat) (w : World) : Prop := ∀ t, t ∈ keys → Region.waitsFor md ops t i = true → R t w
/-- What has come up, with all that it waits for. -/
def Down (md : Region.Mode) (ops : Array Oper) (l : Array Bool) : Prop := ∀ (j : Nat) (oj : Oper), ops[j]? = some oj → l.getD j false = true → ∀ e ∈ oj.after, Region.binds md e = true → l.getD e.on false = true
def downB (md : Region.Mode) (ops : Array Oper) (l : Array Bool) : Bool := (List.range ops.size).all fun j => !l.getD j false || ((ops[j]?).map (·.after.all fun e => !Region.binds md e || l.getD e.on false)).getD false
theorem downB.spec {l : Array Bool} (h : downB md ops l = true) : Down md ops l := by
  intro j oj hj hl e he hb
  have hlt := (Array.getElem?_eq_some_iff.1 hj).1
  have h1 := List.all_eq_true.1 h j (List.mem_range.2 hlt)
  rw [hl, hj] at h1
  simp only [Bool.not_true, Bool.false_or, Option.map_some, Option.getD_some] at h1
  have h2 := Array.all_eq_true_iff_forall_mem.1 h1 e he
  rw [hb] at h2
  simpa using h2
theorem Held.for {l : Array Bool} {w : World} {i : Nat} (h : Held keys R l w) (hd : Down md ops l) (hi : l.getD i true = false) : HeldFor md ops keys R i w := by
  intro t ht hw
  refine h t ht ?_
  obtain ⟨oj, hj, e, he, hb, rfl⟩ := Region.waitsFor_spec hw
  cases hl : l.getD t false with
  | false => rfl
  | true =>
    have h1 := hd t oj hj hl e he hb
    exfalso
    rw [Array.getD_eq_getD_getElem?] at hi h1
    cases hx : l[e.on]? with
    | none => rw [hx] at hi; cases hi
    | some b => rw [hx] at hi h1; simp at hi h1; rw [hi] at h1; cases h1
theorem Held.put {l : Array Bool} {w : World} {i : Nat} (h : Held keys R l w) : Held keys R (l.setIfInBounds i true) w := by
  intro t ht hl
  refine h t ht ?_
  cases hx : l.getD t false with
  | false => rfl
  | true => rw [getD_set_true hx] at hl; cases hl
theorem Held.unput {l : Array Bool} {w : World} {i : Nat} (hi : i ∉ keys) (h : Held keys R (l.setIfInBounds i true) w) : Held keys R l w := by
  intro t ht hl
  refine h t ht ?_
  have hne : i ≠ t := by rintro rfl; exact hi ht
  rw [getD_set_ne false hne]
  exact hl

theorem Held.none {l : Array Bool} {w : World} (h : (keys.all fun t => l.getD t false) = true) : Held keys R l w := by
  intro t ht hl
  have := List.all_eq_true.1 h t ht
  rw [hl] at this
  cases this

def wpAnyT (P : Program) (md : Region.Mode) (ops : Array Oper) (Q : Exit → Act → World → Prop) (keys : List Nat) (R : Nat → World → Prop) : Nat → Array Bool → Act → World → Prop
  | 0, listed, a, w => Region.ready md ops listed = [] ∧ Q .normal a w
  | fuel + 1, listed, a, w =>
    (Region.ready md ops listed = [] → Q .normal a w) ∧
    ∀ i ∈ Region.ready md ops listed, wpOp P ops Q i (fun a' w' => Held keys R (listed.setIfInBounds i true) w' ∧ wpAnyT P md ops Q keys R fuel (listed.setIfInBounds i true) a' w') a w

theorem wpAny_of_T : ∀ (fuel : Nat) (listed : Array Bool) (a : Act) (w : World), wpAnyT P md ops Q keys R fuel listed a w → wpAny P md ops Q fuel listed a w
  | 0, _, _, _, h => h
  | fuel + 1, _, _, _, h => ⟨h.1, fun i hi => wpOp_mono (fun a' w' h' => wpAny_of_T fuel _ a' w' h'.2) (h.2 i hi)⟩

theorem Down.step {l : Array Bool} {j : Nat} (h : Down md ops l) (hj : j ∈ Region.ready md ops l) : Down md ops (l.setIfInBounds j true) := by
  intro k ok hk hl e he hb
  by_cases hjk : j = k
  · subst hjk
    obtain ⟨_, oj, hoj, hall⟩ := mem_ready.1 hj
    rw [hoj] at hk; cases hk
    exact getD_set_true (hall e he hb)
  · rw [getD_set_ne false hjk] at hl
    exact getD_set_true (h k ok hk hl e he hb)

theorem wpAnyT_first {i : Nat} {oi : Oper} {v : Value} (hi : ops[i]? = some oi) (hsel : ∀ (j : Nat) (o : Oper) cs b, ops[j]? = some o → o.op ≠ .select cs b)
    (hQ : ∀ c a w, Q (.panic c) (a.put oi.dst v) w → Q (.panic c) a w) (hk : i ∉ keys) :
    ∀ (fuel : Nat) (listed : Array Bool) (a : Act) (w : World),
      (∀ j oj, ops[j]? = some oj → j ≠ i → listed.getD j true = false → (∀ e ∈ oj.after, Region.binds md e = true → e.on ≠ i) → oi.apart ops oj = true) →
      Down md ops listed → i ∈ Region.ready md ops listed → YieldsIf P ops (HeldFor md ops keys R i) oi v a → Held keys R listed w →
      wpAnyT P md ops Q keys R fuel (listed.setIfInBounds i true) (a.put oi.dst v) w → wpAnyT P md ops Q keys R (fuel + 1) listed a w := by
  intro fuel
  induction fuel with
  | zero =>
    intro listed a w _ hD hr hy hS H
    refine ⟨fun h => (by rw [h] at hr; cases hr), fun j hj => ?_⟩
    by_cases hji : j = i
    · subst hji; exact hy.wpOp hi (hS.for hD (mem_ready.1 hr).1) ⟨hS.put, H⟩
    · have := ready_mono hj hji
      rw [H.1] at this
      cases this
  | succ fuel ih =>
    intro listed a w hfree hD hr hy hS H
    refine ⟨fun h => (by rw [h] at hr; cases hr), fun j hj => ?_⟩
    by_cases hji : j = i
    · subst hji; exact hy.wpOp hi (hS.for hD (mem_ready.1 hr).1) ⟨hS.put, H⟩
    · have h1 := H.2 j (ready_mono hj hji)
      obtain ⟨hjun, oj, hoj, hall⟩ := mem_ready.1 hj
      have hnot : ∀ e ∈ oj.after, Region.binds md e = true → e.on ≠ i := fun e he hb heq => by
        have h1 := hall e he hb
        have h0 := (mem_ready.1 hr).1
        rw [heq] at h1
        rcases Nat.lt_or_ge i listed.size with h' | h'
        · simp [h'] at h0 h1; rw [h0] at h1; cases h1
        · simp [Array.getElem?_eq_none h'] at h1
      have h2 := wpOp_putIf hoj (hfree j oj hoj hji hjun hnot) (fun cs b => hsel i oi cs b hi) (fun cs b => hsel j oj cs b hoj) hQ hy h1
      have hfree' : ∀ k ok, ops[k]? = some ok → k ≠ i → (listed.setIfInBounds j true).getD k true = false →
          (∀ e ∈ ok.after, Region.binds md e = true → e.on ≠ i) → oi.apart ops ok = true := fun k ok hk hki hun hno => by
        refine hfree k ok hk hki ?_ hno
        by_cases hjk : j = k
        · subst hjk; exact hjun
        · rw [getD_set_ne true hjk] at hun; exact hun
      refine wpOp_mono (fun a' w' h3 => ?_) h2
      have h4 : Held keys R (listed.setIfInBounds j true) w' := by
        have := h3.2.1
        rw [Array.setIfInBounds_comm _ _ (Ne.symm hji)] at this
        exact this.unput hk
      refine ⟨h4, ih (listed.setIfInBounds j true) a' w' hfree' (hD.step hj) (ready_mono hr (Ne.symm hji)) h3.1 h4 ?_⟩
      rw [Array.setIfInBounds_comm _ _ hji]
      exact h3.2.2

/-- Take number i first. -/
theorem wpAnyT_take (i : Nat) (d : Option Tmp) (v : Value) {oi : Oper} {fuel : Nat} {listed : Array Bool} {a : Act} {w : World} (hi : ops[i]? = some oi) (hdd : oi.dst = d)
    (hs : Region.noSelect ops = true) (hf : Region.free md ops listed i = true) (hr : (Region.ready md ops listed).contains i = true) (hd : downB md ops listed = true) (hk : keys.contains i = false)
    (hQ : ∀ c a w, Q (.panic c) (a.put oi.dst v) w → Q (.panic c) a w) (hS : Held keys R listed w) (hw : Region.wanted oi (yielded ops a.tmps) = true)
    (hy : ∀ w, HeldFor md ops keys R i w → (execOp a.eval oi).run P w = .ok (.value v) w)
    (h : Held keys R (listed.setIfInBounds i true) w → wpAnyT P md ops Q keys R fuel (listed.setIfInBounds i true) (a.put d v) w) : wpAnyT P md ops Q keys R (fuel + 1) listed a w := by
  subst hdd
  exact wpAnyT_first hi (Region.noSelect_spec hs) hQ (by simpa using hk) fuel listed a w (Region.free_spec hi hf) (downB.spec hd) (by simpa using hr) (Or.inl ⟨hw, hy⟩) hS (h hS.put)

/-- The one operation that may come up. -/
theorem wpAnyT_step (i : Nat) {oi : Oper} {fuel : Nat} {listed : Array Bool} {a : Act} {w : World} (hi : ops[i]? = some oi) (hr : Region.ready md ops listed = [i]) (hw : Region.wanted oi (yielded ops a.tmps) = true)
    (h : oi.wp P a w (fun a' w' => Held keys R (listed.setIfInBounds i true) w' ∧ wpAnyT P md ops Q keys R fuel (listed.setIfInBounds i true) a' w') Q) : wpAnyT P md ops Q keys R (fuel + 1) listed a w := by
  refine ⟨fun h0 => (by rw [h0] at hr; cases hr), fun j hj => ?_⟩
  rw [hr] at hj
  obtain rfl : j = i := by simpa using hj
  unfold wpOp
  simp only [hi, hw, if_true]
  exact .inl h

theorem wpAnyT_done {fuel : Nat} {listed : Array Bool} {a : Act} {w : World} (hr : Region.ready md ops listed = []) (h : Q .normal a w) : wpAnyT P md ops Q keys R fuel listed a w := by
  cases fuel with
  | zero => exact ⟨hr, h⟩
  | succ fuel => exact ⟨fun _ => h, by rw [hr]; simp⟩
end
end Go.Proofs.Ytmfccaidgaelcaa.Old
namespace Go.Proofs.Ytmfccaidgaelcaa.Old
open Go.RowKit
open Go.Proofs.Ytmfccaidgaelcaa.Mk (I B)

def prCells (p : Int × Int) : List Value := [.int .u64 p.1, .int .u64 p.2]
def prRow (l : List (Int × Int)) : List Value := l.flatMap prCells
theorem prRow_length (l : List (Int × Int)) : (prRow l).length = l.length * 2 := by
  induction l with
  | nil => rfl
  | cons p l ih => simp only [prRow, List.flatMap_cons, List.length_append, List.length_cons] at ih ⊢; rw [ih]; simp [prCells]; omega
theorem prRow_append (l r : List (Int × Int)) : prRow (l ++ r) = prRow l ++ prRow r := by simp [prRow]
theorem prRow_get : ∀ (l : List (Int × Int)) (i : Nat), i < l.length → (prRow l)[2 * i]? = some (.int .u64 (l.getD i (0, 0)).1) ∧ (prRow l)[2 * i + 1]? = some (.int .u64 (l.getD i (0, 0)).2)
  | [], i, h => by simp at h
  | p :: l, 0, _ => by simp [prRow, prCells]
  | p :: l, i + 1, h => by
    have := prRow_get l i (by simpa using h)
    have e : prRow (p :: l) = .int .u64 p.1 :: .int .u64 p.2 :: prRow l := by simp [prRow, prCells]
    rw [e, show 2 * (i + 1) = (2 * i + 1) + 1 by omega, List.getElem?_cons_succ, List.getElem?_cons_succ]
    rw [show 2 * i + 1 + 1 + 1 = (2 * i + 1) + 1 + 1 by omega, List.getElem?_cons_succ, List.getElem?_cons_succ]
    simpa using this

theorem infoPr : (Try.prog.info? 123).map (fun i => (i.zero, i.size, i.bytes)) = some (some (.agg #[.int .u64 0, .int .u64 0]), 2, 16) := by kernel_rfl

/-- v is a row of the call's own (from block base on) of the pairs l. -/
def OwnP (base : Nat) (w : World) (v : Value) (l : List (Int × Int)) : Prop := w.ownsRow base 123 2 v l.length (prRow l)

theorem OwnP.kept {base : Nat} {w w' : World} {v : Value} {l : List (Int × Int)} (h : OwnP base w v l) (hb : Below w.heap.size w w') : OwnP base w' v l := by
  obtain ⟨h1, h2⟩ := h
  refine ⟨h1, ?_⟩
  rcases h2 with h2 | ⟨g, cap, cur, rfl, hbg, hg, hn, hm, hc, ht⟩
  · exact .inl h2
  · exact .inr ⟨g, cap, cur, rfl, hbg, by rw [hb.block g (Array.getElem?_eq_some_iff.1 hg).1]; exact hg, hn, hm, hc, ht⟩
theorem OwnP.grown {base : Nat} {w w' : World} {v : Value} {l : List (Int × Int)} {row : Option Nat} (h : OwnP base w v l) (hg : w.grownBy w' row) (hr : row ≠ v.ownBlock ∨ row = none) : OwnP base w' v l := by
  obtain ⟨h1, h2⟩ := h
  refine ⟨h1, ?_⟩
  rcases h2 with h2 | ⟨g, cap, cur, rfl, hbg, hgg, rest⟩
  · exact .inl h2
  · exact .inr ⟨g, cap, cur, rfl, hbg, (hg.block g (Array.getElem?_eq_some_iff.1 hgg).1 (fun e => by
      subst e
      rcases hr with hr | hr
      · exact hr rfl
      · cases hr)).trans hgg, rest⟩
theorem OwnP.form {base : Nat} {w : World} {v : Value} {l : List (Int × Int)} (h : OwnP base w v l) (hp : 0 < l.length) : ∃ g cap, v = .slice (some ⟨g, 0, none⟩) l.length cap ∧ base ≤ g ∧ g < w.heap.size ∧ l.length ≤ cap ∧ cap ≤ maxLen := by
  obtain ⟨h1, h2⟩ := h
  rcases h2 with ⟨rfl, h0⟩ | ⟨g, cap, cur, rfl, hb, hg, hn, hm, hc, ht⟩
  · omega
  · exact ⟨g, cap, rfl, hb, (Array.getElem?_eq_some_iff.1 hg).1, hn, hm⟩
theorem OwnP.cells {base : Nat} {w : World} {g n cap : Nat} {l : List (Int × Int)} (h : OwnP base w (.slice (some ⟨g, 0, none⟩) n cap) l) (i : Nat) (hi : i < l.length) :
    w.cell? ⟨g, 2 * i, none⟩ = some (.int .u64 (l.getD i (0, 0)).1) ∧ w.cell? ⟨g, 2 * i + 1, none⟩ = some (.int .u64 (l.getD i (0, 0)).2) := by
  obtain ⟨h1, h2⟩ := h
  rcases h2 with ⟨hv, h0⟩ | ⟨g', cap', cur, hv, hb, hg, hn, hm, hc, ht⟩
  · omega
  · simp only [Value.slice.injEq, Option.some.injEq, Addr.mk.injEq] at hv
    obtain ⟨⟨rfl, _⟩, rfl, rfl⟩ := hv
    have key : ∀ j, j < l.length * 2 → w.cell? ⟨g, j, none⟩ = (prRow l)[j]? := fun j hj => by
      rw [show w.cell? ⟨g, j, none⟩ = cur[j]? by simp [World.cell?, hg], ← ht, List.getElem?_take_of_lt (by omega)]; simp
    have := prRow_get l i hi
    rw [key _ (by omega), key _ (by omega)]
    exact this

/-- A new block of one pair, as a row. -/
theorem OwnP.one {base : Nat} (w : World) (hb : base ≤ w.heap.size) (a b : Int) : OwnP base (w.alloc (.cells #[.int .u64 a, .int .u64 b] 123)) (.slice (some ⟨w.heap.size, 0, none⟩) 1 1) [(a, b)] :=
  ⟨rfl, .inr ⟨w.heap.size, 1, #[.int .u64 a, .int .u64 b], rfl, hb, heap_alloc_new w _, Nat.le_refl _, by unfold maxLen; omega, rfl, rfl⟩⟩

/-- append(s, p): s a row of pairs of the call's own, p one pair in a new block. -/
theorem wp_appendP {w : World} {o : Oper} {a : Act} {K : Act → World → Prop} {Q : Exit → Act → World → Prop} (s x : Operand)
    (ho : o.op = .call { callee := .builtin .append, args := #[s, x], argTypes := #[120, 120] })
    (base : Nat) (l : List (Int × Int)) (p q : Int) (v : Value) (g c : Nat) (hs : a.eval s = v) (hx : a.eval x = .slice (some ⟨g, 0, none⟩) 1 c) (hown : OwnP base w v l)
    (hg : w.cell? ⟨g, 0, none⟩ = some (.int .u64 p) ∧ w.cell? ⟨g, 1, none⟩ = some (.int .u64 q)) (hl : l.length ≤ 1000000) (hbase : base ≤ w.heap.size)
    (h : ∀ v' w', OwnP base w' v' (l ++ [(p, q)]) → w.grownBy w' v.ownBlock → K (a.put o.dst v') w') : o.wp Try.prog a w K Q := by
  obtain ⟨i, hi, hz, h1, h2⟩ := info_parts infoPr
  refine wp_append_own w s x _ ho base 123 i _ 2 16 Try.underlying120 hi hz h1 h2 rfl (by omega) v l.length _ hs hown ⟨g, 0, none⟩ 1 c [.int .u64 p, .int .u64 q] hx rfl ?_ ?_ (by unfold maxLen; omega) (by omega) hbase ?_
  · intro j u hj
    match j, hj with
    | 0, hj => simp at hj; subst hj; exact hg.1
    | 1, hj => simp at hj; subst hj; exact hg.2
  · intro u hu
    simp at hu
    rcases hu with rfl | rfl <;> rfl
  · intro v' w' h3 h4 _
    refine h v' w' ?_ h4
    unfold OwnP
    rw [List.length_append, prRow_append]
    exact h3
/-- The same as one step of a region that draws its order. -/
theorem step_appendP {w : World} {ops : Array Oper} {o : Oper} {a : Act} {K : Act → World → Prop} {Q : Exit → Act → World → Prop} {F : Prop} (hw : Region.wanted o (yielded ops a.tmps) = true) (s x : Operand)
    (ho : o.op = .call { callee := .builtin .append, args := #[s, x], argTypes := #[120, 120] })
    (base : Nat) (l : List (Int × Int)) (p q : Int) (v : Value) (g c : Nat) (hs : a.eval s = v) (hx : a.eval x = .slice (some ⟨g, 0, none⟩) 1 c) (hown : OwnP base w v l)
    (hg : w.cell? ⟨g, 0, none⟩ = some (.int .u64 p) ∧ w.cell? ⟨g, 1, none⟩ = some (.int .u64 q)) (hl : l.length ≤ 1000000) (hbase : base ≤ w.heap.size)
    (h : ∀ v' w', OwnP base w' v' (l ++ [(p, q)]) → w.grownBy w' v.ownBlock → K (a.put o.dst v') w') : if Region.wanted o (yielded ops a.tmps) = true then Oper.wp Try.prog o a w K Q else F := by
  rw [if_pos hw]
  exact wp_appendP s x ho base l p q v g c hs hx hown hg hl hbase h
end Go.Proofs.Ytmfccaidgaelcaa.Old
