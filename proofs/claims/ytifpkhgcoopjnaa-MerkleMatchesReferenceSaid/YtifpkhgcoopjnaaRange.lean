/- A range over an iterator that hands out a list known ahead, and may turn boxes of its own before the first round. No conditions. -/
import Derived.Test.YtifpkhgcoopjnaaU64
import Derived.RangeFuncNested
import Derived.RangeFuncBound
import Derived.RangeFuncCalls
import Derived.RangeFuncLeaves
import Derived.Shelf.Abstract
import Derived.OwnWalkIn
import Derived.TacticsInMore
import Derived.LoopNIn
import Derived.LoopIn
namespace Go.Proofs.Ytifpkhgcoopjnaa
open Go.RowKit

/-- What the iterator may do ahead of the first round: new blocks, and turns of the blocks bs. -/
structure StepB (bs : Nat → Prop) (W W' : World) : Prop where
  os : W'.os = W.os
  tape : W'.tape = W.tape
  output : W'.output = W.output
  size : W.heap.size ≤ W'.heap.size
  block : ∀ k, k < W.heap.size → ¬ bs k → W'.heap[k]? = W.heap[k]?

theorem StepB.refl (bs : Nat → Prop) (W : World) : StepB bs W W := ⟨rfl, rfl, rfl, Nat.le_refl _, fun _ _ _ => rfl⟩
theorem StepB.trans {bs : Nat → Prop} {A C D : World} (h : StepB bs A C) (k : StepB bs C D) : StepB bs A D :=
  ⟨k.os.trans h.os, k.tape.trans h.tape, k.output.trans h.output, Nat.le_trans h.size k.size, fun i hi hn => (k.block i (Nat.lt_of_lt_of_le hi h.size) hn).trans (h.block i hi hn)⟩
theorem StepB.of_below {bs : Nat → Prop} {A C : World} (h : Below A.heap.size A C) : StepB bs A C := ⟨h.os, h.tape, h.output, h.size, fun k hk _ => h.block k hk⟩
theorem StepB.setCell {bs : Nat → Prop} {A C : World} (h : StepB bs A C) (p : Addr) (hp : bs p.block ∨ A.heap.size ≤ p.block) (u : Value) : StepB bs A (C.setCell p u) :=
  ⟨h.os, h.tape, h.output, by simpa [World.setCell] using h.size, fun k hk hn => (Below.heap_setCell _ _ _ _ (by rintro rfl; rcases hp with hp | hp; exact hn hp; omega)).trans (h.block k hk hn)⟩
theorem StepB.grown {bs : Nat → Prop} {A C D : World} {row : Option Nat} (h : StepB bs A C) (hg : C.grownBy D row) (hr : ∀ k, row = some k → A.heap.size ≤ k) : StepB bs A D :=
  ⟨hg.os.trans h.os, hg.tape.trans h.tape, hg.output.trans h.output, Nat.le_trans h.size hg.size, fun k hk hn => (hg.block k (Nat.lt_of_lt_of_le hk h.size) (fun e => by have := hr k e.symm; omega)).trans (h.block k hk hn)⟩

/-- How the body of a round may be left. -/
def postL (Kp : World → World → Prop) (I : Nat → World → Prop) (Ix : Code → World → Prop) (k : Nat) (W : World) : Exit → Act → World → Prop
  | .normal, _, W' => KeepsOthers W W' ∧ Kp W W' ∧ I (k + 1) W'
  | .ret, _, W' => KeepsOthers W W' ∧ Ix .ret W'
  | .exit id, _, W' => KeepsOthers W W' ∧ Ix (.exit id) W'
  | .goto t, _, W' => KeepsOthers W W' ∧ Ix (.goto t) W'
  | .panic _, _, _ => False
  | .outgrown, _, _ => False

/-- What an iterator that hands out xs does, whatever the caller knows of the worlds between the rounds. -/
def SeqList {α : Type} (F : Fence) (n : Nat) (P : Program) (g : Nat) (lb : Array Value) (encs : α → Array Value) (Kp : World → World → Prop) (bs : Nat → Prop) (xs : List α) (w : World) : Prop :=
  ∀ (l : Nat) (J : Nat → World → Prop) (Jx : World → Prop) (W : World), Below w.heap.size w W → (∀ W', StepB bs W W' → J 0 W') →
    (∀ k x W1, xs[k]? = some x → J k W1 → YieldAt F (n - 1) P l (encs x) W1 fun e W' => (e = .returned (.bool true) ∧ J (k + 1) W' ∧ Kp W1 W') ∨ (e = .returned (.bool false) ∧ Jx W')) →
    CallsIn F n P g (#[.func (.yield l) #[] #[]] ++ lb) W fun e W' => (∃ v, e = .returned v) ∧ (J xs.length W' ∨ Jx W')

theorem wpIn_range_list {F : Fence} {n : Nat} {P : Program} {α : Type} {g : Operand} {ps : Array Tmp} {assign body : Code} {Q : Exit → Act → World → Prop} {a : Act} {w : World}
    (hro : F.round = none) (h1 : 1 ≤ n) {gf : Nat} {lb : Array Value} (hg : a.eval g = .func (.func gf) #[] lb) (hFg : F.fn gf) (eg : ∀ args w, (callFunc gf args).run P w = .ok (.enter gf args) w)
    {encs : α → Array Value} {Kp : World → World → Prop} {bs : Nat → Prop} {xs : List α} (hseq : SeqList F (n - 1) P gf lb encs Kp bs xs w)
    (hKt : ∀ {A B C : World}, Kp A B → Kp B C → Kp A C) (hKb : ∀ (W : World) (l : Nat) (o o' : Obj), W.heap[l]? = some o → o.isCells = false → Kp W (W.putObj l o'))
    (hbs : ∀ r, bs r → r < w.heap.size) (hps : ∀ x, (encs x).size = ps.size)
    (I : Nat → World → Prop) (Ix : Code → World → Prop)
    (hI : ∀ k (W : World) (l : Nat) (o o' : Obj), w.heap.size ≤ l → W.heap[l]? = some o → o.isCells = false → I k W → I k (W.putObj l o'))
    (hIx : ∀ c (W : World) (l : Nat) (o o' : Obj), w.heap.size ≤ l → W.heap[l]? = some o → o.isCells = false → Ix c W → Ix c (W.putObj l o'))
    (h0 : ∀ W', StepB bs w W' → I 0 W') (a₁ : α → Act)
    (hassign : ∀ (l : Nat) (x : α) (W : World) (K : Act → World → Prop), K (a₁ x) W →
      assign.wpIn (F.inRound l) (n - 1 - 1) P (Exit.then K (fun _ _ _ => False)) { tmps := (ps.zip (encs x)).foldl (fun t (p, v) => t.setIfInBounds p v) a.tmps, defers := [] } W)
    (hbody : ∀ (l : Nat) (k : Nat) (x : α) (W : World), xs[k]? = some x → I k W → body.wpIn (F.inRound l) (n - 1 - 1) P (postL Kp I Ix k W) (a₁ x) W)
    (hdone : ∀ (D : Nat) (W : World), w.heap.size ≤ D → I xs.length W → W.heap[D]? = some (.deferred (some [])) → Q .normal { a with defers := { target := .collected D, args := #[] } :: a.defers } W)
    (hstop : ∀ (D : Nat) (c : Code) (W : World), w.heap.size ≤ D → Ix c W → W.heap[D]? = some (.deferred (some [])) → c.wpIn F n P Q { a with defers := { target := .collected D, args := #[] } :: a.defers } W) :
    (Code.rangeFunc g ps assign body).wpIn F n P Q a w := by
  refine wpIn_rangeFunc fun fn hfn => ?_
  rw [hro]
  -- the loop's record, and the world in which the iterator begins
  let rec0 : LoopState → Option Code → Loop := fun st pe => { state := st, pending := pe, fn := fn, tmps := a.tmps, params := ps, assign := assign, body := body, defers := w.heap.size }
  let R := w.heap.size + 1
  generalize hW1 : (w.alloc (.deferred (some []))).alloc (.loop (rec0 .ready none)) = W1
  have hsz1 : W1.heap.size = w.heap.size + 2 := by rw [← hW1]; simp
  have hL1 : W1.heap[R]? = some (.loop (rec0 .ready none)) := by
    rw [← hW1]; have := World.alloc_heap_new (w.alloc (.deferred (some []))) (.loop (rec0 .ready none)); rwa [World.size_alloc] at this
  have hD1 : W1.heap[w.heap.size]? = some (.deferred (some [])) := by
    rw [← hW1]; exact (Below.heap_alloc _ _ _ (by simp)).trans (World.alloc_heap_new w _)
  have hb1 : Below w.heap.size w W1 := by
    rw [← hW1]; exact seqB (aB w _) (aB _ _)
  refine ⟨R, [{ target := .collected w.heap.size, args := #[] }], W1, { target := .fn (.func gf) lb, args := #[.func (.yield R) #[] #[]] }, W1, gf,
    #[.func (.yield R) #[] #[]] ++ lb, W1, ?_, ?_, ?_, ?_, fun _ => h1, ?_⟩
  · rw [← hW1]; exact run_enterLoop_outer _ _ _ _ _
  · simp only [resolve, hg]
    simp [go_sem]
  · intro f' hf'; simp [Target.leads] at hf'; subst hf'; exact hFg
  · simp [invoke, go_sem, eg]
  -- the caller's facts with the record's beside them
  refine (hseq R (fun k W => I k W ∧ W.heap[R]? = some (.loop (rec0 .ready none)) ∧ W.heap[w.heap.size]? = some (.deferred (some [])))
    (fun W => ∃ c, Ix c W ∧ W.heap[R]? = some (.loop (rec0 .done (some c))) ∧ W.heap[w.heap.size]? = some (.deferred (some []))) W1 hb1 ?_ ?_).mono ?_
  · intro W' hst
    refine ⟨h0 W' ((StepB.of_below hb1).trans hst), ?_, ?_⟩
    · rw [hst.block R (by rw [hsz1]; show w.heap.size + 1 < _; omega) (fun h => by have := hbs _ h; have : R = w.heap.size + 1 := rfl; omega)]; exact hL1
    · rw [hst.block w.heap.size (by rw [hsz1]; omega) (fun h => by have := hbs _ h; omega)]; exact hD1
  · rintro k x W hx ⟨hi, hl, hk⟩
    have hlt : R < W.heap.size := (Array.getElem?_eq_some_iff.1 hl).1
    have hRw : w.heap.size ≤ R := Nat.le_succ _
    have hRne : w.heap.size ≠ R := Nat.ne_of_lt (Nat.lt_succ_self _)
    have hy := run_yield (P := P) (args := encs x) hl (hps x)
    refine ⟨fn, _, assign, body, hy, roundIn_of_wpIn hfn (hassign _ x W _ ⟨_, run_beginRound hl rfl, ?_⟩)⟩
    have hl2 : (W.putObj R (.loop { rec0 .ready none with state := .busy })).heap[R]? = some (.loop { rec0 .ready none with state := .busy }) := World.putObj_heap_same hlt
    have hk2 : (W.putObj R (.loop { rec0 .ready none with state := .busy })).heap[w.heap.size]? = some (.deferred (some [])) := (World.putObj_heap_other hRne).trans hk
    have hw2 : Kp W (W.putObj R (.loop { rec0 .ready none with state := .busy })) := hKb _ _ _ _ hl rfl
    refine wpIn_mono (hbody _ k x _ hx (hI _ _ _ _ _ hRw hl rfl hi)) ?_
    have fin : ∀ (jump : Option Code) (W3 : World), KeepsOthers (W.putObj R (.loop { rec0 .ready none with state := .busy })) W3 →
        (Instr.endRound R jump).run P W3 = .ok (.bool jump.isNone) (W3.putObj R (.loop (rec0 (if jump.isNone then .ready else .done) jump))) ∧
        W3.heap[R]? = some (.loop { rec0 .ready none with state := .busy }) ∧
        (W3.putObj R (.loop (rec0 (if jump.isNone then .ready else .done) jump))).heap[R]? = some (.loop (rec0 (if jump.isNone then .ready else .done) jump)) ∧
        (W3.putObj R (.loop (rec0 (if jump.isNone then .ready else .done) jump))).heap[w.heap.size]? = some (.deferred (some [])) := fun jump W3 hk3 => by
      have hl3 := hk3.same _ _ hl2 rfl
      exact ⟨run_endRound (P := P) jump hl3, hl3, World.putObj_heap_same (Array.getElem?_eq_some_iff.1 hl3).1, (World.putObj_heap_other hRne).trans (hk3.same _ _ hk2 rfl)⟩
    rintro e a3 W3 hp
    cases e with
    | normal =>
      obtain ⟨hk3, hkp3, hi3⟩ := hp
      obtain ⟨hr, hl3, hl4, hk4⟩ := fin none W3 hk3
      exact ⟨_, _, hr, .inl ⟨rfl, ⟨hI _ _ _ _ _ hRw hl3 rfl hi3, hl4, hk4⟩, hKt (hKt hw2 hkp3) (hKb _ _ _ _ hl3 rfl)⟩⟩
    | ret =>
      obtain ⟨hk3, hi3⟩ := hp
      obtain ⟨hr, hl3, hl4, hk4⟩ := fin (some .ret) W3 hk3
      exact ⟨_, _, hr, .inr ⟨rfl, .ret, hIx _ _ _ _ _ hRw hl3 rfl hi3, hl4, hk4⟩⟩
    | exit id =>
      obtain ⟨hk3, hi3⟩ := hp
      obtain ⟨hr, hl3, hl4, hk4⟩ := fin (some (.exit id)) W3 hk3
      exact ⟨_, _, hr, .inr ⟨rfl, .exit id, hIx _ _ _ _ _ hRw hl3 rfl hi3, hl4, hk4⟩⟩
    | goto t =>
      obtain ⟨hk3, hi3⟩ := hp
      obtain ⟨hr, hl3, hl4, hk4⟩ := fin (some (.goto t)) W3 hk3
      exact ⟨_, _, hr, .inr ⟨rfl, .goto t, hIx _ _ _ _ _ hRw hl3 rfl hi3, hl4, hk4⟩⟩
    | panic ch => exact hp.elim
    | outgrown => exact hp.elim
  · have hRw : w.heap.size ≤ R := Nat.le_succ _
    have hRne : w.heap.size ≠ R := Nat.ne_of_lt (Nat.lt_succ_self _)
    rintro e W2 ⟨⟨v, rfl⟩, (⟨hi, hl, hk⟩ | ⟨c, hi, hl, hk⟩)⟩
    · exact ⟨none, _, run_endLoop (P := P) hl (by simp [rec0]), hdone _ _ (Nat.le_refl _) (hI _ _ _ _ _ hRw hl rfl hi) ((World.putObj_heap_other hRne).trans hk)⟩
    · exact ⟨some c, _, run_endLoop (P := P) hl (by simp [rec0]), hstop _ c _ (Nat.le_refl _) (hIx _ _ _ _ _ hRw hl rfl hi) ((World.putObj_heap_other hRne).trans hk)⟩

end Go.Proofs.Ytifpkhgcoopjnaa
