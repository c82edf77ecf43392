/- Values told without addresses: a tree for what is only read, numbers of objects for what may be written. No conditions. -/
import Derived.WalkKit
import Derived.Below
import Derived.Orders
import Derived.Laws.Cells
import Derived.Laws.CopyRow
import Derived.Laws.NewFold
import Derived.Laws.Tables
set_option linter.unusedVariables false
set_option linter.unusedSimpArgs false
namespace Go.Abs
open Go.RowKit

/-- A value told without addresses. -/
inductive A where
  | any
  | val (v : Value)
  | ro (n : Nat) (l : List A)
  | sl (k : Nat) (p : List Nat) (st off n : Nat)
  | ptr (k : Nat) (p : List Nat) (off : Nat)
  | rp (l : List A)
  | agg (l : List A)
  | tup (l : List A)
  | fn (g : FuncId) (first caps : List A)
  | ifc (t : TypeId) (a : A)
  deriving Inhabited
/-- Where the objects lie: in a block, or (an empty one) nowhere. -/
abbrev Pl := Nat → List Nat → Option (Option Nat)

/-- No object lies anywhere. -/
def noPl : Pl := fun _ _ => none

mutual
/-- v is a value that a tells, where the objects lie at f and the blocks of X are not to be looked at. -/
def V (f : Pl) (X : Nat → Prop) (w : World) : A → Value → Prop
  | .any, _ => True
  | .val u, v => v = u
  | .ro n l, v => ∃ a cap, v = .slice a n cap ∧ n ≤ cap ∧ cap ≤ maxLen ∧ (a = none → n = 0 ∧ cap = 0 ∧ l = []) ∧
      ∀ q, a = some q → l = [] ∨ (q.spot = none ∧ ¬ X q.block ∧ q.block < w.heap.size ∧
        ∃ vs, VL noPl X w l vs ∧ ∀ (j : Nat) (u : Value), vs[j]? = some u → w.cell? ⟨q.block, q.off + j, none⟩ = some u)
  | .sl k p st off n, v => (f k p = some none ∧ n = 0 ∧ off = 0 ∧ v = .slice none 0 0) ∨ ∃ b cap, f k p = some (some b) ∧ v = .slice (some ⟨b, off, none⟩) n cap ∧ n ≤ cap ∧ cap ≤ maxLen ∧
      ∃ arr e z, w.heap[b]? = some (Obj.cells arr e z) ∧ off + cap * st ≤ arr.size
  | .ptr k p off, v => ∃ b, f k p = some (some b) ∧ v = .pointer (some ⟨b, off, none⟩)
  | .rp l, v => ∃ q : Addr, v = .pointer (some q) ∧ q.spot = none ∧ ¬ X q.block ∧ q.block < w.heap.size ∧
      ∃ vs, VL noPl X w l vs ∧ ∀ (j : Nat) (u : Value), vs[j]? = some u → w.cell? ⟨q.block, q.off + j, none⟩ = some u
  | .agg l, v => ∃ vs : List Value, v = .agg vs.toArray ∧ VL f X w l vs
  | .tup l, v => ∃ vs : List Value, v = .tuple vs.toArray ∧ VL f X w l vs
  | .fn g first caps, v => ∃ fs cs : List Value, v = .func (.func g) fs.toArray cs.toArray ∧ VL f X w first fs ∧ VL f X w caps cs
  | .ifc t a, v => ∃ u, v = .iface t u ∧ V f X w a u
def VL (f : Pl) (X : Nat → Prop) (w : World) : List A → List Value → Prop
  | [], vs => vs = []
  | x :: xs, vs => ∃ v t, vs = v :: t ∧ V f X w x v ∧ VL f X w xs t
end

/-- Between two worlds only blocks of Z have changed, and no block has another size. -/
structure Kp (Z : Nat → Prop) (w w' : World) : Prop where
  os : w'.os = w.os
  tape : w'.tape = w.tape
  output : w'.output = w.output
  size : w.heap.size ≤ w'.heap.size
  same : ∀ b, b < w.heap.size → ¬ Z b → w'.heap[b]? = w.heap[b]?
  shape : ∀ (b : Nat) (arr : Array Value) (e : TypeId) (z : Nat × Nat), w.heap[b]? = some (Obj.cells arr e z) → ∃ arr', w'.heap[b]? = some (Obj.cells arr' e z) ∧ arr'.size = arr.size

theorem Kp.refl (Z : Nat → Prop) (w : World) : Kp Z w w := ⟨rfl, rfl, rfl, Nat.le_refl _, fun _ _ _ => rfl, fun _ arr _ _ h => ⟨arr, h, rfl⟩⟩
theorem Kp.mono {Z Z' : Nat → Prop} {w w' : World} (h : Kp Z w w') (hz : ∀ b, b < w.heap.size → Z b → Z' b) : Kp Z' w w' :=
  ⟨h.os, h.tape, h.output, h.size, fun b hb hn => h.same b hb (fun hh => hn (hz b hb hh)), h.shape⟩
theorem Kp.trans {Z : Nat → Prop} {a b c : World} (h : Kp Z a b) (k : Kp Z b c) : Kp Z a c :=
  ⟨k.os.trans h.os, k.tape.trans h.tape, k.output.trans h.output, Nat.le_trans h.size k.size,
   fun i hi hn => (k.same i (Nat.lt_of_lt_of_le hi h.size) hn).trans (h.same i hi hn),
   fun i arr e z hh => by
     obtain ⟨arr', h1, h2⟩ := h.shape i arr e z hh
     obtain ⟨arr'', h3, h4⟩ := k.shape i arr' e z h1
     exact ⟨arr'', h3, h4.trans h2⟩⟩
/-- A step whose changes behind the first world's size do not count. -/
theorem Kp.trans' {Z Z' : Nat → Prop} {a b c : World} (h : Kp Z a b) (k : Kp Z' b c) (hz : ∀ i, i < a.heap.size → Z' i → Z i) : Kp Z a c :=
  ⟨k.os.trans h.os, k.tape.trans h.tape, k.output.trans h.output, Nat.le_trans h.size k.size,
   fun i hi hn => (k.same i (Nat.lt_of_lt_of_le hi h.size) (fun hh => hn (hz i hi hh))).trans (h.same i hi hn),
   fun i arr e z hh => by
     obtain ⟨arr', h1, h2⟩ := h.shape i arr e z hh
     obtain ⟨arr'', h3, h4⟩ := k.shape i arr' e z h1
     exact ⟨arr'', h3, h4.trans h2⟩⟩
theorem Kp.of_below {w w' : World} (h : Below w.heap.size w w') : Kp (fun _ => False) w w' :=
  ⟨h.os, h.tape, h.output, h.size, fun b hb _ => h.block b hb, fun b arr e z hh => ⟨arr, (h.block b (Array.getElem?_eq_some_iff.1 hh).1).trans hh, rfl⟩⟩
theorem Kp.below {w w' : World} (h : Kp (fun _ => False) w w') : Below w.heap.size w w' :=
  ⟨h.os, h.tape, h.output, h.size, fun k hk => h.same k hk (fun h => h)⟩
theorem Kp.below' {Z : Nat → Prop} {B : Nat} {w w' : World} (h : Kp Z w w') (hB : B ≤ w.heap.size) (hz : ∀ b, b < B → ¬ Z b) : Below B w w' :=
  ⟨h.os, h.tape, h.output, h.size, fun k hk => h.same k (by omega) (hz k hk)⟩
theorem Kp.cell {Z : Nat → Prop} {w w' : World} (h : Kp Z w w') {b : Nat} (o : Nat) (hb : b < w.heap.size) (hz : ¬ Z b) : w'.cell? ⟨b, o, none⟩ = w.cell? ⟨b, o, none⟩ :=
  World.cell?_of_block (w := w) (h.same b hb hz)
theorem Kp.drew (Z : Nat → Prop) (w : World) : Kp Z w w.drew := ⟨rfl, rfl, rfl, Nat.le_refl _, fun _ _ _ => rfl, fun _ arr _ _ h => ⟨arr, h, rfl⟩⟩
theorem Kp.alloc (Z : Nat → Prop) (w : World) (o : Obj) : Kp Z w (w.alloc o) := by
  refine ⟨rfl, rfl, rfl, by simp, fun b hb _ => Below.heap_alloc _ _ _ hb, fun b arr e z hh => ⟨arr, ?_, rfl⟩⟩
  rw [Below.heap_alloc _ _ _ (Array.getElem?_eq_some_iff.1 hh).1]; exact hh

/-- f' lies where f does. -/
def Ext (f f' : Pl) : Prop := ∀ k p b, f k p = some b → f' k p = some b
theorem Ext.refl (f : Pl) : Ext f f := fun _ _ _ h => h
theorem Ext.trans {f g h : Pl} (a : Ext f g) (b : Ext g h) : Ext f h := fun k p c hh => b k p c (a k p c hh)

mutual
theorem V.mono' {X X' Z : Nat → Prop} {w w' : World} (hX : ∀ b, b < w.heap.size → X' b → X b) (hk : Kp Z w w') (hZ : ∀ b, b < w.heap.size → Z b → X b) :
    ∀ (a : A) (f f' : Pl) (_ : Ext f f') (v : Value), V f X w a v → V f' X' w' a v
  | .any, _, _, _, _, _ => by simp only [V]
  | .val u, f, f', hf, v, h => by simp only [V] at h ⊢; exact h
  | .ro n l, f, f', hf, v, h => by
    simp only [V] at h ⊢
    obtain ⟨a, cap, h1, h2, h3, h4, h5⟩ := h
    refine ⟨a, cap, h1, h2, h3, h4, fun q hq => ?_⟩
    rcases h5 q hq with h6 | ⟨h6, h7, h8, vs, h9, h10⟩
    · exact .inl h6
    · refine .inr ⟨h6, fun hh => h7 (hX _ h8 hh), Nat.lt_of_lt_of_le h8 hk.size, vs, VL.mono' hX hk hZ l noPl noPl (Ext.refl _) vs h9, fun j u hu => ?_⟩
      rw [hk.cell _ h8 (fun hz => h7 (hZ _ h8 hz))]
      exact h10 j u hu
  | .sl k p st off n, f, f', hf, v, h => by
    simp only [V] at h ⊢
    rcases h with ⟨h1, h2⟩ | ⟨b, cap, h1, h2, h3, h4, arr, e, z, h5, h6⟩
    · exact .inl ⟨hf _ _ _ h1, h2⟩
    obtain ⟨arr', h7, h8⟩ := hk.shape b arr e z h5
    exact .inr ⟨b, cap, hf _ _ _ h1, h2, h3, h4, arr', e, z, h7, by omega⟩
  | .ptr k p off, f, f', hf, v, h => by
    simp only [V] at h ⊢
    obtain ⟨b, h1, h2⟩ := h
    exact ⟨b, hf _ _ _ h1, h2⟩
  | .rp l, f, f', hf, v, h => by
    simp only [V] at h ⊢
    obtain ⟨q, h1, h6, h7, h8, vs, h9, h10⟩ := h
    refine ⟨q, h1, h6, fun hh => h7 (hX _ h8 hh), Nat.lt_of_lt_of_le h8 hk.size, vs, VL.mono' hX hk hZ l noPl noPl (Ext.refl _) vs h9, fun j u hu => ?_⟩
    rw [hk.cell _ h8 (fun hz => h7 (hZ _ h8 hz))]
    exact h10 j u hu
  | .agg l, f, f', hf, v, h => by
    simp only [V] at h ⊢
    obtain ⟨vs, h1, h2⟩ := h
    exact ⟨vs, h1, VL.mono' hX hk hZ l f f' hf vs h2⟩
  | .tup l, f, f', hf, v, h => by
    simp only [V] at h ⊢
    obtain ⟨vs, h1, h2⟩ := h
    exact ⟨vs, h1, VL.mono' hX hk hZ l f f' hf vs h2⟩
  | .fn g first caps, f, f', hf, v, h => by
    simp only [V] at h ⊢
    obtain ⟨fs, cs, h1, h2, h3⟩ := h
    exact ⟨fs, cs, h1, VL.mono' hX hk hZ _ f f' hf _ h2, VL.mono' hX hk hZ _ f f' hf _ h3⟩
  | .ifc t a, f, f', hf, v, h => by
    simp only [V] at h ⊢
    obtain ⟨u, h1, h2⟩ := h
    exact ⟨u, h1, V.mono' hX hk hZ a f f' hf u h2⟩
theorem VL.mono' {X X' Z : Nat → Prop} {w w' : World} (hX : ∀ b, b < w.heap.size → X' b → X b) (hk : Kp Z w w') (hZ : ∀ b, b < w.heap.size → Z b → X b) :
    ∀ (l : List A) (f f' : Pl) (_ : Ext f f') (vs : List Value), VL f X w l vs → VL f' X' w' l vs
  | [], f, f', hf, vs, h => by simp only [VL] at h ⊢; exact h
  | x :: xs, f, f', hf, vs, h => by
    simp only [VL] at h ⊢
    obtain ⟨v, t, h1, h2, h3⟩ := h
    exact ⟨v, t, h1, V.mono' hX hk hZ x f f' hf v h2, VL.mono' hX hk hZ xs f f' hf t h3⟩
end

theorem V.mono {f f' : Pl} {X X' Z : Nat → Prop} {w w' : World} (hf : Ext f f') (hX : ∀ b, b < w.heap.size → X' b → X b) (hk : Kp Z w w') (hZ : ∀ b, b < w.heap.size → Z b → X b) (a : A) (v : Value) (h : V f X w a v) : V f' X' w' a v :=
  V.mono' hX hk hZ a f f' hf v h
theorem VL.mono {f f' : Pl} {X X' Z : Nat → Prop} {w w' : World} (hf : Ext f f') (hX : ∀ b, b < w.heap.size → X' b → X b) (hk : Kp Z w w') (hZ : ∀ b, b < w.heap.size → Z b → X b) (l : List A) (vs : List Value) (h : VL f X w l vs) : VL f' X' w' l vs :=
  VL.mono' hX hk hZ l f f' hf vs h
theorem noPl_ext (f : Pl) : Ext noPl f := fun _ _ _ h => by cases h
theorem VL.noPl {f : Pl} {X : Nat → Prop} {w : World} {l : List A} {vs : List Value} (h : VL noPl X w l vs) : VL f X w l vs :=
  VL.mono (noPl_ext f) (fun _ _ h => h) (Kp.refl (fun _ => False) w) (fun _ _ h => h.elim) l vs h

section
variable {f : Pl} {X : Nat → Prop} {w : World}
theorem VL.nil : VL f X w [] [] := by simp [VL]
theorem VL.cons {x : A} {xs : List A} {v : Value} {vs : List Value} (h : V f X w x v) (h2 : VL f X w xs vs) : VL f X w (x :: xs) (v :: vs) := by simp only [VL]; exact ⟨v, vs, rfl, h, h2⟩
theorem VL.uncons {x : A} {xs : List A} {vs : List Value} (h : VL f X w (x :: xs) vs) : ∃ v t, vs = v :: t ∧ V f X w x v ∧ VL f X w xs t := by simpa only [VL] using h
theorem VL.unnil {vs : List Value} (h : VL f X w [] vs) : vs = [] := by simpa only [VL] using h
theorem VL.length : ∀ {l : List A} {vs : List Value}, VL f X w l vs → vs.length = l.length
  | [], vs, h => by rw [VL.unnil h]; rfl
  | x :: xs, vs, h => by obtain ⟨v, t, rfl, _, h3⟩ := h.uncons; simp [VL.length h3]
theorem VL.get : ∀ {l : List A} {vs : List Value}, VL f X w l vs → ∀ {i : Nat} {x : A}, l[i]? = some x → ∃ v, vs[i]? = some v ∧ V f X w x v
  | [], vs, h, i, x, hi => by simp at hi
  | y :: ys, vs, h, i, x, hi => by
    obtain ⟨v, t, rfl, h2, h3⟩ := h.uncons
    cases i with
    | zero => simp at hi; subst hi; exact ⟨v, by simp, h2⟩
    | succ i => simp at hi; obtain ⟨u, h4, h5⟩ := VL.get h3 hi; exact ⟨u, by simpa using h4, h5⟩
theorem VL.of_get : ∀ {l : List A} {vs : List Value}, vs.length = l.length → (∀ (i : Nat) (x : A) (v : Value), l[i]? = some x → vs[i]? = some v → V f X w x v) → VL f X w l vs
  | [], vs, h, _ => by cases vs with | nil => exact VL.nil | cons _ _ => simp at h
  | y :: ys, vs, h, hg => by
    cases vs with
    | nil => simp at h
    | cons v t => exact VL.cons (hg 0 y v (by simp) (by simp)) (VL.of_get (by simpa using h) (fun i x u h1 h2 => hg (i + 1) x u (by simpa using h1) (by simpa using h2)))
theorem VL.append : ∀ {l m : List A} {vs us : List Value}, VL f X w l vs → VL f X w m us → VL f X w (l ++ m) (vs ++ us)
  | [], m, vs, us, h, h2 => by rw [VL.unnil h]; exact h2
  | x :: xs, m, vs, us, h, h2 => by obtain ⟨v, t, rfl, h3, h4⟩ := h.uncons; exact VL.cons h3 (VL.append h4 h2)
theorem VL.take : ∀ {l : List A} {vs : List Value} (n : Nat), VL f X w l vs → VL f X w (l.take n) (vs.take n)
  | _, _, 0, _ => by simp [VL.nil]
  | [], vs, n + 1, h => by rw [VL.unnil h]; exact VL.nil
  | x :: xs, vs, n + 1, h => by obtain ⟨v, t, rfl, h3, h4⟩ := h.uncons; simpa using VL.cons h3 (VL.take n h4)
theorem VL.drop : ∀ {l : List A} {vs : List Value} (n : Nat), VL f X w l vs → VL f X w (l.drop n) (vs.drop n)
  | _, _, 0, h => by simpa using h
  | [], vs, n + 1, h => by rw [VL.unnil h]; exact VL.nil
  | x :: xs, vs, n + 1, h => by obtain ⟨v, t, rfl, h3, h4⟩ := h.uncons; simpa using VL.drop n h4
theorem VL.set : ∀ {l : List A} {vs : List Value} (i : Nat) {x : A} {v : Value}, VL f X w l vs → V f X w x v → VL f X w (l.set i x) (vs.set i v)
  | [], vs, _, _, _, h, _ => by rw [VL.unnil h]; exact VL.nil
  | y :: ys, vs, 0, x, v, h, hx => by obtain ⟨u, t, rfl, h3, h4⟩ := h.uncons; exact VL.cons hx h4
  | y :: ys, vs, i + 1, x, v, h, hx => by obtain ⟨u, t, rfl, h3, h4⟩ := h.uncons; simpa using VL.cons h3 (VL.set i h4 hx)
theorem VL.vals (l : List Value) : VL f X w (l.map A.val) l := by
  induction l with
  | nil => exact VL.nil
  | cons x xs ih => exact VL.cons (by simp [V]) ih
theorem VL.replicate (n : Nat) {x : A} {v : Value} (h : V f X w x v) : VL f X w (List.replicate n x) (List.replicate n v) := by
  induction n with
  | zero => exact VL.nil
  | succ n ih => rw [List.replicate_succ, List.replicate_succ]; exact VL.cons h ih
end
end Go.Abs
namespace Go.Abs
open Go.RowKit

/-- What stands under one number: an object, or a family of them, or nothing any more. -/
inductive Reg where
  | one (c : List A)
  | fam (F : List Nat → Option (List A))
  | gone
def Reg.get : Reg → List Nat → Option (List A)
  | .one c, [] => some c
  | .one _, _ :: _ => none
  | .fam F, p => F p
  | .gone, _ => none
structure St where
  e : Nat → Option A
  h : Nat → Reg
  n : Nat
def put (d : Nat) (v : Option A) (e : Nat → Option A) : Nat → Option A := fun i => bif Nat.beq i d then v else e i
def hput (k : Nat) (r : Reg) (h : Nat → Reg) : Nat → Reg := fun j => bif Nat.beq j k then r else h j
def noE : Nat → Option A := fun _ => none
def noH : Nat → Reg := fun _ => .gone
theorem beqF {a b : Nat} (h : a ≠ b) : Nat.beq a b = false := by
  cases hb : Nat.beq a b
  · rfl
  · exact absurd (Nat.eq_of_beq_eq_true hb) h
theorem put_same (d : Nat) (v : Option A) (e : Nat → Option A) : put d v e d = v := by simp [put]
theorem put_ne {d i : Nat} (v : Option A) (e : Nat → Option A) (h : i ≠ d) : put d v e i = e i := by simp [put, beqF h]
theorem hput_same (k : Nat) (r : Reg) (h : Nat → Reg) : hput k r h k = r := by simp [hput]
theorem hput_ne {k j : Nat} (r : Reg) (h : Nat → Reg) (hn : j ≠ k) : hput k r h j = h j := by simp [hput, beqF hn]

/-- b is the block of an object that is there. -/
def Live (h : Nat → Reg) (f : Pl) (b : Nat) : Prop := ∃ k p, (h k).get p ≠ none ∧ f k p = some (some b)
/-- What holds of package variables: a fact about the first G blocks. -/
structure GI where
  G : Nat
  p : World → Prop
  st : ∀ w w', (∀ b, b < G → w'.heap[b]? = w.heap[b]?) → p w → p w'
  low : ∀ w, p w → G ≤ w.heap.size
def GI.none : GI := ⟨0, fun _ => True, fun _ _ _ h => h, fun _ _ => Nat.zero_le _⟩
/-- A call: its first world, the blocks that it may write, the blocks of others, the number of its slots, and where its objects lay at first. -/
structure Ctx where
  w0 : World
  X0 : Nat → Prop
  Y : Nat → Prop
  N : Nat
  f0 : Pl
  q : Nat
  I : GI
  hI : I.p w0
  hx : ∀ b, X0 b → I.G ≤ b
  D : List Deferred
  T : Nat → Option Value
def Ctx.X (C : Ctx) (h : Nat → Reg) (f : Pl) (b : Nat) : Prop := Live h f b ∨ C.Y b
def HR (f : Pl) (X : Nat → Prop) (w : World) (h : Nat → Reg) : Prop :=
  ∀ k p c, (h k).get p = some c → (c = [] ∧ f k p = some none) ∨ ∃ b arr el, f k p = some (some b) ∧ w.heap[b]? = some (.cells arr el (0, 0)) ∧ c.length ≤ arr.size ∧ VL f X w c (arr.toList.take c.length)
def Inj (h : Nat → Reg) (f : Pl) : Prop :=
  ∀ k p k' p' b, (h k).get p ≠ none → (h k').get p' ≠ none → f k p = some (some b) → f k' p' = some (some b) → k = k' ∧ p = p'

structure Rel (C : Ctx) (s : St) (fr : Nat → Prop) (f : Pl) (a : Act) (w : World) : Prop where
  N : a.tmps.size = C.N
  defers : a.defers = C.D ∧ ∀ i v, C.T i = some v → a.tmps.getD i undef = v
  e : ∀ i v, s.e i = some v → V f (C.X s.h f) w v (a.tmps.getD i undef)
  h : HR f (C.X s.h f) w s.h
  inj : Inj s.h f
  kp : Kp C.X0 C.w0 w
  new : ∀ b, Live s.h f b → C.w0.heap.size ≤ b ∨ C.X0 b
  y : ∀ b, C.Y b → b < C.w0.heap.size ∧ ¬ C.X0 b
  fr : ∀ k, fr k → ∀ p, f k p = none
  ext : Ext C.f0 f
  dom : ∀ k, C.q ≤ k → ∀ p, C.f0 k p = none

inductive AExit where
  | normal
  | exit (id : Nat)
  | goto (l : Nat)
  | ret
structure AQ where
  q : AExit → St → Prop
  p : List PanicEntry → Prop
def From (n : Nat) : Nat → Prop := fun k => n ≤ k
def At (C : Ctx) (q : St → Prop) (a : Act) (w : World) : Prop := ∃ s f, q s ∧ Rel C s (From s.n) f a w
def Pan (C : Ctx) (p : List PanicEntry → Prop) (ch : List PanicEntry) (a : Act) (w : World) : Prop := p ch ∧ Kp C.X0 C.w0 w ∧ a.defers = C.D ∧ ∀ i v, C.T i = some v → a.tmps.getD i undef = v
def QL (C : Ctx) (Q : AQ) : Exit → Act → World → Prop
  | .normal, a, w => At C (Q.q .normal) a w
  | .exit id, a, w => At C (Q.q (.exit id)) a w
  | .goto l, a, w => At C (Q.q (.goto l)) a w
  | .ret, a, w => At C (Q.q .ret) a w
  | .panic ch, a, w => Pan C Q.p ch a w
  | .outgrown, _, _ => False
/-- From each frame and world that s tells, the code comes to an end that Q tells. -/
def AW (P : Program) (C : Ctx) (c : Code) (Q : AQ) (s : St) : Prop := ∀ f a w, Rel C s (From s.n) f a w → c.wp P (QL C Q) a w

section
variable {P : Program} {C : Ctx} {Q : AQ} {s : St}
theorem AW.mono {c : Code} {Q' : AQ} (h : AW P C c Q s) (hq : ∀ e s, Q.q e s → Q'.q e s) (hp : ∀ ch, Q.p ch → Q'.p ch) : AW P C c Q' s := by
  intro f a w hr
  refine wp_mono (h f a w hr) ?_
  intro e a w hh
  cases e with
  | normal => obtain ⟨s, f, h1, h2⟩ := hh; exact ⟨s, f, hq _ _ h1, h2⟩
  | exit id => obtain ⟨s, f, h1, h2⟩ := hh; exact ⟨s, f, hq _ _ h1, h2⟩
  | goto l => obtain ⟨s, f, h1, h2⟩ := hh; exact ⟨s, f, hq _ _ h1, h2⟩
  | ret => obtain ⟨s, f, h1, h2⟩ := hh; exact ⟨s, f, hq _ _ h1, h2⟩
  | panic ch => exact ⟨hp _ hh.1, hh.2⟩
  | outgrown => exact hh
theorem AW.skip (h : Q.q .normal s) : AW P C .skip Q s := fun f _ _ hr => wp_skip ⟨s, f, h, hr⟩
theorem AW.label {l : Nat} (h : Q.q .normal s) : AW P C (.label l) Q s := fun f _ _ hr => wp_label ⟨s, f, h, hr⟩
theorem AW.exit {id : Nat} (h : Q.q (.exit id) s) : AW P C (.exit id) Q s := fun f _ _ hr => wp_exit ⟨s, f, h, hr⟩
theorem AW.goto {l : Nat} (h : Q.q (.goto l) s) : AW P C (.goto l) Q s := fun f _ _ hr => wp_goto ⟨s, f, h, hr⟩
theorem AW.ret (h : Q.q .ret s) : AW P C .ret Q s := fun f _ _ hr => wp_ret ⟨s, f, h, hr⟩
def AQ.then (next : St → Prop) (Q : AQ) : AQ := ⟨fun e s => match e with | .normal => next s | e => Q.q e s, Q.p⟩
def AQ.inBlock (id : Nat) (Q : AQ) : AQ := ⟨fun e s => match e with | .exit i => bif Nat.beq i id then Q.q .normal s else Q.q (.exit i) s | e => Q.q e s, Q.p⟩
theorem AW.seq {x y : Code} (h : AW P C x (Q.then (fun s => AW P C y Q s)) s) : AW P C (.seq x y) Q s := by
  intro f a w hr
  refine wp_seq (wp_mono (h f a w hr) ?_)
  intro e a w hh
  cases e with
  | normal => obtain ⟨s, f, h1, h2⟩ := hh; exact h1 f a w h2
  | exit id => exact hh
  | goto l => exact hh
  | ret => exact hh
  | panic ch => exact hh
  | outgrown => exact hh
theorem AW.block {id : Nat} {c : Code} (h : AW P C c (Q.inBlock id) s) : AW P C (.block id c) Q s := by
  intro f a w hr
  refine wp_block (wp_mono (h f a w hr) ?_)
  intro e a w hh
  cases e with
  | normal => exact hh
  | exit i =>
    obtain ⟨s, f, h1, h2⟩ := hh
    show (if i = id then _ else _)
    simp only [AQ.inBlock] at h1
    by_cases hi : i = id
    · subst hi
      rw [if_pos rfl]
      simp at h1
      exact ⟨s, f, h1, h2⟩
    · rw [if_neg hi]
      have : Nat.beq i id = false := beqF hi
      rw [this] at h1
      exact ⟨s, f, h1, h2⟩
  | goto l => exact hh
  | ret => exact hh
  | panic ch => exact hh
  | outgrown => exact hh
def evE (e : Nat → Option A) : Operand → Option A
  | .tmp t => e t
  | .const v => some (.val v)
  | .func g => some (.fn g [] [])
  | .global _ => none
theorem Rel.gi {fr : Nat → Prop} {f : Pl} {a : Act} {w : World} (h : Rel C s fr f a w) : C.I.p w :=
  C.I.st C.w0 w (fun b hb => h.kp.same b (Nat.lt_of_lt_of_le hb (C.I.low _ C.hI)) (fun hx => by have := C.hx b hx; omega)) C.hI
theorem Rel.high {fr : Nat → Prop} {f : Pl} {a : Act} {w : World} (h : Rel C s fr f a w) {b : Nat} (hb : Live s.h f b) : C.I.G ≤ b := by
  rcases h.new b hb with h1 | h1
  · exact Nat.le_trans (C.I.low _ C.hI) h1
  · exact C.hx b h1
theorem Rel.ev {fr : Nat → Prop} {f : Pl} {a : Act} {w : World} (h : Rel C s fr f a w) {x : Operand} {v : A} (hx : evE s.e x = some v) : V f (C.X s.h f) w v (a.eval x) := by
  cases x with
  | tmp t => exact h.e t v hx
  | const u => simp only [evE, Option.some.injEq] at hx; subst hx; simp [Act.eval, V]
  | func g => simp only [evE, Option.some.injEq] at hx; subst hx; simp only [Act.eval, V]; exact ⟨[], [], rfl, VL.nil, VL.nil⟩
  | global g => simp [evE] at hx
theorem V.val {f : Pl} {X : Nat → Prop} {w : World} {u v : Value} (h : V f X w (.val u) v) : v = u := by simpa only [V] using h
theorem AW.cond {c : Operand} {x y : Code} {b : Bool} (hc : evE s.e c = some (.val (.bool b))) (ht : b = true → AW P C x Q s) (hf : b = false → AW P C y Q s) : AW P C (.cond c x y) Q s := by
  intro f a w hr
  have h1 := hr.ev hc
  exact wp_cond_split h1.val (fun hb => ht hb f a w hr) (fun hb => hf hb f a w hr)
theorem AW.condT {c : Operand} {x y : Code} (hc : evE s.e c = some (.val (.bool true))) (ht : AW P C x Q s) : AW P C (.cond c x y) Q s := AW.cond hc (fun _ => ht) (fun h => by cases h)
theorem AW.condF {c : Operand} {x y : Code} (hc : evE s.e c = some (.val (.bool false))) (hf : AW P C y Q s) : AW P C (.cond c x y) Q s := AW.cond hc (fun h => by cases h) (fun _ => hf)
theorem AW.condD {c : Operand} {x y : Code} {p : Prop} [Decidable p] (hc : evE s.e c = some (.val (.bool (decide p)))) (ht : p → AW P C x Q s) (hf : ¬ p → AW P C y Q s) : AW P C (.cond c x y) Q s :=
  AW.cond hc (fun h => ht (of_decide_eq_true h)) (fun h => hf (of_decide_eq_false h))
/-- A state that says less. -/
theorem AW.conv {c : Code} {t : St} (h : ∀ f a w, Rel C s (From s.n) f a w → ∃ f', Rel C t (From t.n) f' a w) (ht : AW P C c Q t) : AW P C c Q s := by
  intro f a w hr
  obtain ⟨f', h1⟩ := h f a w hr
  exact ht f' a w h1
/-- A loop: I tells the state at the head of each round, and how many rounds there are at most. -/
theorem AW.loop {c : Code} (I : Nat → St → Prop) {m : Nat} (h0 : I m s) (round : ∀ m s, I m s → AW P C c (Q.then (fun s => ∃ m', m' < m ∧ I m' s)) s) : AW P C (.loop c) Q s := by
  intro f a w hr
  let J : Nat → Act → World → Prop := fun m a w => At C (I m) a w
  have key : ∀ (a : Act) (w : World), (∃ m, J m a w) → ∃ m, J m a w ∧ ∀ m', J m' a w → m ≤ m' := by
    rintro a w ⟨m, hm⟩
    induction m using Nat.strongRecOn with
    | _ m ih =>
      by_cases h : ∃ m', m' < m ∧ J m' a w
      · obtain ⟨m', h1, h2⟩ := h
        exact ih m' h1 h2
      · exact ⟨m, hm, fun m' h' => Nat.le_of_not_lt (fun hlt => h ⟨m', hlt, h'⟩)⟩
  refine wp_loop (fun a w => ∃ m, J m a w) (fun a w => open Classical in if h : ∃ m, J m a w then Classical.choose (key a w h) else 0) ⟨m, s, f, h0, hr⟩ ?_
  intro a w hJ
  have hm := Classical.choose_spec (key a w hJ)
  generalize hmm : Classical.choose (key a w hJ) = m1 at hm
  obtain ⟨⟨s1, f1, hI, hr1⟩, hmin⟩ := hm
  refine wp_mono (round m1 s1 hI f1 a w hr1) ?_
  intro e a' w' hh
  cases e with
  | normal =>
    obtain ⟨s2, f2, ⟨m', hlt, hI2⟩, hr2⟩ := hh
    have hJ2 : ∃ m, J m a' w' := ⟨m', s2, f2, hI2, hr2⟩
    refine ⟨hJ2, ?_⟩
    show (open Classical in if h : ∃ m, J m a' w' then Classical.choose (key a' w' h) else 0) < (open Classical in if h : ∃ m, J m a w then Classical.choose (key a w h) else 0)
    rw [dif_pos hJ2, dif_pos hJ, hmm]
    have := (Classical.choose_spec (key a' w' hJ2)).2 m' ⟨s2, f2, hI2, hr2⟩
    omega
  | exit id => exact hh
  | goto l => exact hh
  | ret => exact hh
  | panic ch => exact hh
  | outgrown => exact hh
end
end Go.Abs
namespace Go.Abs
open Go.RowKit

/-- What an operation looks at: slots, objects, and objects of which it needs a fact alone. -/
structure FP where
  es : List Nat
  hs : List Nat
  sf : List (Nat × (Reg → Prop))
structure Eff where
  v : Option A
  hs : List (Nat × Reg)
  m : Nat
def puts (hs : List (Nat × Reg)) (h : Nat → Reg) : Nat → Reg := match hs with
  | [] => h
  | kr :: t => hput kr.1 kr.2 (puts t h)
def putd (d : Option Nat) (v : Option A) (e : Nat → Option A) : Nat → Option A := match d with
  | some d => put d v e
  | none => e
def Eff.app (d : Option Nat) (E : Eff) (s : St) : St := ⟨putd d E.v s.e, puts E.hs s.h, s.n + E.m⟩
def Agree (fp : FP) (s s' : St) : Prop := (∀ i ∈ fp.es, s.e i = s'.e i) ∧ (∀ k ∈ fp.hs, s.h k = s'.h k)
structure TE where
  fp : FP
  d : Option Nat
  E : Eff
  n0 : Nat
def TE.app (t : TE) (s : St) : St := t.E.app t.d s
def TE.we (t : TE) : List Nat := t.d.toList
def TE.wh (t : TE) : List Nat := t.E.hs.map (·.1)
def TE.rng (t : TE) (k : Nat) : Prop := t.n0 ≤ k ∧ k < t.n0 + t.E.m

/-- The facts that t needs. -/
def SoftAt (t : TE) (s : St) : Prop := ∀ x, x ∈ t.fp.sf → x.2 (s.h x.1)
/-- Operation number i, in each state that is like s0 where t looks, leads on as t tells. -/
def WStep (P : Program) (C : Ctx) (ops : Array Oper) (Qp : List PanicEntry → Prop) (i : Nat) (t : TE) (s0 : St) : Prop :=
  SoftAt t s0 ∧ ∀ s fr f a w, Agree t.fp s s0 → SoftAt t s → (∀ k, t.rng k → fr k) → Rel C s fr f a w →
    ∀ Q : Exit → Act → World → Prop, (∀ ch a w, Pan C Qp ch a w → Q (.panic ch) a w) →
    wpOp P ops Q i (fun a' w' => ∃ f', Rel C (t.app s) (fun k => fr k ∧ ¬ t.rng k) f' a' w') a w

def run : List TE → (Nat → Bool) → Nat → St → St
  | [], _, _, s => s
  | t :: ts, L, i, s => run ts L (i + 1) (bif L i then t.app s else s)
theorem run_append (L : Nat → Bool) : ∀ (T U : List TE) (i : Nat) (s : St), run (T ++ U) L i s = run U L (i + T.length) (run T L i s)
  | [], U, i, s => by simp [run]
  | t :: T, U, i, s => by simp only [List.cons_append, run, run_append L T U, List.length_cons]; congr 1; omega
theorem run_congr {L L' : Nat → Bool} : ∀ (T : List TE) (i : Nat) (s : St), (∀ j, i ≤ j → j < i + T.length → L j = L' j) → run T L i s = run T L' i s
  | [], _, _, _ => rfl
  | t :: T, i, s, h => by
    simp only [run, List.length_cons] at h ⊢
    rw [h i (by omega) (by omega)]
    exact run_congr T (i + 1) _ (fun j h1 h2 => h j (by omega) (by omega))

def disj (a b : List Nat) : Bool := a.all fun x => b.all fun y => !Nat.beq x y
theorem disj_ne {a b : List Nat} (h : disj a b = true) {x y : Nat} (hx : x ∈ a) (hy : y ∈ b) : x ≠ y := by
  have h1 := List.all_eq_true.1 h x hx
  have h2 := List.all_eq_true.1 h1 y hy
  intro e
  subst e
  simp at h2
theorem putd_ne {d : Option Nat} {v : Option A} {e : Nat → Option A} {i : Nat} (h : i ∉ d.toList) : putd d v e i = e i := by
  cases d with
  | none => rfl
  | some d => exact put_ne _ _ (fun hh => h (by simp [hh]))
theorem puts_ne {hs : List (Nat × Reg)} {h : Nat → Reg} {k : Nat} (hn : k ∉ hs.map (·.1)) : puts hs h k = h k := by
  induction hs with
  | nil => rfl
  | cons x t ih =>
    simp only [List.map_cons, List.mem_cons, not_or] at hn
    simp only [puts]
    rw [hput_ne _ _ hn.1, ih hn.2]
theorem puts_eq {hs : List (Nat × Reg)} {h h' : Nat → Reg} {k : Nat} (hh : k ∈ hs.map (·.1) ∨ h k = h' k) : puts hs h k = puts hs h' k := by
  induction hs with
  | nil => simpa [puts] using hh
  | cons x t ih =>
    simp only [puts]
    by_cases hk : k = x.1
    · subst hk; rw [hput_same, hput_same]
    · rw [hput_ne _ _ hk, hput_ne _ _ hk]
      refine ih ?_
      rcases hh with hh | hh
      · simp only [List.map_cons, List.mem_cons] at hh
        exact .inl (hh.resolve_left hk)
      · exact .inr hh
theorem putd_eq {d : Option Nat} {v : Option A} {e e' : Nat → Option A} {i : Nat} (hh : i ∈ d.toList ∨ e i = e' i) : putd d v e i = putd d v e' i := by
  cases d with
  | none => simpa [putd] using hh
  | some d =>
    simp only [putd]
    by_cases hi : i = d
    · subst hi; rw [put_same, put_same]
    · rw [put_ne _ _ hi, put_ne _ _ hi]
      rcases hh with hh | hh
      · simp at hh; exact absurd hh hi
      · exact hh
theorem app_comm {t u : TE} (s : St) (h1 : disj t.we u.we = true) (h2 : disj t.wh u.wh = true) : t.app (u.app s) = u.app (t.app s) := by
  simp only [TE.app, Eff.app, St.mk.injEq]
  refine ⟨funext fun i => ?_, funext fun k => ?_, by omega⟩
  · by_cases hi : i ∈ t.we
    · have hn : i ∉ u.we := fun hh => disj_ne h1 hi hh rfl
      rw [putd_ne (d := u.d) hn]
      exact putd_eq (.inl hi)
    · rw [putd_ne (d := t.d) hi]
      by_cases hu : i ∈ u.we
      · exact putd_eq (.inl hu)
      · rw [putd_ne (d := u.d) hu, putd_ne (d := u.d) hu, putd_ne (d := t.d) hi]
  · by_cases hi : k ∈ t.wh
    · have hn : k ∉ u.wh := fun hh => disj_ne h2 hi hh rfl
      rw [puts_ne (hs := u.E.hs) hn]
      exact puts_eq (.inl hi)
    · rw [puts_ne (hs := t.E.hs) hi]
      by_cases hu : k ∈ u.wh
      · exact puts_eq (.inl hu)
      · rw [puts_ne (hs := u.E.hs) hu, puts_ne (hs := u.E.hs) hu, puts_ne (hs := t.E.hs) hi]

/-- t, earlier, and u, later, do not touch each other. -/
def apart (t u : TE) : Bool := disj t.we u.fp.es && disj t.we u.we && disj t.wh u.fp.hs && disj t.wh u.wh && disj u.we t.fp.es && disj u.wh t.fp.hs
structure Apart (t u : TE) : Prop where
  a : disj t.we u.fp.es = true
  b : disj t.we u.we = true
  c : disj t.wh u.fp.hs = true
  d : disj t.wh u.wh = true
  e : disj u.we t.fp.es = true
  f : disj u.wh t.fp.hs = true
theorem Apart.of {t u : TE} (h : apart t u = true) : Apart t u := by
  simp only [apart, Bool.and_eq_true] at h
  exact ⟨h.1.1.1.1.1, h.1.1.1.1.2, h.1.1.1.2, h.1.1.2, h.1.2, h.2⟩
theorem disj_symm {a b : List Nat} (h : disj a b = true) : disj b a = true := by
  unfold disj
  rw [List.all_eq_true]
  intro x hx
  rw [List.all_eq_true]
  intro y hy
  have := disj_ne h hy hx
  rw [beqF (fun e => this e.symm)]; rfl

theorem Agree.refl (fp : FP) (s : St) : Agree fp s s := ⟨fun _ _ => rfl, fun _ _ => rfl⟩
theorem Agree.trans {fp : FP} {a b c : St} (h : Agree fp a b) (k : Agree fp b c) : Agree fp a c := ⟨fun i hi => (h.1 i hi).trans (k.1 i hi), fun i hi => (h.2 i hi).trans (k.2 i hi)⟩
theorem Agree.app {fp : FP} {s s' : St} (t : TE) (h : Agree fp s s') : Agree fp (t.app s) (t.app s') :=
  ⟨fun i hi => putd_eq (.inr (h.1 i hi)), fun k hk => puts_eq (.inr (h.2 k hk))⟩
theorem Agree.appR {fp : FP} {s s' : St} (t : TE) (h : Agree fp s s') (h1 : disj t.we fp.es = true) (h2 : disj t.wh fp.hs = true) : Agree fp s (t.app s') :=
  ⟨fun i hi => (h.1 i hi).trans (putd_ne (fun hh => disj_ne h1 hh hi rfl)).symm, fun k hk => (h.2 k hk).trans (puts_ne (fun hh => disj_ne h2 hh hk rfl)).symm⟩
theorem Agree.appL {fp : FP} {s s' : St} (t : TE) (h : Agree fp s s') (h1 : disj t.we fp.es = true) (h2 : disj t.wh fp.hs = true) : Agree fp (t.app s) s' :=
  ⟨fun i hi => (putd_ne (fun hh => disj_ne h1 hh hi rfl)).trans (h.1 i hi), fun k hk => (puts_ne (fun hh => disj_ne h2 hh hk rfl)).trans (h.2 k hk)⟩
theorem agree_pre {fp : FP} {L : Nat → Bool} : ∀ (T : List TE) (i : Nat) (s s' : St), Agree fp s s' → (∀ j t, T[j]? = some t → L (i + j) = false → disj t.we fp.es = true ∧ disj t.wh fp.hs = true) →
    Agree fp (run T L i s) (run T (fun _ => true) i s')
  | [], _, _, _, h, _ => h
  | t :: T, i, s, s', h, hd => by
    simp only [run]
    refine agree_pre T (i + 1) _ _ ?_ (fun j u hj hL => hd (j + 1) u (by simpa using hj) (by rw [show i + (j + 1) = i + 1 + j from by omega]; exact hL))
    cases hL : L i with
    | true => exact h.app t
    | false => obtain ⟨h1, h2⟩ := hd 0 t (by simp) (by simpa using hL); exact h.appR t h1 h2
theorem agree_post {fp : FP} {L : Nat → Bool} : ∀ (T : List TE) (i : Nat) (s s' : St), Agree fp s s' → (∀ j t, T[j]? = some t → L (i + j) = true → disj t.we fp.es = true ∧ disj t.wh fp.hs = true) →
    Agree fp (run T L i s) s'
  | [], _, _, _, h, _ => h
  | t :: T, i, s, s', h, hd => by
    simp only [run]
    refine agree_post T (i + 1) _ _ ?_ (fun j u hj hL => hd (j + 1) u (by simpa using hj) (by rw [show i + (j + 1) = i + 1 + j from by omega]; exact hL))
    cases hL : L i with
    | false => exact h
    | true => obtain ⟨h1, h2⟩ := hd 0 t (by simp) (by simpa using hL); exact h.appL t h1 h2
theorem comm_post {t : TE} {L : Nat → Bool} : ∀ (T : List TE) (i : Nat) (s : St), (∀ j u, T[j]? = some u → L (i + j) = true → disj t.we u.we = true ∧ disj t.wh u.wh = true) →
    run T L i (t.app s) = t.app (run T L i s)
  | [], _, _, _ => rfl
  | u :: T, i, s, hd => by
    simp only [run]
    rw [← comm_post T (i + 1) _ (fun j v hj hL => hd (j + 1) v (by simpa using hj) (by rw [show i + (j + 1) = i + 1 + j from by omega]; exact hL))]
    congr 1
    cases hL : L i with
    | false => rfl
    | true => obtain ⟨h1, h2⟩ := hd 0 u (by simp) (by simpa using hL); exact (app_comm s h1 h2).symm

/-- The trace of the operations, the last one first. -/
inductive Tr (P : Program) (C : Ctx) (ops : Array Oper) (Qp : List PanicEntry → Prop) (s0 : St) : List TE → St → Prop
  | nil : Tr P C ops Qp s0 [] s0
  | snoc (tr : List TE) (s : St) (t : TE) : Tr P C ops Qp s0 tr s → t.n0 = s.n → WStep P C ops Qp tr.length t s → Tr P C ops Qp s0 (t :: tr) (t.app s)
theorem run_n : ∀ (T : List TE) (L : Nat → Bool) (i : Nat) (s : St), s.n ≤ (run T L i s).n
  | [], _, _, s => Nat.le_refl _
  | t :: T, L, i, s => by
    simp only [run]
    refine Nat.le_trans ?_ (run_n T L (i + 1) _)
    cases L i <;> simp [TE.app, Eff.app]
section
variable {P : Program} {C : Ctx} {ops : Array Oper} {Qp : List PanicEntry → Prop} {s0 : St}
theorem Tr.spec {tr : List TE} {s : St} (h : Tr P C ops Qp s0 tr s) : run tr.reverse (fun _ => true) 0 s0 = s ∧
    ∀ i t, tr.reverse[i]? = some t → WStep P C ops Qp i t (run (tr.reverse.take i) (fun _ => true) 0 s0) ∧ t.n0 = (run (tr.reverse.take i) (fun _ => true) 0 s0).n := by
  induction h with
  | nil => exact ⟨rfl, fun i t hi => by simp at hi⟩
  | snoc tr s t h1 h2 h3 ih =>
    obtain ⟨ih1, ih2⟩ := ih
    refine ⟨by rw [List.reverse_cons, run_append, ih1]; rfl, fun i u hi => ?_⟩
    rw [List.reverse_cons] at hi ⊢
    by_cases hlt : i < tr.length
    · rw [List.getElem?_append_left (by simpa using hlt)] at hi
      rw [List.take_append_of_le_length (by simpa using Nat.le_of_lt hlt)]
      exact ih2 i u hi
    · rw [List.getElem?_append_right (by simpa using Nat.le_of_not_lt hlt)] at hi
      have hi0 : i - tr.reverse.length = 0 := by
        rcases Nat.eq_zero_or_pos (i - tr.reverse.length) with h | h
        · exact h
        · rw [List.getElem?_eq_none (by simp at h ⊢; omega)] at hi; cases hi
      have hie : i = tr.length := by simp at hi0; omega
      rw [hi0] at hi
      simp at hi
      subst hi hie
      rw [List.take_append_of_le_length (by simp), List.take_of_length_le (by simp), ih1]
      exact ⟨h3, h2⟩

def pre (ops : Array Oper) (j : Nat) : List Nat := match ops[j]? with
  | none => []
  | some o => (o.after.toList.filter (Region.binds .any)).map (·.on)
def masksTo (ops : Array Oper) : Nat → List Nat
  | 0 => []
  | j + 1 => let acc := masksTo ops j; acc ++ [(pre ops j).foldl (fun s x => s ||| 2 ^ x ||| acc.getD x 0) 0]
theorem masksTo_length (ops : Array Oper) (j : Nat) : (masksTo ops j).length = j := by
  induction j with
  | zero => rfl
  | succ j ih => simp [masksTo, ih]
theorem fold_bit (acc : List Nat) : ∀ (l : List Nat) (s i : Nat), (l.foldl (fun s x => s ||| 2 ^ x ||| acc.getD x 0) s).testBit i = true → s.testBit i = true ∨ ∃ x ∈ l, i = x ∨ (acc.getD x 0).testBit i = true
  | [], s, i, h => .inl h
  | x :: l, s, i, h => by
    rw [List.foldl_cons] at h
    rcases fold_bit acc l _ i h with h1 | ⟨y, h1, h2⟩
    · simp only [Nat.testBit_or, Bool.or_eq_true] at h1
      rcases h1 with (h1 | h1) | h1
      · exact .inl h1
      · refine .inr ⟨x, by simp, .inl ?_⟩
        rw [Nat.testBit_two_pow] at h1
        exact (of_decide_eq_true h1).symm
      · exact .inr ⟨x, by simp, .inr h1⟩
    · exact .inr ⟨y, by simp [h1], h2⟩
/-- Each operation that is listed has all that it waits for listed. -/
def Closed (ops : Array Oper) (L : Nat → Bool) : Prop := ∀ j, L j = true → ∀ x ∈ pre ops j, L x = true
theorem masks_spec {L : Nat → Bool} (hc : Closed ops L) : ∀ (n j : Nat), j < n → (∀ x ∈ pre ops j, L x = true) → ∀ i, ((masksTo ops n).getD j 0).testBit i = true → L i = true := by
  intro n
  induction n with
  | zero => intro j h; omega
  | succ n ih =>
    intro j hj hp i hb
    have hl := masksTo_length ops n
    simp only [masksTo] at hb
    by_cases hjn : j < n
    · rw [List.getD_eq_getElem?_getD, List.getElem?_append_left (by omega), ← List.getD_eq_getElem?_getD] at hb
      exact ih j hjn hp i hb
    · obtain rfl : j = n := by omega
      rw [List.getD_eq_getElem?_getD, List.getElem?_append_right (by omega), hl] at hb
      simp only [Nat.sub_self, List.getElem?_cons_zero, Option.getD_some] at hb
      rcases fold_bit _ _ _ _ hb with h1 | ⟨x, h1, h2⟩
      · simp at h1
      · rcases h2 with rfl | h2
        · exact hp _ h1
        · by_cases hx : x < j
          · exact ih x hx (hc x (hp x h1)) i h2
          · rw [List.getD_eq_getElem?_getD, List.getElem?_eq_none (by omega)] at h2
            simp at h2
/-- Two operations touch each other only where one waits for the other. -/
def cfreeS (ops : Array Oper) (T : List TE) : Bool :=
  let ms := masksTo ops ops.size
  (List.range ops.size).all fun j => (pre ops j).all (fun x => Nat.blt x j) && (match T[j]? with
    | none => false
    | some u => (List.range j).all fun i => (ms.getD j 0).testBit i || (match T[i]? with | none => false | some t => apart t u))
/-- .. and no facts are needed. -/
def cfree (ops : Array Oper) (T : List TE) : Bool := cfreeS ops T && T.all (fun t => t.fp.sf.isEmpty)
structure CFree (ops : Array Oper) (T : List TE) : Prop where
  ahead : ∀ j, j < ops.size → ∀ x ∈ pre ops j, x < j
  there : ∀ j, j < ops.size → ∃ u, T[j]? = some u
  sep : ∀ i j t u, i < j → j < ops.size → T[i]? = some t → T[j]? = some u → ((masksTo ops ops.size).getD j 0).testBit i = true ∨ Apart t u
theorem CFree.of {T : List TE} (h : cfreeS ops T = true) : CFree ops T := by
  unfold cfreeS at h
  have h1 : ∀ j, j < ops.size → _ := fun j hj => List.all_eq_true.1 h j (List.mem_range.2 hj)
  refine ⟨fun j hj x hx => ?_, fun j hj => ?_, fun i j t u hij hj ht hu => ?_⟩
  · have h2 := (Bool.and_eq_true_iff.1 (h1 j hj)).1
    have := List.all_eq_true.1 h2 x hx
    exact Nat.le_of_ble_eq_true this
  · have h2 := (Bool.and_eq_true_iff.1 (h1 j hj)).2
    cases hT : T[j]? with
    | none => rw [hT] at h2; cases h2
    | some u => exact ⟨u, rfl⟩
  · have h2 := (Bool.and_eq_true_iff.1 (h1 j hj)).2
    rw [hu] at h2
    have h3 := List.all_eq_true.1 h2 i (List.mem_range.2 hij)
    rw [ht] at h3
    rcases Bool.or_eq_true_iff.1 h3 with h4 | h4
    · exact .inl h4
    · exact .inr (.of h4)
end
/-- The state when the operations that L names have been carried out. -/
def mid (T : List TE) (L : Nat → Bool) (s0 : St) : St := run T L 0 s0
def midFr (T : List TE) (L : Nat → Bool) (s0 : St) : Nat → Prop := fun k => s0.n ≤ k ∧ ∀ i t, T[i]? = some t → L i = true → ¬ t.rng k
theorem run_take_succ {T : List TE} {j : Nat} {t : TE} (L : Nat → Bool) (s : St) (h : T[j]? = some t) : run (T.take (j + 1)) L 0 s = (bif L j then t.app (run (T.take j) L 0 s) else run (T.take j) L 0 s) := by
  obtain ⟨hlt, rfl⟩ := List.getElem?_eq_some_iff.1 h
  rw [List.take_succ_eq_append_getElem hlt, run_append, List.length_take, Nat.min_eq_left (by omega)]
  simp [run]
theorem run_split {T : List TE} (j : Nat) (hj : j ≤ T.length) (L : Nat → Bool) (s : St) : run T L 0 s = run (T.drop j) L j (run (T.take j) L 0 s) := by
  conv => lhs; rw [← List.take_append_drop j T]
  rw [run_append, List.length_take, Nat.min_eq_left hj, Nat.zero_add]
section
variable {P : Program} {C : Ctx} {ops : Array Oper} {Qp : List PanicEntry → Prop} {s0 : St}
theorem n0_mono {T : List TE} (hn : ∀ i t, T[i]? = some t → t.n0 = (run (T.take i) (fun _ => true) 0 s0).n) {i j : Nat} {t u : TE} (hij : i < j) (ht : T[i]? = some t) (hu : T[j]? = some u) : t.n0 + t.E.m ≤ u.n0 := by
  rw [hn j u hu, hn i t ht]
  have h1 := run_take_succ (fun _ => true) s0 ht
  have h2 : (run (T.take (i + 1)) (fun _ => true) 0 s0).n = (run (T.take i) (fun _ => true) 0 s0).n + t.E.m := by rw [h1]; rfl
  rw [← h2]
  have hjl : j < T.length := (List.getElem?_eq_some_iff.1 hu).1
  have h3 := run_split (T := T.take j) (i + 1) (by rw [List.length_take]; omega) (fun _ => true) s0
  rw [List.take_take, Nat.min_eq_left (by omega)] at h3
  rw [h3]
  exact run_n _ _ _ _
/-- What is written keeps a fact. -/
inductive SoftE (x : Nat × (Reg → Prop)) : List (Nat × Reg) → Prop
  | nil : SoftE x []
  | ne {k : Nat} {r : Reg} {l : List (Nat × Reg)} : Nat.beq k x.1 = false → SoftE x l → SoftE x ((k, r) :: l)
  | eq {k : Nat} {r : Reg} {l : List (Nat × Reg)} : x.2 r → SoftE x l → SoftE x ((k, r) :: l)
/-- Each operation, from number i on, keeps a fact that operation j needs, or waits for j. -/
inductive SoftT (ops : Array Oper) (j : Nat) (x : Nat × (Reg → Prop)) : Nat → List TE → Prop
  | nil (i : Nat) : SoftT ops j x i []
  | late {i : Nat} {t : TE} {l : List TE} : ((masksTo ops ops.size).getD i 0).testBit j = true → SoftT ops j x (i + 1) l → SoftT ops j x i (t :: l)
  | cons {i : Nat} {t : TE} {l : List TE} : SoftE x t.E.hs → SoftT ops j x (i + 1) l → SoftT ops j x i (t :: l)
inductive SoftX (ops : Array Oper) (T : List TE) (s0 : St) (j : Nat) : List (Nat × (Reg → Prop)) → Prop
  | nil : SoftX ops T s0 j []
  | cons {x : Nat × (Reg → Prop)} {l : List (Nat × (Reg → Prop))} : x.2 (s0.h x.1) → SoftT ops j x 0 T → SoftX ops T s0 j l → SoftX ops T s0 j (x :: l)
inductive SoftU (ops : Array Oper) (T : List TE) (s0 : St) : Nat → List TE → Prop
  | nil (j : Nat) : SoftU ops T s0 j []
  | cons {j : Nat} {u : TE} {l : List TE} : SoftX ops T s0 j u.fp.sf → SoftU ops T s0 (j + 1) l → SoftU ops T s0 j (u :: l)
theorem SoftX.mem {T : List TE} {j : Nat} {l : List (Nat × (Reg → Prop))} (h : SoftX ops T s0 j l) : ∀ x, x ∈ l → x.2 (s0.h x.1) ∧ SoftT ops j x 0 T := by
  induction h with
  | nil => intro x hx; cases hx
  | cons h1 h2 _ ih =>
    intro x hx
    rcases List.mem_cons.1 hx with rfl | hx
    · exact ⟨h1, h2⟩
    · exact ih x hx
theorem SoftU.get {T : List TE} {j0 : Nat} {l : List TE} (h : SoftU ops T s0 j0 l) : ∀ j u, l[j]? = some u → SoftX ops T s0 (j0 + j) u.fp.sf := by
  induction h with
  | nil j0 => intro j u hu; simp at hu
  | cons h1 _ ih =>
    intro j u hu
    cases j with
    | zero => simp at hu; subst hu; exact h1
    | succ j => simp at hu; have := ih j u hu; rw [Nat.add_assoc, Nat.add_comm 1 j] at this; exact this
theorem SoftE.puts {x : Nat × (Reg → Prop)} {l : List (Nat × Reg)} (h : SoftE x l) {hh : Nat → Reg} (h0 : x.2 (hh x.1)) : x.2 (Go.Abs.puts l hh x.1) := by
  induction h with
  | nil => exact h0
  | @ne k r l h1 _ ih =>
    simp only [Go.Abs.puts]
    rw [hput_ne _ _ (fun e => by rw [e] at h1; simp at h1)]; exact ih
  | @eq k r l h1 _ ih =>
    simp only [Go.Abs.puts]
    by_cases e : x.1 = k
    · subst e; rw [hput_same]; exact h1
    · rw [hput_ne _ _ e]; exact ih
theorem SoftT.run {L : Nat → Bool} (hc : Closed ops L) {j : Nat} (hL : L j = false) {x : Nat × (Reg → Prop)} : ∀ {i : Nat} {T : List TE}, SoftT ops j x i T → i + T.length = ops.size → ∀ s : St, x.2 (s.h x.1) → x.2 ((Go.Abs.run T L i s).h x.1)
  | _, _, .nil i, _, s, h => h
  | i, t :: T, .late h1 h2, hl, s, h => by
    simp only [List.length_cons] at hl
    simp only [Go.Abs.run]
    have hLi : L i = false := by
      cases hh : L i with
      | false => rfl
      | true =>
        have := masks_spec hc ops.size i (by omega) (hc i hh) j h1
        rw [this] at hL; cases hL
    rw [hLi, cond_false]
    exact h2.run hc hL (by omega) s h
  | i, t :: T, .cons h1 h2, hl, s, h => by
    simp only [List.length_cons] at hl
    simp only [Go.Abs.run]
    refine h2.run hc hL (by omega) _ ?_
    cases L i with
    | false => exact h
    | true => exact h1.puts h
/-- One more operation, whichever comes up. -/
theorem mid_step {T : List TE} (hT : CFree ops T) (hsf : SoftU ops T s0 0 T) (hlen : T.length = ops.size)
    (hS : ∀ i t, T[i]? = some t → WStep P C ops Qp i t (run (T.take i) (fun _ => true) 0 s0) ∧ t.n0 = (run (T.take i) (fun _ => true) 0 s0).n)
    {L : Nat → Bool} (hc : Closed ops L) {j : Nat} (hj : j < ops.size) (hL : L j = false) (hp : ∀ x ∈ pre ops j, L x = true) {f : Pl} {a : Act} {w : World}
    (hr : Rel C (mid T L s0) (midFr T L s0) f a w) {Q : Exit → Act → World → Prop} (hQ : ∀ ch a w, Pan C Qp ch a w → Q (.panic ch) a w) :
    wpOp P ops Q j (fun a' w' => ∃ f', Rel C (mid T (fun i => Nat.beq i j || L i) s0) (midFr T (fun i => Nat.beq i j || L i) s0) f' a' w') a w := by
  obtain ⟨u, hu⟩ := hT.there j hj
  obtain ⟨hW, hn⟩ := hS j u hu
  have hjl : j < T.length := by omega
  have early : ∀ i t, i < j → T[i]? = some t → L i = false → Apart t u := by
    intro i t hi ht hLi
    rcases hT.sep i j t u hi hj ht hu with h | h
    · have := masks_spec hc ops.size j hj hp i h
      rw [this] at hLi; cases hLi
    · exact h
  have late : ∀ i t, j < i → T[i]? = some t → L i = true → Apart u t := by
    intro i t hi ht hLi
    have hil : i < ops.size := by have := (List.getElem?_eq_some_iff.1 ht).1; omega
    rcases hT.sep j i u t hi hil hu ht with h | h
    · have := masks_spec hc ops.size i hil (hc i hLi) j h
      rw [this] at hL; cases hL
    · exact h
  have hdrop : T.drop j = u :: T.drop (j + 1) := by
    obtain ⟨_, rfl⟩ := List.getElem?_eq_some_iff.1 hu
    exact List.drop_eq_getElem_cons hjl
  have m1 : mid T L s0 = run (T.drop (j + 1)) L (j + 1) (run (T.take j) L 0 s0) := by
    unfold mid
    rw [run_split j (by omega), hdrop]
    simp only [run, hL, cond_false]
  have m2 : mid T (fun i => Nat.beq i j || L i) s0 = u.app (mid T L s0) := by
    have h1 : run (T.take j) (fun i => Nat.beq i j || L i) 0 s0 = run (T.take j) L 0 s0 := run_congr _ _ _ (fun i h1 h2 => by
      rw [List.length_take] at h2
      simp only [beqF (show i ≠ j by omega), Bool.false_or])
    have h2 : ∀ s, run (T.drop (j + 1)) (fun i => Nat.beq i j || L i) (j + 1) s = run (T.drop (j + 1)) L (j + 1) s := fun s => run_congr _ _ _ (fun i h1 h2 => by
      simp only [beqF (show i ≠ j by omega), Bool.false_or])
    rw [m1]
    unfold mid
    rw [run_split j (by omega), hdrop, h1]
    simp only [run, Nat.beq_refl, Bool.true_or, cond_true]
    rw [h2]
    refine comm_post _ _ _ (fun i t hi hLi => ?_)
    rw [List.getElem?_drop] at hi
    have := late (j + 1 + i) t (by omega) hi hLi
    exact ⟨this.b, this.d⟩
  have ag : Agree u.fp (mid T L s0) (run (T.take j) (fun _ => true) 0 s0) := by
    rw [m1]
    refine agree_post _ _ _ _ (agree_pre _ _ _ _ (Agree.refl _ _) (fun i t hi hLi => ?_)) (fun i t hi hLi => ?_)
    · have hij : i < j := by
        have := (List.getElem?_eq_some_iff.1 hi).1
        rw [List.length_take] at this; omega
      rw [List.getElem?_take_of_lt hij] at hi
      rw [Nat.zero_add] at hLi
      have := early i t hij hi hLi
      exact ⟨this.a, this.c⟩
    · rw [List.getElem?_drop] at hi
      have := late (j + 1 + i) t (by omega) hi hLi
      exact ⟨this.e, this.f⟩
  have hfr : ∀ k, u.rng k → midFr T L s0 k := by
    intro k ⟨hk1, hk2⟩
    refine ⟨?_, fun i t ht hLi hk => ?_⟩
    · rw [hn] at hk1
      exact Nat.le_trans (run_n _ _ _ _) hk1
    · have hne : i ≠ j := fun e => by subst e; rw [hL] at hLi; cases hLi
      rcases Nat.lt_or_gt_of_ne hne with h | h
      · have := n0_mono (fun i t h => (hS i t h).2) h ht hu
        have := hk.2
        omega
      · have := n0_mono (fun i t h => (hS i t h).2) h hu ht
        have := hk.1
        omega
  rw [m2]
  have hsoft : SoftAt u (mid T L s0) := fun x hx => by
    obtain ⟨h1, h2⟩ := (by have := hsf.get j u hu; rw [Nat.zero_add] at this; exact this : SoftX ops T s0 j u.fp.sf).mem x hx
    exact h2.run hc hL (by omega) s0 h1
  refine wpOp_mono ?_ (hW.2 _ _ f a w ag hsoft hfr hr Q hQ)
  rintro a' w' ⟨f', hr'⟩
  refine ⟨f', { hr' with fr := fun k hk => hr'.fr k ⟨⟨hk.1, fun i t ht hLi => hk.2 i t ht (by simp [hLi])⟩, fun hu' => hk.2 j u hu (by simp) hu'⟩ }⟩

theorem mem_ready {L : Array Bool} {i : Nat} : i ∈ Region.ready .any ops L ↔ i < ops.size ∧ L.getD i true = false ∧ ∀ x ∈ pre ops i, L.getD x false = true := by
  unfold Region.ready
  rw [List.mem_filter, List.mem_range]
  constructor
  · rintro ⟨h1, h2⟩
    rw [Bool.and_eq_true] at h2
    obtain ⟨h2, h3⟩ := h2
    refine ⟨h1, by simpa using h2, ?_⟩
    intro x hx
    unfold pre at hx
    have ho : ops[i]? = some ops[i] := Array.getElem?_eq_getElem h1
    rw [ho] at hx h3
    simp only [Option.map_some, Option.getD_some] at h3
    obtain ⟨e, he, rfl⟩ := List.mem_map.1 hx
    rw [List.mem_filter] at he
    have := Array.all_eq_true_iff_forall_mem.1 h3 e (Array.mem_toList_iff.1 he.1)
    rw [he.2] at this
    simpa using this
  · rintro ⟨h1, h2, h3⟩
    refine ⟨h1, ?_⟩
    rw [Bool.and_eq_true]
    refine ⟨by simpa using h2, ?_⟩
    have ho : ops[i]? = some ops[i] := Array.getElem?_eq_getElem h1
    rw [ho]
    simp only [Option.map_some, Option.getD_some]
    rw [Array.all_eq_true_iff_forall_mem]
    intro e he
    cases hb : Region.binds .any e with
    | false => rfl
    | true =>
      have := h3 e.on (by unfold pre; rw [ho]; exact List.mem_map.2 ⟨e, List.mem_filter.2 ⟨Array.mem_toList_iff.2 he, hb⟩, rfl⟩)
      simpa using this
theorem getD_set_bool (L : Array Bool) (i j : Nat) (d : Bool) (hi : i < L.size) : (L.setIfInBounds i true).getD j d = (if j = i then true else L.getD j d) := by
  by_cases h : j = i
  · subst h
    rw [if_pos rfl, Array.getD_eq_getD_getElem?, Array.getElem?_setIfInBounds_self_of_lt hi]; rfl
  · rw [if_neg h, Array.getD_eq_getD_getElem?, Array.getD_eq_getD_getElem?, Array.getElem?_setIfInBounds_ne (fun e => h e.symm)]
/-- No order of the operations makes a difference. -/
theorem any_orderS {tr : List TE} {s : St} (hTr : Tr P C ops Qp s0 tr s) (hlen : tr.length = ops.size) (hcf : cfreeS ops tr.reverse = true) (hsf : SoftU ops tr.reverse s0 0 tr.reverse)
    {Q : Exit → Act → World → Prop} (hQ : ∀ ch a w, Pan C Qp ch a w → Q (.panic ch) a w) (hQn : ∀ f a w, Rel C s (From s.n) f a w → Q .normal a w)
    {f : Pl} {a : Act} {w : World} (hr : Rel C s0 (From s0.n) f a w) :
    wpAny P .any ops Q ops.size (Array.replicate ops.size false) a w := by
  obtain ⟨hend, hS⟩ := hTr.spec
  have hT := CFree.of hcf
  have hl : tr.reverse.length = ops.size := by simpa using hlen
  generalize tr.reverse = T at hend hS hT hl hsf
  have key : ∀ (fuel : Nat) (L : Array Bool), L.size = ops.size → (List.range ops.size).countP (fun i => !L.getD i true) ≤ fuel → Closed ops (fun i => L.getD i false) →
      ∀ a w, (∃ f, Rel C (mid T (fun i => L.getD i false) s0) (midFr T (fun i => L.getD i false) s0) f a w) → wpAny P .any ops Q fuel L a w := by
    have dd : ∀ (L : Array Bool), L.size = ops.size → ∀ i, i < ops.size → L.getD i true = L.getD i false := by
      intro L hL i hi
      rw [Array.getD_eq_getD_getElem?, Array.getD_eq_getD_getElem?, Array.getElem?_eq_getElem (by omega)]; rfl
    have stuck : ∀ (L : Array Bool), L.size = ops.size → Region.ready .any ops L = [] → ∀ i, i < ops.size → L.getD i false = true := by
      intro L hL he i
      induction i using Nat.strongRecOn with
      | _ i ih =>
        intro hi
        cases h : L.getD i false with
        | true => rfl
        | false =>
          have : i ∈ Region.ready .any ops L := mem_ready.2 ⟨hi, by rw [dd L hL i hi]; exact h, fun x hx => by
            have hx1 := hT.ahead i hi x hx
            exact ih x hx1 (by omega)⟩
          rw [he] at this; cases this
    have fin : ∀ (L : Array Bool), L.size = ops.size → Region.ready .any ops L = [] → ∀ a w, (∃ f, Rel C (mid T (fun i => L.getD i false) s0) (midFr T (fun i => L.getD i false) s0) f a w) → Q .normal a w := by
      rintro L hL he a w ⟨f, hr⟩
      have hall := stuck L hL he
      have e1 : mid T (fun i => L.getD i false) s0 = s := by
        rw [← hend]
        exact run_congr _ _ _ (fun i _ hi => hall i (by omega))
      rw [e1] at hr
      refine hQn f a w { hr with fr := fun k hk => hr.fr k ⟨?_, fun i t ht _ hk2 => ?_⟩ }
      · have := run_n T (fun _ => true) 0 s0
        rw [hend] at this
        exact Nat.le_trans this hk
      · have h1 := run_take_succ (fun _ => true) s0 ht
        have h2 : (run (T.take (i + 1)) (fun _ => true) 0 s0).n = t.n0 + t.E.m := by rw [h1, (hS i t ht).2]; rfl
        have hil := (List.getElem?_eq_some_iff.1 ht).1
        have h3 := run_split (T := T) (i + 1) (by omega) (fun _ => true) s0
        have h4 := run_n (T.drop (i + 1)) (fun _ => true) (i + 1) (run (T.take (i + 1)) (fun _ => true) 0 s0)
        rw [← h3, hend, h2] at h4
        have := hk2.2
        have hk' : s.n ≤ k := hk
        omega
    intro fuel
    induction fuel with
    | zero =>
      intro L hL hcount hc a w hI
      have he : Region.ready .any ops L = [] := by
        cases hr : Region.ready .any ops L with
        | nil => rfl
        | cons i l =>
          have hi : i ∈ Region.ready .any ops L := by rw [hr]; simp
          obtain ⟨h1, h2, _⟩ := mem_ready.1 hi
          have : 0 < (List.range ops.size).countP (fun i => !L.getD i true) := List.countP_pos_iff.2 ⟨i, List.mem_range.2 h1, by rw [h2]; rfl⟩
          omega
      exact ⟨he, fin L hL he a w hI⟩
    | succ fuel ih =>
      intro L hL hcount hc a w hI
      refine ⟨fun he => fin L hL he a w hI, fun i hi => ?_⟩
      obtain ⟨h1, h2, h3⟩ := mem_ready.1 hi
      obtain ⟨f, hr⟩ := hI
      refine wpOp_mono ?_ (mid_step hT hsf hl hS hc h1 (by rw [← dd L hL i h1]; exact h2) h3 hr hQ)
      intro a' w' hI'
      have e1 : (fun j => (L.setIfInBounds i true).getD j false) = fun j => Nat.beq j i || L.getD j false := by
        funext j
        rw [getD_set_bool L i j false (by omega)]
        by_cases hj : j = i
        · subst hj; simp
        · rw [if_neg hj, beqF hj]; rfl
      refine ih _ (by simpa using hL) ?_ ?_ a' w' ?_
      · have : (List.range ops.size).countP (fun j => !(L.setIfInBounds i true).getD j true) < (List.range ops.size).countP (fun j => !L.getD j true) := by
          have hlt : ∀ (l : List Nat), i ∈ l → l.Nodup → l.countP (fun j => !(L.setIfInBounds i true).getD j true) < l.countP (fun j => !L.getD j true) := by
            intro l
            induction l with
            | nil => intro h; cases h
            | cons x l ihl =>
              intro hm hnd
              have hnd' := List.nodup_cons.1 hnd
              rw [List.countP_cons, List.countP_cons]
              by_cases hx : x = i
              · subst hx
                have e2 : l.countP (fun j => !(L.setIfInBounds x true).getD j true) = l.countP (fun j => !L.getD j true) := by
                  refine List.countP_congr (fun j hj => ?_)
                  rw [getD_set_bool L x j true (by omega), if_neg (show j ≠ x from fun e => hnd'.1 (by rw [← e]; exact hj))]
                rw [e2, getD_set_bool L x x true (by omega), if_pos rfl, h2]
                simp
              · have := ihl (by simpa [Ne.symm hx] using hm) hnd'.2
                rw [getD_set_bool L i x true (by omega), if_neg hx]
                omega
          exact hlt _ (List.mem_range.2 h1) List.nodup_range
        omega
      · rw [e1]
        intro j hj x hx
        simp only [Bool.or_eq_true] at hj ⊢
        rcases hj with hj | hj
        · obtain rfl := Nat.eq_of_beq_eq_true hj
          exact .inr (h3 x hx)
        · exact .inr (hc j hj x hx)
      · rw [e1]; exact hI'
  refine key ops.size _ (by simp) ?_ ?_ a w ⟨f, ?_⟩
  · refine Nat.le_trans List.countP_le_length ?_
    simp
  · intro j hj
    have hj' : (Array.replicate ops.size false).getD j false = true := hj
    rw [Array.getD_eq_getD_getElem?] at hj'
    by_cases h : j < ops.size <;> simp [h] at hj'
  · have e1 : (fun i => (Array.replicate ops.size false).getD i false) = fun _ => false := by
      funext i
      rw [Array.getD_eq_getD_getElem?]
      by_cases h : i < ops.size <;> simp [h]
    rw [e1]
    have e2 : ∀ (T : List TE) (i : Nat) (s : St), run T (fun _ => false) i s = s := by
      intro T
      induction T with
      | nil => intro i s; rfl
      | cons t T ih => intro i s; simp only [run, cond_false]; exact ih _ _
    unfold mid
    rw [e2]
    exact { hr with fr := fun k hk => hr.fr k hk.1 }
theorem SoftU.none {T : List TE} {s0 : St} : ∀ {j : Nat} {l : List TE}, l.all (fun t => t.fp.sf.isEmpty) = true → SoftU ops T s0 j l
  | j, [], _ => .nil j
  | j, u :: l, h => by
    rw [List.all_cons, Bool.and_eq_true] at h
    refine .cons ?_ (SoftU.none h.2)
    cases e : u.fp.sf with
    | nil => exact .nil
    | cons x xs => rw [e] at h; cases h.1
theorem any_order {tr : List TE} {s : St} (hTr : Tr P C ops Qp s0 tr s) (hlen : tr.length = ops.size) (hcf : cfree ops tr.reverse = true)
    {Q : Exit → Act → World → Prop} (hQ : ∀ ch a w, Pan C Qp ch a w → Q (.panic ch) a w) (hQn : ∀ f a w, Rel C s (From s.n) f a w → Q .normal a w)
    {f : Pl} {a : Act} {w : World} (hr : Rel C s0 (From s0.n) f a w) :
    wpAny P .any ops Q ops.size (Array.replicate ops.size false) a w := by
  unfold cfree at hcf
  rw [Bool.and_eq_true] at hcf
  exact any_orderS hTr hlen hcf.1 (SoftU.none hcf.2) hQ hQn hr
/-- The operations in the text's order. -/
theorem text_order {tr : List TE} {s : St} (hTr : Tr P C ops Qp s0 tr s) (hlen : tr.length = ops.size)
    {Q : Exit → Act → World → Prop} (hQ : ∀ ch a w, Pan C Qp ch a w → Q (.panic ch) a w) (hQn : ∀ f a w, Rel C s (From s.n) f a w → Q .normal a w)
    {f : Pl} {a : Act} {w : World} (hr : Rel C s0 (From s0.n) f a w) : wpOps P ops Q (List.range ops.size) a w := by
  have key : ∀ (tr : List TE) (s : St), Tr P C ops Qp s0 tr s → ∀ (rest : List Nat), (∀ f a w, Rel C s (From s.n) f a w → wpOps P ops Q rest a w) → wpOps P ops Q (List.range tr.length ++ rest) a w := by
    intro tr s h
    induction h with
    | nil => intro rest hk; exact hk f a w hr
    | snoc tr s t h1 h2 h3 ih =>
      intro rest hk
      rw [List.length_cons, List.range_succ, List.append_assoc]
      refine ih _ (fun f a w hr => ?_)
      rw [List.singleton_append, wpOps_cons]
      refine wpOp_mono ?_ (h3.2 s (From s.n) f a w (Agree.refl _ _) h3.1 (fun k hk => by rw [← h2]; exact hk.1) hr Q hQ)
      rintro a' w' ⟨f', hr'⟩
      refine hk f' a' w' { hr' with fr := fun k hk => hr'.fr k ⟨?_, fun hh => ?_⟩ }
      · have : s.n + t.E.m ≤ k := hk
        exact Nat.le_trans (Nat.le_add_right _ _) this
      · have h5 : s.n + t.E.m ≤ k := hk
        have := hh.2
        omega
  have := key tr s hTr [] (fun f a w hr => by simp only [wpOps]; exact hQn f a w hr)
  rwa [List.append_nil, hlen] at this
end
end Go.Abs
namespace Go.Abs
open Go.RowKit

inductive TK where
  | bool
  | int (k : IntKind)
  | string
  | ptr
  | slice (e : Nat)
  | array (n e : Nat)
  | struct (pl : List (Nat × Nat)) (ag : List Bool)
  | func
  | iface
  | other
structure TI where
  k : TK
  size : Nat
  bytes : Nat
  agg : Bool
  zero : List A
def aggD : TypeDesc → Bool
  | .struct _ | .array _ _ => true
  | _ => false
def kindOf (P : Program) (u : TypeDesc) : TK := match u with
  | .bool => .bool
  | .int k => .int k
  | .string => .string
  | .pointer _ => .ptr
  | .slice e => .slice e
  | .array n e => .array n e
  | .struct fs => match fs.toList.mapM (fun f => (P.info? f.type).map fun i => (f.offset, i.size)), fs.toList.mapM (fun f => (P.underlying f.type).map aggD) with
    | some pl, some ag => .struct pl ag
    | _, _ => .other
  | .func _ _ _ => .func
  | .interface _ => .iface
  | _ => .other
def TIof (P : Program) (t : TypeId) : Option TI := match P.info? t, P.underlying t with
  | some i, some u => match i.zero with
    | some z => some ⟨kindOf P u, i.size, i.bytes, aggD u, z.cells.toList.map A.val⟩
    | none => none
  | _, _ => none
def look : List (Nat × TI) → Nat → Option TI
  | [], _ => none
  | (u, ti) :: l, t => bif Nat.beq t u then some ti else look l t
/-- The table tells the program's types. -/
def TOk (P : Program) (L : List (Nat × TI)) : Prop := ∀ t ti, look L t = some ti → TIof P t = some ti
theorem TOk.of {P : Program} : ∀ {L : List (Nat × TI)}, L.map (fun p => TIof P p.1) = L.map (fun p => some p.2) → TOk P L
  | [], _ => fun t ti h => by simp [look] at h
  | (u, x) :: L, h => fun t ti ht => by
    simp only [List.map_cons, List.cons.injEq] at h
    simp only [look] at ht
    cases hb : Nat.beq t u with
    | true =>
      rw [hb] at ht
      obtain rfl := Nat.eq_of_beq_eq_true hb
      simp only [cond_true, Option.some.injEq] at ht
      rw [← ht]; exact h.1
    | false => rw [hb] at ht; exact TOk.of h.2 t ti ht

section
variable {P : Program} {t : TypeId} {ti : TI}
theorem TIof.spec (h : TIof P t = some ti) : ∃ i u z, P.info? t = some i ∧ P.underlying t = some u ∧ i.zero = some z ∧ ti.k = kindOf P u ∧ ti.size = i.size ∧ ti.bytes = i.bytes ∧ ti.agg = aggD u ∧ ti.zero = z.cells.toList.map A.val := by
  unfold TIof at h
  split at h
  · rename_i i u hi hu
    split at h
    · rename_i z hz
      simp only [Option.some.injEq] at h
      subst h
      exact ⟨i, u, z, hi, hu, hz, rfl, rfl, rfl, rfl, rfl⟩
    · cases h
  · cases h
theorem TIof.size (h : TIof P t = some ti) (w : World) : (sizeOf t).run P w = .ok ti.size w := by
  obtain ⟨i, u, z, h1, h2, h3, h4, h5, h6, h7, h8⟩ := TIof.spec h
  simp [sizeOf, typeInfo, program, Sem.run, bind, Sem.bind, h1, h5, pure]
theorem TIof.bytes (h : TIof P t = some ti) (w : World) : ∃ i, (typeInfo t).run P w = .ok i w ∧ i.bytes = ti.bytes ∧ i.size = ti.size := by
  obtain ⟨i, u, z, h1, h2, h3, h4, h5, h6, h7, h8⟩ := TIof.spec h
  exact ⟨i, by simp [typeInfo, program, Sem.run, bind, Sem.bind, h1, pure], h6.symm, h5.symm⟩
theorem TIof.agg (h : TIof P t = some ti) (w : World) : (isAgg t).run P w = .ok ti.agg w := by
  obtain ⟨i, u, z, h1, h2, h3, h4, h5, h6, h7, h8⟩ := TIof.spec h
  rw [h7]
  cases u <;> simp [isAgg, underlying, program, Sem.run, bind, Sem.bind, h2, pure, aggD]
theorem TIof.und (h : TIof P t = some ti) : ∃ u, P.underlying t = some u ∧ ti.k = kindOf P u ∧ ∀ w, (underlying t).run P w = .ok u w := by
  obtain ⟨i, u, z, h1, h2, h3, h4, h5, h6, h7, h8⟩ := TIof.spec h
  exact ⟨u, h2, h4, fun w => by simp [underlying, program, Sem.run, bind, Sem.bind, h2, pure]⟩
theorem TIof.zero (h : TIof P t = some ti) (w : World) : ∃ z, (zeroValue t).run P w = .ok z w ∧ ti.zero = z.cells.toList.map A.val := by
  obtain ⟨i, u, z, h1, h2, h3, h4, h5, h6, h7, h8⟩ := TIof.spec h
  exact ⟨z, by simp [zeroValue, typeInfo, program, Sem.run, bind, Sem.bind, h1, h3, pure], h8⟩
theorem kindOf_slice {u : TypeDesc} {e : Nat} (h : kindOf P u = .slice e) : u = .slice e := by
  cases u <;> simp only [kindOf, reduceCtorEq] at h <;> first | (simp at h; subst h; rfl) | (split at h <;> cases h)
theorem kindOf_array {u : TypeDesc} {n e : Nat} (h : kindOf P u = .array n e) : u = .array n e := by
  cases u <;> simp only [kindOf, reduceCtorEq] at h <;> first | (simp at h; obtain ⟨rfl, rfl⟩ := h; rfl) | (split at h <;> cases h)
theorem kindOf_int {u : TypeDesc} {k : IntKind} (h : kindOf P u = .int k) : u = .int k := by
  cases u <;> simp only [kindOf, reduceCtorEq] at h <;> first | (simp at h; subst h; rfl) | (split at h <;> cases h)
theorem kindOf_bool {u : TypeDesc} (h : kindOf P u = .bool) : u = .bool := by
  cases u <;> simp only [kindOf, reduceCtorEq] at h <;> first | rfl | (split at h <;> cases h)
theorem kindOf_string {u : TypeDesc} (h : kindOf P u = .string) : u = .string := by
  cases u <;> simp only [kindOf, reduceCtorEq] at h <;> first | rfl | (split at h <;> cases h)
theorem kindOf_ptr {u : TypeDesc} (h : kindOf P u = .ptr) : ∃ e, u = .pointer e := by
  cases u <;> simp only [kindOf, reduceCtorEq] at h <;> first | exact ⟨_, rfl⟩ | (split at h <;> cases h)
theorem kindOf_struct {u : TypeDesc} {pl : List (Nat × Nat)} {ag : List Bool} (h : kindOf P u = .struct pl ag) : ∃ gs, u = .struct gs ∧
    gs.toList.mapM (fun f => (P.info? f.type).map fun i => (f.offset, i.size)) = some pl ∧ gs.toList.mapM (fun f => (P.underlying f.type).map aggD) = some ag := by
  cases u <;> simp only [kindOf, reduceCtorEq] at h
  rename_i gs
  refine ⟨gs, rfl, ?_⟩
  split at h
  · rename_i pl' ag' h1 h2
    simp only [TK.struct.injEq] at h
    obtain ⟨rfl, rfl⟩ := h
    exact ⟨h1, h2⟩
  · cases h
theorem kindOf_iface {u : TypeDesc} (h : kindOf P u ≠ .iface) : ∀ ms, u ≠ .interface ms := by
  rintro ms rfl
  exact h rfl
end

/-! ### What the operations make of a state -/
/-- A value that fits one cell. -/
def A.cell : A → Bool
  | .val u => u.oneCell'
  | .ro _ _ | .sl _ _ _ _ _ | .ptr _ _ _ | .rp _ | .fn _ _ _ | .ifc _ _ => true
  | .any | .agg _ | .tup _ => false
def cellsA : A → Option (List A)
  | .agg l => bif l.all A.cell then some l else none
  | .val u => bif u.oneCell' then some [.val u] else none
  | .any => none
  | .tup _ => none
  | a => some [a]
/-- The first n of a list, if there are so many. -/
def ldO : Nat → List A → Option (List A)
  | 0, _ => some []
  | _ + 1, [] => none
  | n + 1, x :: xs => match ldO n xs with
    | some r => some (x :: r)
    | none => none
def dropO : Nat → List A → Option (List A)
  | 0, l => some l
  | _ + 1, [] => none
  | n + 1, _ :: xs => dropO n xs
/-- xs laid over a list from place i on. -/
def stO : List A → Nat → List A → Option (List A)
  | l, 0, [] => some l
  | [], 0, _ :: _ => none
  | _ :: l, 0, x :: xs => match stO l 0 xs with
    | some r => some (x :: r)
    | none => none
  | [], _ + 1, _ => none
  | a :: l, i + 1, xs => match stO l i xs with
    | some r => some (a :: r)
    | none => none
def packA (agg : Bool) (l : List A) : Option A := match agg, l with
  | true, l => some (.agg l)
  | false, [x] => some x
  | false, _ => none
theorem ldO_spec : ∀ {n : Nat} {l r : List A}, ldO n l = some r → r = l.take n ∧ n ≤ l.length
  | 0, l, r, h => by simp [ldO] at h; subst h; simp
  | n + 1, [], r, h => by simp [ldO] at h
  | n + 1, x :: xs, r, h => by
    simp only [ldO] at h
    split at h
    · rename_i r' hr
      obtain ⟨h1, h2⟩ := ldO_spec hr
      simp at h; subst h; subst h1; simpa using h2
    · cases h
theorem dropO_spec : ∀ {n : Nat} {l r : List A}, dropO n l = some r → r = l.drop n ∧ n ≤ l.length
  | 0, l, r, h => by simp [dropO] at h; subst h; simp
  | n + 1, [], r, h => by simp [dropO] at h
  | n + 1, x :: xs, r, h => by
    simp only [dropO] at h
    obtain ⟨h1, h2⟩ := dropO_spec h
    subst h1; simpa using h2
theorem stO_spec : ∀ {l : List A} {i : Nat} {xs r : List A}, stO l i xs = some r → r = l.take i ++ xs ++ l.drop (i + xs.length) ∧ i + xs.length ≤ l.length
  | l, 0, [], r, h => by simp [stO] at h; subst h; simp
  | [], 0, _ :: _, r, h => by simp [stO] at h
  | a :: l, 0, x :: xs, r, h => by
    simp only [stO] at h
    split at h
    · rename_i r' hr
      obtain ⟨h1, h2⟩ := stO_spec hr
      simp at h h1; subst h; subst h1
      simp; simpa using h2
    · cases h
  | [], i + 1, xs, r, h => by simp [stO] at h
  | a :: l, i + 1, xs, r, h => by
    simp only [stO] at h
    split at h
    · rename_i r' hr
      obtain ⟨h1, h2⟩ := stO_spec hr
      simp at h; subst h; subst h1
      rw [show i + 1 + xs.length = (i + xs.length) + 1 from by omega]
      simpa using h2
    · cases h

section
variable {f : Pl} {X : Nat → Prop} {w : World}
theorem V.cell {a : A} {v : Value} (h : V f X w a v) (hc : a.cell = true) : v.oneCell' = true := by
  cases a with
  | any => simp [A.cell] at hc
  | val u => rw [h.val]; exact hc
  | ro n l => simp only [V] at h; obtain ⟨a, cap, rfl, _⟩ := h; rfl
  | sl k p st off n => simp only [V] at h; rcases h with ⟨_, _, _, rfl⟩ | ⟨b, cap, _, rfl, _⟩ <;> rfl
  | ptr k p off => simp only [V] at h; obtain ⟨b, _, rfl⟩ := h; rfl
  | rp l => simp only [V] at h; obtain ⟨q, rfl, _⟩ := h; rfl
  | agg l => simp [A.cell] at hc
  | tup l => simp [A.cell] at hc
  | fn g a b => simp only [V] at h; obtain ⟨_, _, rfl, _⟩ := h; rfl
  | ifc t a => simp only [V] at h; obtain ⟨_, rfl, _⟩ := h; rfl
theorem VL.cell : ∀ {l : List A} {vs : List Value}, VL f X w l vs → l.all A.cell = true → ∀ v ∈ vs, v.oneCell' = true
  | [], vs, h, _, v, hv => by rw [VL.unnil h] at hv; cases hv
  | x :: xs, vs, h, hc, v, hv => by
    obtain ⟨u, t, rfl, h2, h3⟩ := h.uncons
    rw [List.all_cons, Bool.and_eq_true] at hc
    rcases List.mem_cons.1 hv with rfl | hv
    · exact h2.cell hc.1
    · exact VL.cell h3 hc.2 v hv
theorem cells_one {v : Value} (h : v.oneCell' = true) : v.cells = #[v] := by
  cases v <;> first | rfl | (simp [Value.oneCell'] at h)
theorem cellsA_spec {a : A} {v : Value} {l : List A} (h : V f X w a v) (hl : cellsA a = some l) : VL f X w l v.cells.toList ∧ ∀ u ∈ v.cells.toList, u.oneCell' = true := by
  have one : ∀ {a : A} {v : Value}, V f X w a v → a.cell = true → VL f X w [a] v.cells.toList ∧ ∀ u ∈ v.cells.toList, u.oneCell' = true := by
    intro a v h hc
    have h1 := h.cell hc
    rw [cells_one h1]
    exact ⟨VL.cons h VL.nil, fun u hu => by simp at hu; subst hu; exact h1⟩
  cases a with
  | any => simp [cellsA] at hl
  | val u =>
    simp only [cellsA] at hl
    cases hu : u.oneCell' with
    | false => rw [hu] at hl; simp at hl
    | true => rw [hu] at hl; simp at hl; subst hl; exact one h hu
  | agg m =>
    simp only [cellsA] at hl
    cases hu : m.all A.cell with
    | false => rw [hu] at hl; simp at hl
    | true =>
      rw [hu] at hl; simp at hl; subst hl
      simp only [V] at h
      obtain ⟨vs, rfl, h2⟩ := h
      exact ⟨by simpa [Value.cells] using h2, by simpa [Value.cells] using h2.cell hu⟩
  | tup l => simp [cellsA] at hl
  | ro n l => simp [cellsA] at hl; subst hl; exact one h rfl
  | sl k p st off n => simp [cellsA] at hl; subst hl; exact one h rfl
  | ptr k p off => simp [cellsA] at hl; subst hl; exact one h rfl
  | rp l => simp [cellsA] at hl; subst hl; exact one h rfl
  | fn g a b => simp [cellsA] at hl; subst hl; exact one h rfl
  | ifc t a => simp [cellsA] at hl; subst hl; exact one h rfl
theorem packA_spec {agg : Bool} {l : List A} {vs : List Value} {a : A} (h : VL f X w l vs) (hp : packA agg l = some a) : ∃ v, V f X w a v ∧ ((agg = true ∧ v = .agg vs.toArray) ∨ (agg = false ∧ vs = [v])) := by
  cases agg with
  | true =>
    simp [packA] at hp; subst hp
    exact ⟨.agg vs.toArray, by simp only [V]; exact ⟨vs, rfl, h⟩, .inl ⟨rfl, rfl⟩⟩
  | false =>
    match l, hp with
    | [x], hp =>
      simp [packA] at hp; subst hp
      obtain ⟨v, t, rfl, h2, h3⟩ := h.uncons
      rw [h3.unnil]
      exact ⟨v, h2, .inr ⟨rfl, rfl⟩⟩
    | [], hp => simp [packA] at hp
    | _ :: _ :: _, hp => simp [packA] at hp
end

/-! ### How the relation goes on -/
section
variable {C : Ctx} {s : St} {fr : Nat → Prop} {f : Pl} {a : Act} {w : World}
theorem Rel.drew (h : Rel C s fr f a w) : Rel C s fr f a w.drew :=
  { h with
    e := fun i v hv => (h.e i v hv).mono (Ext.refl f) (fun _ _ h => h) (Kp.drew (fun _ => False) w) (fun _ _ h => h.elim)
    h := fun k p c hc => by
      rcases h.h k p c hc with h0 | ⟨b, arr, el, h1, h2, h3, h4⟩
      · exact .inl h0
      exact .inr ⟨b, arr, el, h1, h2, h3, h4.mono (Ext.refl f) (fun _ _ h => h) (Kp.drew (fun _ => False) w) (fun _ _ h => h.elim)⟩
    kp := h.kp.trans (Kp.drew _ w) }
theorem Live.mono {h h' : Nat → Reg} {f : Pl} {b : Nat} (hh : ∀ k p, (h k).get p ≠ none → (h' k).get p ≠ none) (hl : Live h f b) : Live h' f b := by
  obtain ⟨k, p, h1, h2⟩ := hl
  exact ⟨k, p, hh k p h1, h2⟩
theorem getD_put (a : Act) (d i : Nat) (v : Value) (hd : d < a.tmps.size) : (a.put (some d) v).tmps.getD i undef = (if i = d then v else a.tmps.getD i undef) := by
  simp only [Act.put]
  by_cases h : i = d
  · subst h
    rw [if_pos rfl, Array.getD_eq_getD_getElem?, Array.getElem?_setIfInBounds_self_of_lt hd]; rfl
  · rw [if_neg h, Array.getD_eq_getD_getElem?, Array.getD_eq_getD_getElem?, Array.getElem?_setIfInBounds_ne (fun e => h e.symm)]
theorem put_size (a : Act) (d : Option Nat) (v : Value) : (a.put d v).tmps.size = a.tmps.size := by cases d <;> simp [Act.put]
theorem put_defers (a : Act) (d : Option Nat) (v : Value) : (a.put d v).defers = a.defers := by cases d <;> rfl
/-- Whether a slot is there. -/
def dOk (C : Ctx) (d : Option Nat) : Bool := match d with
  | none => true
  | some d => Nat.blt d C.N && (C.T d).isNone
/-- A slot is written: with a value that is told, or with one that is not. -/
theorem Rel.put (h : Rel C s fr f a w) {d : Option Nat} (hd : dOk C d = true) {o : Option A} {v : Value} (hv : ∀ x, o = some x → V f (C.X s.h f) w x v) :
    Rel C ⟨putd d o s.e, s.h, s.n⟩ fr f (a.put d v) w := by
  refine { h with N := by rw [put_size]; exact h.N, defers := ⟨by rw [put_defers]; exact h.defers.1, fun i x hx => ?_⟩, e := fun i x hx => ?_ }
  · cases d with
    | none => exact h.defers.2 i x hx
    | some d =>
      simp only [dOk, Bool.and_eq_true] at hd
      have hlt : d < a.tmps.size := by rw [h.N]; exact Nat.le_of_ble_eq_true hd.1
      have hi : i ≠ d := by
        rintro rfl
        rw [hx] at hd
        exact absurd hd.2 (by simp)
      rw [getD_put a d i v hlt, if_neg hi]
      exact h.defers.2 i x hx
  cases d with
  | none => exact h.e i x hx
  | some d =>
    simp only [dOk, Bool.and_eq_true] at hd
    have hlt : d < a.tmps.size := by rw [h.N]; exact Nat.le_of_ble_eq_true hd.1
    rw [getD_put a d i v hlt]
    simp only [putd] at hx
    by_cases hi : i = d
    · subst hi
      rw [put_same] at hx
      rw [if_pos rfl]
      exact hv x hx
    · rw [put_ne _ _ hi] at hx
      rw [if_neg hi]
      exact h.e i x hx
def newPl (f : Pl) (n0 : Nat) (b : Option Nat) : Pl := fun k p => if k = n0 ∧ p = [] then some b else f k p
/-- A new object. -/
theorem Rel.newOne (h : Rel C s fr f a w) {n0 : Nat} (hn : fr n0) (c : List A) (arr : Array Value) (el : TypeId) (hc : c.length ≤ arr.size) (hv : VL f (C.X s.h f) w c (arr.toList.take c.length)) :
    Rel C ⟨s.e, hput n0 (.one c) s.h, s.n⟩ (fun k => fr k ∧ k ≠ n0) (newPl f n0 (some w.heap.size)) a (w.alloc (.cells arr el (0, 0))) ∧ Ext f (newPl f n0 (some w.heap.size)) := by
  have hext : Ext f (newPl f n0 (some w.heap.size)) := by
    intro k p b hb
    unfold newPl
    rw [if_neg (fun hh => by rw [hh.1, h.fr n0 hn] at hb; cases hb)]
    exact hb
  have hnew : ∀ k p b, newPl f n0 (some w.heap.size) k p = some (some b) → (k = n0 ∧ p = [] ∧ b = w.heap.size) ∨ (k ≠ n0 ∧ f k p = some (some b)) := by
    intro k p b hb
    unfold newPl at hb
    by_cases hk : k = n0 ∧ p = []
    · rw [if_pos hk] at hb
      exact .inl ⟨hk.1, hk.2, by simpa using hb.symm⟩
    · rw [if_neg hk] at hb
      refine .inr ⟨fun e => ?_, hb⟩
      subst e
      rw [h.fr k hn] at hb; cases hb
  have lt : ∀ k p b, (s.h k).get p ≠ none → f k p = some (some b) → b < w.heap.size := by
    intro k p b hk hb
    obtain ⟨c', hc'⟩ := Option.ne_none_iff_exists'.1 hk
    rcases h.h k p c' hc' with ⟨_, h1⟩ | ⟨b', arr', el', h1, h2, _⟩
    · rw [hb] at h1; cases h1
    rw [hb] at h1
    obtain rfl := Option.some.inj (Option.some.inj h1)
    exact (Array.getElem?_eq_some_iff.1 h2).1
  have hX : ∀ b, b < w.heap.size → C.X (hput n0 (.one c) s.h) (newPl f n0 (some w.heap.size)) b → C.X s.h f b := by
    rintro b hb (⟨k, p, h1, h2⟩ | hy)
    · rcases hnew k p b h2 with ⟨_, _, rfl⟩ | ⟨hk, h3⟩
      · omega
      · rw [hput_ne _ _ hk] at h1
        exact .inl ⟨k, p, h1, h3⟩
    · exact .inr hy
  have hkp : Kp (fun _ => False) w (w.alloc (.cells arr el (0, 0))) := Kp.alloc _ _ _
  have mono : ∀ x v, V f (C.X s.h f) w x v → V (newPl f n0 (some w.heap.size)) (C.X (hput n0 (.one c) s.h) (newPl f n0 (some w.heap.size))) (w.alloc (.cells arr el (0, 0))) x v :=
    fun x v => V.mono hext hX hkp (fun _ _ h => h.elim) x v
  have monoL : ∀ x v, VL f (C.X s.h f) w x v → VL (newPl f n0 (some w.heap.size)) (C.X (hput n0 (.one c) s.h) (newPl f n0 (some w.heap.size))) (w.alloc (.cells arr el (0, 0))) x v :=
    fun x v => VL.mono hext hX hkp (fun _ _ h => h.elim) x v
  refine ⟨{ N := h.N, defers := h.defers, e := fun i x hx => mono _ _ (h.e i x hx), h := fun k p c' hc' => ?_, inj := ?_, kp := h.kp.trans (Kp.alloc _ _ _), new := ?_, y := h.y, fr := ?_, ext := h.ext.trans hext, dom := h.dom }, hext⟩
  · dsimp only at hc'
    by_cases hk : k = n0
    · subst hk
      rw [hput_same] at hc'
      cases p with
      | cons x p => simp [Reg.get] at hc'
      | nil =>
        simp only [Reg.get, Option.some.injEq] at hc'
        subst hc'
        refine .inr ⟨w.heap.size, arr, el, by simp [newPl], ?_, hc, monoL _ _ hv⟩
        show (w.heap.push _)[w.heap.size]? = _
        simp
    · rw [hput_ne _ _ hk] at hc'
      rcases h.h k p c' hc' with ⟨h0, h1⟩ | ⟨b, arr', el', h1, h2, h3, h4⟩
      · exact .inl ⟨h0, hext _ _ _ h1⟩
      have hb := (Array.getElem?_eq_some_iff.1 h2).1
      exact .inr ⟨b, arr', el', hext _ _ _ h1, by rw [Below.heap_alloc _ _ _ hb]; exact h2, h3, monoL _ _ h4⟩
  · intro k p k' p' b h1 h2 h3 h4
    dsimp only at h1 h2
    rcases hnew k p b h3 with ⟨rfl, rfl, rfl⟩ | ⟨hk, h5⟩ <;> rcases hnew k' p' _ h4 with ⟨rfl, rfl, h6⟩ | ⟨hk', h6⟩
    · exact ⟨rfl, rfl⟩
    · rw [hput_ne _ _ hk'] at h2
      have := lt k' p' _ h2 h6; omega
    · subst h6
      rw [hput_ne _ _ hk] at h1
      have := lt k p _ h1 h5; omega
    · rw [hput_ne _ _ hk] at h1
      rw [hput_ne _ _ hk'] at h2
      exact h.inj k p k' p' b h1 h2 h5 h6
  · rintro b ⟨k, p, h1, h2⟩
    dsimp only at h1
    rcases hnew k p b h2 with ⟨_, _, rfl⟩ | ⟨hk, h3⟩
    · exact .inl h.kp.size
    · rw [hput_ne _ _ hk] at h1
      exact h.new b ⟨k, p, h1, h3⟩
  · intro k hk p
    unfold newPl
    rw [if_neg (fun e => hk.2 e.1)]
    exact h.fr k hk.1 p
end
end Go.Abs
namespace Go.Abs
open Go.RowKit

def iv (k : IntKind) (n : Int) : A := .val (.int k n)
def bv (b : Bool) : A := .val (.bool b)
def asI : Option A → Option (IntKind × Int)
  | some (.val (.int k n)) => some (k, n)
  | _ => none
def intA (op : BinOp) (k : IntKind) (a b : Int) : Option (A × Prop) := match op with
  | .add => some (.val (.int k (k.wrap (a + b))), True)
  | .sub => some (.val (.int k (k.wrap (a - b))), True)
  | .mul => some (.val (.int k (k.wrap (a * b))), True)
  | .quo => some (.val (.int k (k.wrap (a.tdiv b))), b ≠ 0)
  | .rem => some (.val (.int k (a.tmod b)), b ≠ 0)
  | .and => some (.val (.int k (k.wrap (BitVec.ofInt k.bits a &&& BitVec.ofInt k.bits b).toNat)), True)
  | .or => some (.val (.int k (k.wrap (BitVec.ofInt k.bits a ||| BitVec.ofInt k.bits b).toNat)), True)
  | .xor => some (.val (.int k (k.wrap (BitVec.ofInt k.bits a ^^^ BitVec.ofInt k.bits b).toNat)), True)
  | .andNot => some (.val (.int k (k.wrap (BitVec.ofInt k.bits a &&& ~~~BitVec.ofInt k.bits b).toNat)), True)
  | .eql => some (.val (.bool (decide (a = b))), True)
  | .neq => some (.val (.bool (decide (a ≠ b))), True)
  | .lss => some (.val (.bool (decide (a < b))), True)
  | .leq => some (.val (.bool (decide (a ≤ b))), True)
  | .gtr => some (.val (.bool (decide (b < a))), True)
  | .geq => some (.val (.bool (decide (b ≤ a))), True)
  | .shl => none
  | .shr => none
def shA (op : BinOp) (k : IntKind) (a b : Int) : Option (A × Prop) := match op with
  | .shl => some (.val (.int k (k.wrap (a * 2 ^ min b.toNat k.bits))), 0 ≤ b)
  | .shr => some (.val (.int k (a.fdiv (2 ^ min b.toNat k.bits))), 0 ≤ b)
  | _ => none
def strA (op : BinOp) (a b : ByteArray) : Option (A × Prop) := match op with
  | .add => some (.val (.string (a ++ b)), a.size + b.size ≤ 9223372036854775807)
  | .eql => some (.val (.bool (a.toList == b.toList)), True)
  | .neq => some (.val (.bool (!(a.toList == b.toList))), True)
  | .lss => some (.val (.bool (Op.bytesLess a.toList b.toList)), True)
  | .leq => some (.val (.bool (Op.bytesLess a.toList b.toList || a.toList == b.toList)), True)
  | .gtr => some (.val (.bool (!(Op.bytesLess a.toList b.toList || a.toList == b.toList))), True)
  | .geq => some (.val (.bool (!Op.bytesLess a.toList b.toList)), True)
  | _ => none
def isShift : BinOp → Bool
  | .shl | .shr => true
  | _ => false
def eqR (op : BinOp) (b : Bool) : Option (A × Prop) := match op with
  | .eql => some (.val (.bool b), True)
  | .neq => some (.val (.bool (!b)), True)
  | _ => none
def binA (L : List (Nat × TI)) (op : BinOp) (t : TypeId) (x y : A) : Option (A × Prop) := match x, y with
  | .val (.int k a), .val (.int k' b) => bif isShift op then shA op k a b else (if k = k' then intA op k a b else none)
  | .val (.string a), .val (.string b) => strA op a b
  | .val (.bool a), .val (.bool b) => match look L t with
    | some ⟨.bool, _, _, _, _⟩ => eqR op (a == b)
    | _ => none
  | .sl _ _ _ _ (_ + 1), .val (.slice none 0 0) => match look L t with
    | some ⟨.slice _, _, _, _, _⟩ => eqR op false
    | _ => none
  | .val (.slice none 0 0), .val (.slice none 0 0) => match look L t with
    | some ⟨.slice _, _, _, _, _⟩ => eqR op true
    | _ => none
  | .ro _ (_ :: _), .val (.slice none 0 0) => match look L t with
    | some ⟨.slice _, _, _, _, _⟩ => eqR op false
    | _ => none
  | .ptr _ _ _, .val (.pointer none) => match look L t with
    | some ⟨.ptr, _, _, _, _⟩ => eqR op false
    | _ => none
  | .val (.pointer none), .val (.pointer none) => match look L t with
    | some ⟨.ptr, _, _, _, _⟩ => eqR op true
    | _ => none
  | _, _ => none

section
variable {P : Program} {L : List (Nat × TI)} {f : Pl} {X : Nat → Prop} {w : World}
theorem V.mkVal (v : Value) : V f X w (.val v) v := by simp only [V]
theorem intA_run {op : BinOp} {k : IntKind} {a b : Int} {r : A} {s : Prop} (t : TypeId) (h : intA op k a b = some (r, s)) (hs : s) : ∃ v, (binOp op t (.int k a) (.int k b)).run P w = .ok v w ∧ V f X w r v := by
  cases op <;> simp only [intA, Option.some.injEq, Prod.mk.injEq, reduceCtorEq] at h
  all_goals obtain ⟨rfl, rfl⟩ := h
  all_goals refine ⟨_, ?_, V.mkVal _⟩
  case quo => simp [binOp, Op.intDiv, hs]
  case rem => simp [binOp, Op.intDiv, hs]
  case eql => simp [binOp, Op.intCmp]; rfl
  case neq => simp [binOp, Op.intCmp, bne]; by_cases h : a = b <;> simp [h]
  all_goals simp [binOp, Op.intArith, Op.intBits, Op.intCmp]
theorem shA_run {op : BinOp} {k k' : IntKind} {a b : Int} {r : A} {s : Prop} (t : TypeId) (h : shA op k a b = some (r, s)) (hs : s) : ∃ v, (binOp op t (.int k a) (.int k' b)).run P w = .ok v w ∧ V f X w r v := by
  cases op <;> simp only [shA, Option.some.injEq, Prod.mk.injEq, reduceCtorEq] at h
  all_goals obtain ⟨rfl, rfl⟩ := h
  all_goals refine ⟨_, ?_, V.mkVal _⟩
  all_goals
    have hb : ¬ b < 0 := by omega
    simp [binOp, Op.shift, hb]
theorem strA_run {op : BinOp} {a b : ByteArray} {r : A} {s : Prop} (t : TypeId) (h : strA op a b = some (r, s)) (hs : s) : ∃ v, (binOp op t (.string a) (.string b)).run P w = .ok v w ∧ V f X w r v := by
  cases op <;> simp only [strA, Option.some.injEq, Prod.mk.injEq, reduceCtorEq] at h
  all_goals obtain ⟨rfl, rfl⟩ := h
  all_goals refine ⟨_, ?_, V.mkVal _⟩
  case add =>
    have h1 : ¬ (((a.size + b.size : Nat) : Int) > IntKind.i64.max) := by rw [show IntKind.i64.max = 9223372036854775807 from by decide]; omega
    simp only [binOp, Op.stringOp, h1, if_false]; rfl
  all_goals simp [binOp, Op.stringOp]
theorem eqR_run {op : BinOp} {t : TypeId} {x y : Value} {b : Bool} {r : A} {s : Prop} (he : (Op.equal t x y).run P w = .ok b w)
    (h1 : binOp .eql t x y = (do pure (.bool (← Op.equal t x y)))) (h2 : binOp .neq t x y = (do pure (.bool (!(← Op.equal t x y)))))
    (h : eqR op b = some (r, s)) : ∃ v, (binOp op t x y).run P w = .ok v w ∧ V f X w r v := by
  cases op <;> simp only [eqR, Option.some.injEq, Prod.mk.injEq, reduceCtorEq] at h
  all_goals obtain ⟨rfl, rfl⟩ := h
  all_goals refine ⟨_, ?_, V.mkVal _⟩
  · rw [h1]; simp [he, Result.andThen]
  · rw [h2]; simp [he, Result.andThen]
theorem look_kind (hT : TOk P L) {t : TypeId} {k : TK} {a b : Nat} {c : Bool} {z : List A} (h : look L t = some ⟨k, a, b, c, z⟩) : ∃ u, P.underlying t = some u ∧ kindOf P u = k ∧ ∀ w, (underlying t).run P w = .ok u w := by
  obtain ⟨u, h1, h2, h3⟩ := TIof.und (hT _ _ h)
  exact ⟨u, h1, h2.symm, h3⟩
theorem binA_run (hT : TOk P L) {op : BinOp} {t : TypeId} {x y r : A} {u v : Value} {s : Prop} (hx : V f X w x u) (hy : V f X w y v) (h : binA L op t x y = some (r, s)) (hs : s) :
    ∃ z, (binOp op t u v).run P w = .ok z w ∧ V f X w r z := by
  unfold binA at h
  split at h
  · have := hx.val; have := hy.val; subst u v
    rename_i k a k' b
    cases hsh : isShift op with
    | true => rw [hsh] at h; exact shA_run t h hs
    | false =>
      rw [hsh] at h
      simp only [cond_false] at h
      split at h
      · rename_i hk; subst hk; exact intA_run t h hs
      · cases h
  · have := hx.val; have := hy.val; subst u v
    exact strA_run t h hs
  · have := hx.val; have := hy.val; subst u v
    split at h
    · rename_i hl
      obtain ⟨d, h1, h2, h3⟩ := look_kind hT hl
      obtain rfl := kindOf_bool h2
      refine eqR_run ?_ rfl rfl h
      show (Op.equalIn (9999 + 1) t _ _).run P w = _
      rw [Op.equalIn]
      simp [Sem.run_bind, h3, Result.andThen]
    · cases h
  · have := hy.val; subst v
    simp only [V] at hx
    rcases hx with ⟨_, h0, _⟩ | ⟨b, cap, _, rfl, _⟩
    · cases h0
    split at h
    · rename_i hl
      obtain ⟨d, h1, h2, h3⟩ := look_kind hT hl
      obtain rfl := kindOf_slice h2
      refine eqR_run ?_ rfl rfl h
      show (Op.equalIn (9999 + 1) t _ _).run P w = _
      rw [Op.equalIn]
      simp [Sem.run_bind, h3, Result.andThen]
    · cases h
  · have := hx.val; have := hy.val; subst u v
    split at h
    · rename_i hl
      obtain ⟨d, h1, h2, h3⟩ := look_kind hT hl
      obtain rfl := kindOf_slice h2
      refine eqR_run ?_ rfl rfl h
      show (Op.equalIn (9999 + 1) t _ _).run P w = _
      rw [Op.equalIn]
      simp [Sem.run_bind, h3, Result.andThen]
    · cases h
  · have := hy.val; subst v
    simp only [V] at hx
    obtain ⟨a, cap, rfl, _, _, h4, _⟩ := hx
    cases a with
    | none => exact absurd (h4 rfl).2.2 (by simp)
    | some q =>
    split at h
    · rename_i hl
      obtain ⟨d, h1, h2, h3⟩ := look_kind hT hl
      obtain rfl := kindOf_slice h2
      refine eqR_run ?_ rfl rfl h
      show (Op.equalIn (9999 + 1) t _ _).run P w = _
      rw [Op.equalIn]
      simp [Sem.run_bind, h3, Result.andThen]
    · cases h
  · have := hy.val; subst v
    simp only [V] at hx
    obtain ⟨b, _, rfl⟩ := hx
    split at h
    · rename_i hl
      obtain ⟨d, h1, h2, h3⟩ := look_kind hT hl
      obtain ⟨e, rfl⟩ := kindOf_ptr h2
      refine eqR_run ?_ (by rfl) (by rfl) h
      show (Op.equalIn (9999 + 1) t _ _).run P w = _
      rw [Op.equalIn]
      simp [Sem.run_bind, h3, Result.andThen]
    · cases h
  · have := hx.val; have := hy.val; subst u v
    split at h
    · rename_i hl
      obtain ⟨d, h1, h2, h3⟩ := look_kind hT hl
      obtain ⟨e, rfl⟩ := kindOf_ptr h2
      refine eqR_run ?_ (by rfl) (by rfl) h
      show (Op.equalIn (9999 + 1) t _ _).run P w = _
      rw [Op.equalIn]
      simp [Sem.run_bind, h3, Result.andThen]
    · cases h
  · cases h
theorem eqGuard_run {op : BinOp} {t : TypeId} {x y : Operand} {a b r : A} {u v : Value} {s : Prop} (hx : V f X w a u) (hy : V f X w b v) (h : binA L op t a b = some (r, s)) :
    (eqGuard op t x y u v).run P w = .ok () w := by
  unfold binA at h
  split at h
  all_goals first
    | (cases h; done)
    | (have := hx.val; subst u; cases op <;> rfl)
    | (simp only [V] at hx; rcases hx with ⟨_, h0, _⟩ | ⟨_, _, _, rfl, _⟩ <;> first | (cases h0; done) | (cases op <;> rfl))
    | (simp only [V] at hx; obtain ⟨_, _, rfl, _⟩ := hx; cases op <;> rfl)
    | (simp only [V] at hx; obtain ⟨_, _, rfl⟩ := hx; cases op <;> rfl)
end
end Go.Abs
namespace Go.Abs
open Go.RowKit

def fillA (place : Nat → Option (Nat × Nat)) (ev : Operand → Option A) : List (Nat × Operand) → List A → Option (List A)
  | [], cells => some cells
  | (i, x) :: rest, cells => match place i, ev x with
    | some (off, size), some v => match cellsA v with
      | some cs => bif Nat.beq cs.length size then (match stO cells off cs with
        | some cells' => fillA place ev rest cells'
        | none => none) else none
      | none => none
    | _, _ => none
theorem fold_set (off : Nat) : ∀ (vs : List Value) (j : Nat) (cells : Array Value), off + j + vs.length ≤ cells.size →
    ((vs.zipIdx j).foldl (fun cs (p : Value × Nat) => cs.setIfInBounds (off + p.2) p.1) cells).toList = cells.toList.take (off + j) ++ vs ++ cells.toList.drop (off + j + vs.length)
  | [], j, cells, _ => by simp
  | v :: vs, j, cells, h => by
    rw [List.zipIdx_cons, List.foldl_cons, fold_set off vs (j + 1) _ (by simp at h ⊢; omega)]
    simp only [Array.toList_setIfInBounds, List.length_cons]
    have hlt : off + j < cells.toList.length := by simp at h ⊢; omega
    rw [show off + (j + 1) = off + j + 1 from by omega]
    rw [List.take_set, List.drop_set_of_lt (by omega), List.take_succ_eq_append_getElem hlt]
    have e1 : (List.take (off + j) cells.toList ++ [cells.toList[off + j]]).set (off + j) v = List.take (off + j) cells.toList ++ [v] := by
      rw [List.set_append_right _ _ (by rw [List.length_take]; exact Nat.min_le_left _ _)]
      have : off + j - (List.take (off + j) cells.toList).length = 0 := by rw [List.length_take]; omega
      rw [this]; rfl
    rw [e1]
    simp only [List.append_assoc, List.cons_append, List.nil_append]
    rw [show off + j + 1 + vs.length = off + j + (vs.length + 1) from by omega]
section
variable {P : Program} {L : List (Nat × TI)} {f : Pl} {X : Nat → Prop} {w : World}
theorem fill_spec {place : Nat → Option (Nat × Nat)} {ev : Operand → Option A} {ρ : Operand → Value} (hev : ∀ x v, ev x = some v → V f X w v (ρ x)) :
    ∀ (parts : List (Nat × Operand)) (l l' : List A) (cells : Array Value), VL f X w l cells.toList → fillA place ev parts l = some l' →
      ∃ cells', Instr.fill place cells (parts.map fun p => (p.1, ρ p.2)) = some cells' ∧ VL f X w l' cells'.toList
  | [], l, l', cells, h, hf => by
    simp only [fillA, Option.some.injEq] at hf
    subst hf
    exact ⟨cells, rfl, h⟩
  | (i, x) :: rest, l, l', cells, h, hf => by
    simp only [fillA] at hf
    split at hf
    · rename_i off size v hp hv
      split at hf
      · rename_i cs hcs
        cases hb : Nat.beq cs.length size with
        | false => rw [hb] at hf; cases hf
        | true =>
          rw [hb] at hf
          simp only [cond_true] at hf
          split at hf
          · rename_i l2 hl2
            have hsz := Nat.eq_of_beq_eq_true hb
            obtain ⟨h1, h2⟩ := stO_spec hl2
            obtain ⟨h3, _⟩ := cellsA_spec (hev x v hv) hcs
            have h4 : (ρ x).cells.size = size := by rw [← hsz, ← h3.length]; simp
            have h5 : cells.size = l.length := by rw [← h.length]; simp
            have h6 := fold_set off (ρ x).cells.toList 0 cells (by simp only [Array.length_toList, Nat.add_zero]; omega)
            have h7 : ((ρ x).cells.zipIdx.foldl (fun cs (p : Value × Nat) => cs.setIfInBounds (off + p.2) p.1) cells).toList = cells.toList.take off ++ (ρ x).cells.toList ++ cells.toList.drop (off + size) := by
              rw [← Array.foldl_toList, Array.toList_zipIdx, h6]
              simp only [Nat.add_zero, Array.length_toList, h4]
            obtain ⟨cells', h8, h9⟩ := fill_spec hev rest l2 l' _ (by
              rw [h7, h1]
              refine ((h.take off).append h3).append ?_
              rw [hsz]; exact h.drop _) hf
            refine ⟨cells', ?_, h9⟩
            simp only [List.map_cons, Instr.fill, hp]
            rw [if_neg (by simp only [h4]; simp; omega)]
            exact h8
          · cases hf
      · cases hf
    · cases hf

def bnd (ev : Operand → Option A) : Option Operand → Option (Option Int)
  | none => some none
  | some x => match ev x with
    | some (.val (.int _ n)) => some (some n)
    | _ => none
def iNat : Int → Nat
  | .ofNat n => n
  | .negSucc _ => 0
theorem iNat_eq (i : Int) : iNat i = i.toNat := by cases i <;> rfl
def mapEv (ev : Operand → Option A) : List Operand → Option (List A)
  | [] => some []
  | x :: xs => match ev x, mapEv ev xs with
    | some v, some r => some (v :: r)
    | _, _ => none
theorem mapEv_spec {ev : Operand → Option A} {ρ : Operand → Value} (hev : ∀ x v, ev x = some v → V f X w v (ρ x)) : ∀ {xs : List Operand} {l : List A}, mapEv ev xs = some l → VL f X w l (xs.map ρ)
  | [], l, h => by simp only [mapEv, Option.some.injEq] at h; subst h; exact VL.nil
  | x :: xs, l, h => by
    simp only [mapEv] at h
    split at h
    · rename_i v r hv hr
      simp only [Option.some.injEq] at h; subst h
      exact VL.cons (hev x v hv) (mapEv_spec hev hr)
    · cases h
def getO : List A → Nat → Option A
  | [], _ => none
  | a :: _, 0 => some a
  | _ :: l, i + 1 => getO l i
theorem getO_eq : ∀ (l : List A) (i : Nat), getO l i = l[i]?
  | [], _ => by simp [getO]
  | _ :: _, 0 => by simp [getO]
  | _ :: l, i + 1 => by simp [getO, getO_eq l i]
/-- What an operation that only computes yields, and on what condition. -/
def vop (L : List (Nat × TI)) (op : Op) (ev : Operand → Option A) : Option (Option A × Prop) := match op with
  | .move x => match ev x with
    | some v => some (some v, True)
    | none => some (none, True)
  | .assign x => match ev x with
    | some v => some (some v, True)
    | none => some (none, True)
  | .pick c a b => match ev c with
    | some (.val (.bool true)) => (match ev a with
      | some v => some (some v, True)
      | none => some (none, True))
    | some (.val (.bool false)) => (match ev b with
      | some v => some (some v, True)
      | none => some (none, True))
    | _ => none
  | .build t parts => match look L t with
    | some ⟨.struct pl _, _, _, _, zero⟩ => (match fillA (fun i => pl[i]?) ev parts.toList zero with
      | some l => some (some (.agg l), True)
      | none => none)
    | some ⟨.array _ e, _, _, _, zero⟩ => (match look L e with
      | some ⟨_, size, _, _, _⟩ => (match fillA (fun i => some (i * size, size)) ev parts.toList zero with
        | some l => some (some (.agg l), True)
        | none => none)
      | none => none)
    | _ => none
  | .nilCheck x => match ev x with
    | some (.ptr k p off) => some (some (.ptr k p off), True)
    | some (.rp l) => some (some (.rp l), True)
    | some (.fn g a b) => some (some (.fn g a b), True)
    | _ => none
  | .binOp op t x y _ => match ev x, ev y with
    | some a, some b => (match binA L op t a b with
      | some (r, s) => some (some r, s)
      | none => none)
    | _, _ => none
  | .unOp op _ x => match op, ev x with
    | .neg, some (.val (.int k n)) => some (some (.val (.int k (k.wrap (0 - n)))), True)
    | .not, some (.val (.bool b)) => some (some (.val (.bool (!b))), True)
    | .xor, some (.val (.int k n)) => some (some (.val (.int k (k.wrap (BitVec.ofInt k.bits (if k.signed then -1 else k.max) ^^^ BitVec.ofInt k.bits n).toNat))), True)
    | _, _ => none
  | .convert src dst x => match look L src, look L dst, ev x with
    | some _, some ⟨.int k, _, _, _, _⟩, some (.val (.int _ n)) => some (some (.val (.int k (k.wrap n))), True)
    | some _, some ⟨.string, _, _, _, _⟩, some (.val (.string s)) => some (some (.val (.string s)), True)
    | _, _, _ => none
  | .makeInterface t x => match look L t, ev x with
    | some ⟨.iface, _, _, _, _⟩, _ => none
    | some _, some v => some (some (.ifc t v), True)
    | _, _ => none
  | .makeFunc (.func g) first caps => match mapEv ev first.toList, mapEv ev caps.toList with
    | some a, some b => some (some (.fn g a b), True)
    | _, _ => none
  | .slice t x lo hi none => match look L t, ev x, bnd ev lo, bnd ev hi with
    | some ⟨.string, _, _, _, _⟩, some (.val (.string s)), some lo, some hi => (match lo, hi with
      | none, none => some (some (.val (.string (s.extract 0 s.size))), True)
      | some l, none => some (some (.val (.string (s.extract (iNat l) s.size))), 0 ≤ l ∧ l ≤ s.size)
      | none, some h => some (some (.val (.string (s.extract 0 (iNat h)))), 0 ≤ h ∧ h ≤ s.size)
      | some l, some h => some (some (.val (.string (s.extract (iNat l) (iNat h)))), 0 ≤ l ∧ l ≤ h ∧ h ≤ s.size))
    | some ⟨.slice e, _, _, _, _⟩, some (.ro n c), some lo, some hi => (match look L e with
      | some ⟨_, st, _, _, _⟩ => (match lo, hi with
        | none, none => some (some (.ro n c), c.length = n * st)
        | some l, none => some (some (.ro (n - iNat l) (c.drop (iNat l * st))), 0 ≤ l ∧ l ≤ n ∧ c.length = n * st)
        | none, some h => some (some (.ro (iNat h) (c.take (iNat h * st))), 0 ≤ h ∧ h ≤ n ∧ c.length = n * st)
        | some l, some h => some (some (.ro (iNat h - iNat l) ((c.take (iNat h * st)).drop (iNat l * st))), 0 ≤ l ∧ l ≤ h ∧ h ≤ n ∧ c.length = n * st))
      | none => none)
    | some ⟨.slice e, _, _, _, _⟩, some (.sl k p st off n), some lo, some hi => (match look L e with
      | some ⟨_, st', _, _, _⟩ => bif Nat.beq st st' then (match lo, hi with
        | none, none => some (some (.sl k p st off n), True)
        | some l, none => some (some (.sl k p st (off + iNat l * st) (n - iNat l)), 0 ≤ l ∧ l < n)
        | none, some h => some (some (.sl k p st off (iNat h)), 0 ≤ h ∧ h ≤ n)
        | some l, some h => some (some (.sl k p st (off + iNat l * st) (iNat h - iNat l)), 0 ≤ l ∧ l < n ∧ l ≤ h ∧ h ≤ n)) else none
      | none => none)
    | _, _, _, _ => none
  | .fieldAddr t x fi => match look L t, ev x with
    | some ⟨.struct pl _, _, _, _, _⟩, some (.ptr k p off) => (match pl[fi]? with
      | some (o, sz) => bif Nat.beq sz 0 then none else some (some (.ptr k p (off + o)), True)
      | none => none)
    | some ⟨.struct pl _, _, _, _, _⟩, some (.rp l) => (match pl[fi]? with
      | some (o, sz) => bif Nat.beq sz 0 then none else (match dropO o l with
        | some l' => some (some (.rp l'), True)
        | none => none)
      | none => none)
    | _, _ => none
  | .field t x fi => match look L t, ev x with
    | some ⟨.struct pl ag, _, _, _, _⟩, some (.agg l) => (match pl[fi]?, ag[fi]? with
      | some (o, sz), some g => (match dropO o l with
        | some l' => (match ldO sz l' with
          | some l2 => (match packA g l2 with
            | some v => some (some v, True)
            | none => none)
          | none => none)
        | none => none)
      | _, _ => none)
    | _, _ => none
  | .indexAddr t x i => match look L t, ev x, ev i with
    | some ⟨.slice e, _, _, _, _⟩, some (.ro n l), some (.val (.int _ j)) => (match look L e with
      | some ⟨_, st, _, _, _⟩ => (match dropO (iNat j * st) l with
        | some (a :: l') => some (some (.rp (a :: l')), 0 ≤ j ∧ j < n)
        | _ => none)
      | none => none)
    | some ⟨.slice e, _, _, _, _⟩, some (.sl k p st off n), some (.val (.int _ j)) => (match look L e with
      | some ⟨_, st', _, _, _⟩ => bif Nat.beq st st' then some (some (.ptr k p (off + iNat j * st)), 0 ≤ j ∧ j < n) else none
      | none => none)
    | some ⟨.array n e, _, _, _, _⟩, some (.ptr k p off), some (.val (.int _ j)) => (match look L e with
      | some ⟨_, st, _, _, _⟩ => some (some (.ptr k p (off + iNat j * st)), 0 ≤ j ∧ j < n)
      | none => none)
    | _, _, _ => none
  | .index t x i => match look L t, ev x, ev i with
    | some ⟨.string, _, _, _, _⟩, some (.val (.string s)), some (.val (.int _ j)) => some (some (.val (.int .u8 ((s.data.toList.getD (iNat j) 0).toNat : Int))), 0 ≤ j ∧ j < s.size)
    | some ⟨.array n e, _, _, _, _⟩, some (.agg l), some (.val (.int _ j)) => (match look L e with
      | some ⟨_, st, _, g, _⟩ => (match dropO (iNat j * st) l with
        | some l' => (match ldO st l' with
          | some l2 => (match packA g l2 with
            | some v => some (some v, 0 ≤ j ∧ j < n)
            | none => none)
          | none => none)
        | none => none)
      | none => none)
    | _, _, _ => none
  | .extract x i => match ev x with
    | some (.tup l) => (match getO l i with
      | some v => some (some v, True)
      | none => none)
    | _ => none
  | .call ⟨.builtin b, args, ts⟩ => match b, args.toList, ts.toList with
    | .len, [x], [t] => (match look L t, ev x with
      | some ⟨.string, _, _, _, _⟩, some (.val (.string s)) => some (some (.val (.int .i64 (s.size : Int))), True)
      | some ⟨.slice _, _, _, _, _⟩, some (.ro n _) => some (some (.val (.int .i64 (n : Int))), True)
      | some ⟨.slice _, _, _, _, _⟩, some (.sl _ _ _ _ n) => some (some (.val (.int .i64 (n : Int))), True)
      | some ⟨.slice _, _, _, _, _⟩, some (.val (.slice none 0 0)) => some (some (.val (.int .i64 0)), True)
      | some ⟨.array n _, _, _, _, _⟩, _ => some (some (.val (.int .i64 (n : Int))), True)
      | _, _ => none)
    | .min, [x, y], _ => (match ev x, ev y with
      | some (.val (.int k a)), some (.val (.int _ b)) => some (some (.val (.int k (if b < a then b else a))), True)
      | _, _ => none)
    | .max, [x, y], _ => (match ev x, ev y with
      | some (.val (.int k a)), some (.val (.int _ b)) => some (some (.val (.int k (if a < b then b else a))), True)
      | _, _ => none)
    | _, _, _ => none
  | _ => none

theorem rp_drop {l : List A} {v : Value} (n : Nat) (h : V f X w (.rp l) v) : ∃ q : Addr, v = .pointer (some q) ∧ q.spot = none ∧ V f X w (.rp (l.drop n)) (.pointer (some ⟨q.block, q.off + n, none⟩)) := by
  simp only [V] at h
  obtain ⟨q, rfl, h1, h2, h3, vs, h4, h5⟩ := h
  refine ⟨q, rfl, h1, ?_⟩
  simp only [V]
  refine ⟨_, rfl, rfl, h2, h3, vs.drop n, h4.drop n, fun j u hu => ?_⟩
  rw [List.getElem?_drop] at hu
  have := h5 (n + j) u hu
  rw [show q.off + n + j = q.off + (n + j) from by omega]; exact this
theorem add_eq (b o n : Nat) : (⟨b, o, none⟩ : Addr).add n = ⟨b, o + n, none⟩ := by
  unfold Addr.add
  by_cases h : n = 0
  · subst h; simp
  · rw [if_neg h]
theorem addr_add {q : Addr} (h : q.spot = none) (n : Nat) : q.add n = ⟨q.block, q.off + n, none⟩ := by
  obtain ⟨b, o, sp⟩ := q
  dsimp only at h
  subst h
  exact add_eq b o n
theorem mapM_get {α β : Type} {g : α → Option β} : ∀ {l : List α} {r : List β}, l.mapM g = some r → ∀ (i : Nat) (y : β), r[i]? = some y → ∃ x, l[i]? = some x ∧ g x = some y
  | [], r, h, i, y, hy => by simp at h; subst h; simp at hy
  | a :: l, r, h, i, y, hy => by
    rw [List.mapM_cons] at h
    cases hg : g a with
    | none => rw [hg] at h; cases h
    | some b =>
      cases hr : l.mapM g with
      | none => rw [hg, hr] at h; cases h
      | some r' =>
        rw [hg, hr] at h
        simp at h
        subst h
        cases i with
        | zero => simp at hy; subst hy; exact ⟨a, by simp, hg⟩
        | succ i => simp at hy; obtain ⟨x, h1, h2⟩ := mapM_get hr i y hy; exact ⟨x, by simpa using h1, h2⟩
/-- A part of the cells. -/
theorem part_run {t : TypeId} {cs : List Value} {o sz : Nat} {g : Bool} {l l' l2 : List A} {v : A} (hag : (isAgg t).run P w = .ok g w) (hsz : (sizeOf t).run P w = .ok sz w)
    (hl : VL f X w l cs) (h1 : dropO o l = some l') (h2 : ldO sz l' = some l2) (h3 : packA g l2 = some v) : ∃ u, (part t cs.toArray o).run P w = .ok u w ∧ V f X w v u := by
  obtain ⟨rfl, h4⟩ := dropO_spec h1
  obtain ⟨rfl, h5⟩ := ldO_spec h2
  obtain ⟨u, h6, h7⟩ := packA_spec ((hl.drop o).take sz) h3
  refine ⟨u, ?_, h6⟩
  have hlen := hl.length
  rw [List.length_drop] at h5
  rcases h7 with ⟨rfl, rfl⟩ | ⟨rfl, h8⟩
  · simp only [part, Sem.run_bind, hag, Result.andThen, if_true, hsz, Sem.run_pure]
    congr 2
    apply Array.ext'
    simp [List.extract_eq_take_drop]
  · have h9 : cs[o]? = some u := by
      have := congrArg (fun l => l[0]?) h8
      simp only [List.getElem?_cons_zero] at this
      rw [List.getElem?_take, List.getElem?_drop] at this
      split at this
      · simpa using this
      · cases this
    simp [part, hag, h9]
end
end Go.Abs
