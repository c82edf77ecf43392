/- Numbers of objects under other numbers; contracts of functions. No conditions. -/
import Derived.Test.YtbhahgbdkgjliaaGreatDoorAbsB
set_option linter.unusedVariables false
set_option linter.unusedSimpArgs false
namespace Go.Abs
open Go.RowKit
mutual
/-- All objects that are named have numbers below m. -/
def A.lt (m : Nat) : A → Bool
  | .any => true
  | .val _ => true
  | .ro _ _ => true
  | .rp _ => true
  | .sl k _ _ _ _ => Nat.blt k m
  | .ptr k _ _ => Nat.blt k m
  | .agg l => ltL m l
  | .tup l => ltL m l
  | .fn _ a b => ltL m a && ltL m b
  | .ifc _ a => a.lt m
def ltL (m : Nat) : List A → Bool
  | [] => true
  | x :: xs => x.lt m && ltL m xs
end
mutual
def A.ren (σ : Nat → Nat) : A → A
  | .any => .any
  | .val v => .val v
  | .ro n l => .ro n l
  | .rp l => .rp l
  | .sl k p st off n => .sl (σ k) p st off n
  | .ptr k p off => .ptr (σ k) p off
  | .agg l => .agg (renL σ l)
  | .tup l => .tup (renL σ l)
  | .fn g a b => .fn g (renL σ a) (renL σ b)
  | .ifc t a => .ifc t (a.ren σ)
def renL (σ : Nat → Nat) : List A → List A
  | [] => []
  | x :: xs => x.ren σ :: renL σ xs
end
def Reg.ren (σ : Nat → Nat) : Reg → Reg
  | .one c => .one (renL σ c)
  | .fam F => .fam (fun p => match F p with | some c => some (renL σ c) | none => none)
  | .gone => .gone
def Reg.lt (m : Nat) (r : Reg) : Prop := ∀ p c, r.get p = some c → ltL m c = true
theorem Reg.lt_one {m : Nat} {c : List A} (h : ltL m c = true) : (Reg.one c).lt m := by
  intro p c' hc
  cases p with
  | nil => simp only [Reg.get, Option.some.injEq] at hc; subst hc; exact h
  | cons _ _ => simp [Reg.get] at hc
theorem Reg.get_ren (σ : Nat → Nat) (r : Reg) (p : List Nat) : (r.ren σ).get p = (r.get p).map (renL σ) := by
  cases r with
  | one c => cases p <;> simp [Reg.ren, Reg.get]
  | fam F => simp only [Reg.ren, Reg.get]; cases F p <;> rfl
  | gone => rfl
theorem renL_length (σ : Nat → Nat) (l : List A) : (renL σ l).length = l.length := by
  induction l with
  | nil => rfl
  | cons x xs ih => simp [renL, ih]
mutual
theorem V.unren {σ : Nat → Nat} {q : Nat} {X : Nat → Prop} {w : World} : ∀ (a : A) (f f0 : Pl) (_ : ∀ k, k < q → f0 k = f (σ k)) (_ : a.lt q = true) (v : Value), V f X w (a.ren σ) v → V f0 X w a v
  | .any, f, f0, hf, hl, v, h => by simp only [V]
  | .val u, f, f0, hf, hl, v, h => by simp only [A.ren, V] at h ⊢; exact h
  | .ro n l, f, f0, hf, hl, v, h => by simp only [A.ren, V] at h ⊢; exact h
  | .rp l, f, f0, hf, hl, v, h => by simp only [A.ren, V] at h ⊢; exact h
  | .sl k p st off n, f, f0, hf, hl, v, h => by
    simp only [A.ren, V] at h ⊢
    simp only [A.lt] at hl
    rw [hf k (Nat.le_of_ble_eq_true hl)]
    exact h
  | .ptr k p off, f, f0, hf, hl, v, h => by
    simp only [A.ren, V] at h ⊢
    simp only [A.lt] at hl
    rw [hf k (Nat.le_of_ble_eq_true hl)]
    exact h
  | .agg l, f, f0, hf, hl, v, h => by
    simp only [A.ren, V] at h ⊢
    simp only [A.lt] at hl
    obtain ⟨vs, h1, h2⟩ := h
    exact ⟨vs, h1, VL.unren l f f0 hf hl vs h2⟩
  | .tup l, f, f0, hf, hl, v, h => by
    simp only [A.ren, V] at h ⊢
    simp only [A.lt] at hl
    obtain ⟨vs, h1, h2⟩ := h
    exact ⟨vs, h1, VL.unren l f f0 hf hl vs h2⟩
  | .fn g a b, f, f0, hf, hl, v, h => by
    simp only [A.ren, V] at h ⊢
    simp only [A.lt, Bool.and_eq_true] at hl
    obtain ⟨fs, cs, h1, h2, h3⟩ := h
    exact ⟨fs, cs, h1, VL.unren a f f0 hf hl.1 fs h2, VL.unren b f f0 hf hl.2 cs h3⟩
  | .ifc t a, f, f0, hf, hl, v, h => by
    simp only [A.ren, V] at h ⊢
    simp only [A.lt] at hl
    obtain ⟨u, h1, h2⟩ := h
    exact ⟨u, h1, V.unren a f f0 hf hl u h2⟩
theorem VL.unren {σ : Nat → Nat} {q : Nat} {X : Nat → Prop} {w : World} : ∀ (l : List A) (f f0 : Pl) (_ : ∀ k, k < q → f0 k = f (σ k)) (_ : ltL q l = true) (vs : List Value), VL f X w (renL σ l) vs → VL f0 X w l vs
  | [], f, f0, hf, hl, vs, h => by simp only [renL, VL] at h ⊢; exact h
  | x :: xs, f, f0, hf, hl, vs, h => by
    simp only [renL, VL] at h ⊢
    simp only [ltL, Bool.and_eq_true] at hl
    obtain ⟨v, t, h1, h2, h3⟩ := h
    exact ⟨v, t, h1, V.unren x f f0 hf hl.1 v h2, VL.unren xs f f0 hf hl.2 t h3⟩
end
mutual
theorem V.ren {σ : Nat → Nat} {X : Nat → Prop} {w : World} : ∀ (a : A) (f1 f : Pl) (_ : ∀ k p b, f1 k p = some b → f (σ k) p = some b) (v : Value), V f1 X w a v → V f X w (a.ren σ) v
  | .any, f1, f, hf, v, h => by simp only [A.ren, V]
  | .val u, f1, f, hf, v, h => by simp only [A.ren, V] at h ⊢; exact h
  | .ro n l, f1, f, hf, v, h => by simp only [A.ren, V] at h ⊢; exact h
  | .rp l, f1, f, hf, v, h => by simp only [A.ren, V] at h ⊢; exact h
  | .sl k p st off n, f1, f, hf, v, h => by
    simp only [A.ren, V] at h ⊢
    rcases h with ⟨h1, h2⟩ | ⟨b, cap, h1, h2⟩
    · exact .inl ⟨hf _ _ _ h1, h2⟩
    · exact .inr ⟨b, cap, hf _ _ _ h1, h2⟩
  | .ptr k p off, f1, f, hf, v, h => by
    simp only [A.ren, V] at h ⊢
    obtain ⟨b, h1, h2⟩ := h
    exact ⟨b, hf _ _ _ h1, h2⟩
  | .agg l, f1, f, hf, v, h => by
    simp only [A.ren, V] at h ⊢
    obtain ⟨vs, h1, h2⟩ := h
    exact ⟨vs, h1, VL.ren l f1 f hf vs h2⟩
  | .tup l, f1, f, hf, v, h => by
    simp only [A.ren, V] at h ⊢
    obtain ⟨vs, h1, h2⟩ := h
    exact ⟨vs, h1, VL.ren l f1 f hf vs h2⟩
  | .fn g a b, f1, f, hf, v, h => by
    simp only [A.ren, V] at h ⊢
    obtain ⟨fs, cs, h1, h2, h3⟩ := h
    exact ⟨fs, cs, h1, VL.ren a f1 f hf fs h2, VL.ren b f1 f hf cs h3⟩
  | .ifc t a, f1, f, hf, v, h => by
    simp only [A.ren, V] at h ⊢
    obtain ⟨u, h1, h2⟩ := h
    exact ⟨u, h1, V.ren a f1 f hf u h2⟩
theorem VL.ren {σ : Nat → Nat} {X : Nat → Prop} {w : World} : ∀ (l : List A) (f1 f : Pl) (_ : ∀ k p b, f1 k p = some b → f (σ k) p = some b) (vs : List Value), VL f1 X w l vs → VL f X w (renL σ l) vs
  | [], f1, f, hf, vs, h => by simp only [renL, VL] at h ⊢; exact h
  | x :: xs, f1, f, hf, vs, h => by
    simp only [renL, VL] at h ⊢
    obtain ⟨v, t, h1, h2, h3⟩ := h
    exact ⟨v, t, h1, V.ren x f1 f hf v h2, VL.ren xs f1 f hf t h3⟩
end
mutual
/-- Without names of objects nothing changes. -/
theorem A.ren_free (σ : Nat → Nat) : ∀ (a : A), a.lt 0 = true → a.ren σ = a
  | .any, _ => rfl
  | .val _, _ => rfl
  | .ro _ _, _ => rfl
  | .rp _, _ => rfl
  | .sl k _ _ _ _, h => by simp [A.lt] at h
  | .ptr k _ _, h => by simp [A.lt] at h
  | .agg l, h => by simp only [A.lt] at h; simp only [A.ren]; rw [renL_free σ l h]
  | .tup l, h => by simp only [A.lt] at h; simp only [A.ren]; rw [renL_free σ l h]
  | .fn g a b, h => by simp only [A.lt, Bool.and_eq_true] at h; simp only [A.ren]; rw [renL_free σ a h.1, renL_free σ b h.2]
  | .ifc t a, h => by simp only [A.lt] at h; simp only [A.ren]; rw [A.ren_free σ a h]
theorem renL_free (σ : Nat → Nat) : ∀ (l : List A), ltL 0 l = true → renL σ l = l
  | [], _ => rfl
  | x :: xs, h => by simp only [ltL, Bool.and_eq_true] at h; simp only [renL]; rw [A.ren_free σ x h.1, renL_free σ xs h.2]
end
mutual
theorem A.lt_mono {m n : Nat} (hmn : m ≤ n) : ∀ (a : A), a.lt m = true → a.lt n = true
  | .any, _ => rfl
  | .val _, _ => rfl
  | .ro _ _, _ => rfl
  | .rp _, _ => rfl
  | .sl k _ _ _ _, h => by simp only [A.lt] at h ⊢; have := Nat.le_of_ble_eq_true h; exact Nat.ble_eq_true_of_le (by omega)
  | .ptr k _ _, h => by simp only [A.lt] at h ⊢; have := Nat.le_of_ble_eq_true h; exact Nat.ble_eq_true_of_le (by omega)
  | .agg l, h => by simp only [A.lt] at h ⊢; exact ltL_mono hmn l h
  | .tup l, h => by simp only [A.lt] at h ⊢; exact ltL_mono hmn l h
  | .fn g a b, h => by simp only [A.lt, Bool.and_eq_true] at h ⊢; exact ⟨ltL_mono hmn a h.1, ltL_mono hmn b h.2⟩
  | .ifc t a, h => by simp only [A.lt] at h ⊢; exact A.lt_mono hmn a h
theorem ltL_mono {m n : Nat} (hmn : m ≤ n) : ∀ (l : List A), ltL m l = true → ltL n l = true
  | [], _ => rfl
  | x :: xs, h => by simp only [ltL, Bool.and_eq_true] at h ⊢; exact ⟨A.lt_mono hmn x h.1, ltL_mono hmn xs h.2⟩
end
mutual
/-- No reference to what is only read. -/
def A.noRo : A → Bool
  | .any => true
  | .val _ => true
  | .ro _ l => match l with | [] => true | _ :: _ => false
  | .rp _ => false
  | .sl _ _ _ _ _ => true
  | .ptr _ _ _ => true
  | .agg l => noRoL l
  | .tup l => noRoL l
  | .fn _ a b => noRoL a && noRoL b
  | .ifc _ a => a.noRo
def noRoL : List A → Bool
  | [] => true
  | x :: xs => x.noRo && noRoL xs
end
mutual
theorem V.change {X X' : Nat → Prop} {w : World} {f : Pl} : ∀ (a : A) (_ : a.noRo = true) (v : Value), V f X w a v → V f X' w a v
  | .any, hl, v, h => by simp only [V]
  | .val u, hl, v, h => by simp only [V] at h ⊢; exact h
  | .ro n [], hl, v, h => by
    simp only [V] at h ⊢
    obtain ⟨a, cap, h1, h2, h3, h4, h5⟩ := h
    exact ⟨a, cap, h1, h2, h3, h4, fun q hq => .inl trivial⟩
  | .ro n (_ :: _), hl, v, h => by simp [A.noRo] at hl
  | .rp l, hl, v, h => by simp [A.noRo] at hl
  | .sl k p st off n, hl, v, h => by simp only [V] at h ⊢; exact h
  | .ptr k p off, hl, v, h => by simp only [V] at h ⊢; exact h
  | .agg l, hl, v, h => by
    simp only [V] at h ⊢
    simp only [A.noRo] at hl
    obtain ⟨vs, h1, h2⟩ := h
    exact ⟨vs, h1, VL.change l hl vs h2⟩
  | .tup l, hl, v, h => by
    simp only [V] at h ⊢
    simp only [A.noRo] at hl
    obtain ⟨vs, h1, h2⟩ := h
    exact ⟨vs, h1, VL.change l hl vs h2⟩
  | .fn g a b, hl, v, h => by
    simp only [V] at h ⊢
    simp only [A.noRo, Bool.and_eq_true] at hl
    obtain ⟨fs, cs, h1, h2, h3⟩ := h
    exact ⟨fs, cs, h1, VL.change a hl.1 fs h2, VL.change b hl.2 cs h3⟩
  | .ifc t a, hl, v, h => by
    simp only [V] at h ⊢
    simp only [A.noRo] at hl
    obtain ⟨u, h1, h2⟩ := h
    exact ⟨u, h1, V.change a hl u h2⟩
theorem VL.change {X X' : Nat → Prop} {w : World} {f : Pl} : ∀ (l : List A) (_ : noRoL l = true) (vs : List Value), VL f X w l vs → VL f X' w l vs
  | [], hl, vs, h => by simp only [VL] at h ⊢; exact h
  | x :: xs, hl, vs, h => by
    simp only [VL] at h ⊢
    simp only [noRoL, Bool.and_eq_true] at hl
    obtain ⟨v, t, h1, h2, h3⟩ := h
    exact ⟨v, t, h1, V.change x hl.1 v h2, VL.change xs hl.2 t h3⟩
end

/-! ### Contracts -/
def regs (l : List Reg) : Nat → Reg := fun k => match l[k]? with | some r => r | none => .gone
def XOf (h : Nat → Reg) (f : Pl) (Y : Nat → Prop) (b : Nat) : Prop := Live h f b ∨ Y b
def FCPost (f0 : Pl) (pre : List Reg) (Y : Nat → Prop) (w : World) (r : A) (post : List Reg) (Pp : List PanicEntry → Prop) : Ending → World → Prop
  | .returned v, w' => ∃ f1, Ext f0 f1 ∧ (∀ k, post.length ≤ k → ∀ p, f1 k p = none) ∧ V f1 (XOf (regs post) f1 Y) w' r v ∧ HR f1 (XOf (regs post) f1 Y) w' (regs post) ∧ Inj (regs post) f1 ∧
      Kp (Live (regs pre) f0) w w' ∧ ∀ b, Live (regs post) f1 b → w.heap.size ≤ b ∨ Live (regs pre) f0 b
  | .panicked ch, w' => Pp ch ∧ Kp (Live (regs pre) f0) w w'
  | .outgrown, _ => False
/-- A contract: the call of g with these arguments, where the objects 0, 1 .. are as pre tells, returns r, and leaves the objects as post tells (those of pre first); or it panics as Pp tells. -/
structure FC (P : Program) (I : GI) (g : FuncId) (args : List A) (pre : List Reg) (r : A) (post : List Reg) (Pp : List PanicEntry → Prop) : Prop where
  enter : ∀ (as : Array Value) (w : World), (callFunc g as).run P w = .ok (.enter g as) w
  len : pre.length ≤ post.length
  call : ∀ (f0 : Pl) (Y : Nat → Prop) (w : World) (vs : List Value), I.p w → (∀ b, Live (regs pre) f0 b → I.G ≤ b) → (∀ k, pre.length ≤ k → ∀ p, f0 k p = none) → (∀ b, Y b → b < w.heap.size ∧ ¬ Live (regs pre) f0 b) →
    HR f0 (XOf (regs pre) f0 Y) w (regs pre) → Inj (regs pre) f0 → VL f0 (XOf (regs pre) f0 Y) w args vs → Calls P g vs.toArray w (FCPost f0 pre Y w r post Pp)
def NoP : List PanicEntry → Prop := fun _ => False
end Go.Abs
namespace Go.Abs
open Go.RowKit
/-- The caller's number of an object of a contract: one of ks, or a new one. -/
def sig : List Nat → Nat → Nat → Nat
  | [], n, k => n + k
  | k0 :: _, _, 0 => k0
  | _ :: ks, n, k + 1 => sig ks n k
theorem sig_lt {ks : List Nat} {n : Nat} : ∀ {k : Nat}, k < ks.length → sig ks n k ∈ ks := by
  induction ks with
  | nil => intro k h; simp at h
  | cons k0 ks ih =>
    intro k h
    cases k with
    | zero => simp [sig]
    | succ k => simp only [sig, List.mem_cons]; exact .inr (ih (by simpa using h))
theorem sig_ge {ks : List Nat} {n : Nat} : ∀ {k : Nat}, ks.length ≤ k → sig ks n k = n + (k - ks.length) := by
  induction ks with
  | nil => intro k h; simp [sig]
  | cons k0 ks ih =>
    intro k h
    cases k with
    | zero => simp at h
    | succ k => simp only [sig]; rw [ih (by simpa using h)]; simp
def ksOk (n : Nat) : List Nat → Bool
  | [] => true
  | k :: ks => Nat.blt k n && ks.all (fun j => !Nat.beq k j) && ksOk n ks
theorem sig_inj {ks : List Nat} {n : Nat} (h : ksOk n ks = true) : ∀ {i j : Nat}, sig ks n i = sig ks n j → i = j := by
  have mem : ∀ {ks : List Nat}, ksOk n ks = true → ∀ k ∈ ks, k < n := by
    intro ks
    induction ks with
    | nil => intro _ k hk; cases hk
    | cons k0 ks ih =>
      intro h k hk
      simp only [ksOk, Bool.and_eq_true] at h
      rcases List.mem_cons.1 hk with rfl | hk
      · exact Nat.le_of_ble_eq_true h.1.1
      · exact ih h.2 k hk
  induction ks with
  | nil => intro i j h; simp only [sig] at h; omega
  | cons k0 ks ih =>
    have h' := h
    simp only [ksOk, Bool.and_eq_true] at h
    have ne : ∀ j, sig ks n j ≠ k0 := by
      intro j e
      by_cases hj : j < ks.length
      · have hm := sig_lt (n := n) hj
        rw [e] at hm
        have := List.all_eq_true.1 h.1.2 k0 hm
        simp at this
      · rw [sig_ge (by omega)] at e
        have : k0 < n := Nat.le_of_ble_eq_true h.1.1
        omega
    intro i j e
    cases i with
    | zero =>
      cases j with
      | zero => rfl
      | succ j => simp only [sig] at e; exact absurd e.symm (ne j)
    | succ i =>
      cases j with
      | zero => simp only [sig] at e; exact absurd e (ne i)
      | succ j => simp only [sig] at e; rw [ih h.2 e]
theorem ksOk_lt {ks : List Nat} {n : Nat} (h : ksOk n ks = true) : ∀ k ∈ ks, k < n := by
  induction ks with
  | nil => intro k hk; cases hk
  | cons k0 ks ih =>
    intro k hk
    simp only [ksOk, Bool.and_eq_true] at h
    rcases List.mem_cons.1 hk with rfl | hk
    · exact Nat.le_of_ble_eq_true h.1.1
    · exact ih h.2 k hk
/-- What stands under a number of the caller is what the contract tells, under the caller's numbers. -/
def Same (σ : Nat → Nat) (r r' : Reg) : Prop := ∀ p, r'.get p = (r.get p).map (renL σ)
theorem Same.free {σ : Nat → Nat} {c : List A} (h : ltL 0 c = true) : Same σ (.one c) (.one c) := by
  intro p
  cases p <;> simp [Reg.get, renL_free σ c h]
theorem Same.ren {σ : Nat → Nat} (r : Reg) : Same σ r (r.ren σ) := fun p => Reg.get_ren σ r p
theorem Same.one {σ : Nat → Nat} {c c' : List A} (h : renL σ c = c') : Same σ (.one c) (.one c') := by
  subst h; exact Same.ren (.one c)
theorem Same.gone {σ : Nat → Nat} : Same σ .gone .gone := fun p => rfl
/-- The caller's objects ahead of a call are those that the contract wants. -/
inductive PreOk (σ : Nat → Nat) (h : Nat → Reg) (q : Nat) : Nat → List Reg → Prop
  | nil (i : Nat) : PreOk σ h q i []
  | cons {i : Nat} {r r' : Reg} {rs : List Reg} : h (σ i) = r' → Same σ r r' → r.lt q → (∃ p c, r.get p = some c) → PreOk σ h q (i + 1) rs → PreOk σ h q i (r :: rs)
/-- What the contract leaves, under the caller's numbers. -/
inductive EffOk (σ : Nat → Nat) : Nat → List Reg → List (Nat × Reg) → Prop
  | nil (i : Nat) : EffOk σ i [] []
  | cons {i : Nat} {r r' : Reg} {rs : List Reg} {es : List (Nat × Reg)} : Same σ r r' → EffOk σ (i + 1) rs es → EffOk σ i (r :: rs) ((σ i, r') :: es)
theorem PreOk.get {σ : Nat → Nat} {h : Nat → Reg} {q : Nat} : ∀ {i : Nat} {rs : List Reg}, PreOk σ h q i rs → ∀ j r, rs[j]? = some r → Same σ r (h (σ (i + j))) ∧ r.lt q ∧ ∃ p c, r.get p = some c
  | _, _, .nil i, j, r, hj => by simp at hj
  | _, _, .cons (i := i) h1 h2 h3 hne h4, j, r, hj => by
    cases j with
    | zero => simp at hj; subst hj; rw [Nat.add_zero, h1]; exact ⟨h2, h3, hne⟩
    | succ j => simp at hj; have := h4.get j r hj; rw [show i + (j + 1) = i + 1 + j from by omega]; exact this
theorem EffOk.get {σ : Nat → Nat} (hσ : ∀ {i j : Nat}, σ i = σ j → i = j) (h : Nat → Reg) : ∀ {i : Nat} {rs : List Reg} {es : List (Nat × Reg)}, EffOk σ i rs es → ∀ j r, rs[j]? = some r → Same σ r (puts es h (σ (i + j)))
  | _, _, _, .nil i, j, r, hj => by simp at hj
  | _, _, _, .cons (i := i) h1 h2, j, r, hj => by
    cases j with
    | zero => simp at hj; subst hj; rw [Nat.add_zero]; simp only [puts]; rw [hput_same]; exact h1
    | succ j =>
      simp at hj
      simp only [puts]
      rw [hput_ne _ _ (fun e => by have := hσ e; omega)]
      have := EffOk.get hσ h h2 j r hj
      rw [show i + (j + 1) = i + 1 + j from by omega]; exact this
theorem EffOk.other {σ : Nat → Nat} (h : Nat → Reg) : ∀ {i : Nat} {rs : List Reg} {es : List (Nat × Reg)}, EffOk σ i rs es → ∀ k, (∀ j, j < rs.length → σ (i + j) ≠ k) → puts es h k = h k
  | _, _, _, .nil i, k, _ => rfl
  | _, _, _, .cons (i := i) (rs := rs) h1 h2, k, hk => by
    simp only [puts]
    rw [hput_ne _ _ (fun e => hk 0 (by simp) (by rw [Nat.add_zero]; exact e.symm))]
    exact h2.other h k (fun j hj => by have := hk (j + 1) (by simp; omega); rw [show i + (j + 1) = i + 1 + j from by omega] at this; exact this)
theorem regs_get {l : List Reg} {k : Nat} {p : List Nat} {c : List A} (h : (regs l k).get p = some c) : ∃ r, l[k]? = some r ∧ r.get p = some c ∧ k < l.length := by
  unfold regs at h
  cases hl : l[k]? with
  | none => rw [hl] at h; simp [Reg.get] at h
  | some r => rw [hl] at h; exact ⟨r, rfl, h, (List.getElem?_eq_some_iff.1 hl).1⟩
theorem regs_none {l : List Reg} {k : Nat} {p : List Nat} (h : (regs l k).get p ≠ none) : ∃ r c, l[k]? = some r ∧ r.get p = some c ∧ k < l.length := by
  obtain ⟨c, hc⟩ := Option.ne_none_iff_exists'.1 h
  obtain ⟨r, h1, h2, h3⟩ := regs_get hc
  exact ⟨r, c, h1, h2, h3⟩
open Classical in
/-- Where the caller's objects lie behind the call. -/
noncomputable def backPl (σ : Nat → Nat) (q1 : Nat) (f f1 : Pl) : Pl := fun k p => if h : ∃ i, i < q1 ∧ σ i = k then f1 h.choose p else f k p
theorem backPl_at {σ : Nat → Nat} (hσ : ∀ {i j : Nat}, σ i = σ j → i = j) {q1 : Nat} (f f1 : Pl) {i : Nat} (hi : i < q1) (p : List Nat) : backPl σ q1 f f1 (σ i) p = f1 i p := by
  unfold backPl
  have h : ∃ j, j < q1 ∧ σ j = σ i := ⟨i, hi, rfl⟩
  rw [dif_pos h]
  rw [hσ h.choose_spec.2]
theorem backPl_ne {σ : Nat → Nat} {q1 : Nat} (f f1 : Pl) {k : Nat} (hk : ¬ ∃ i, i < q1 ∧ σ i = k) (p : List Nat) : backPl σ q1 f f1 k p = f k p := by
  unfold backPl
  rw [dif_neg hk]

/-- The blocks of some objects. -/
def XK (h : Nat → Reg) (f : Pl) (ks : List Nat) (b : Nat) : Prop := ∃ k ∈ ks, ∃ p, (h k).get p ≠ none ∧ f k p = some (some b)
section
variable {P : Program} {C : Ctx} {s : St} {fr : Nat → Prop} {f : Pl} {a : Act} {w : World}
/-- The call in the caller's world. -/
theorem call_run (hrel : Rel C s fr f a w) {g : FuncId} {args : List A} {pre post : List Reg} {r : A} {Pp : List PanicEntry → Prop} (hc : FC P C.I g args pre r post Pp) {ks : List Nat} {n : Nat} (hks : ks.length = pre.length) (hok : ksOk n ks = true)
    (hfr : ∀ k, n ≤ k → k < n + (post.length - pre.length) → fr k) {es : List (Nat × Reg)} (hpre : PreOk (sig ks n) s.h pre.length 0 pre) (heff : EffOk (sig ks n) 0 post es) {vs : List Value} (hlt : ltL pre.length args = true)
    {Xa : Nat → Prop} (hXa1 : ∀ b, XK s.h f ks b → Xa b) (hXa2 : ∀ b, Xa b → C.X s.h f b) (hXa3 : (∀ b, C.X s.h f b → Xa b) ∨ (r.noRo = true ∧ ∀ (i : Nat) (rg : Reg) (p : List Nat) (c : List A), post[i]? = some rg → rg.get p = some c → noRoL c = true))
    (hargs : VL f Xa w (renL (sig ks n) args) vs) :
    Calls P g vs.toArray w fun
      | .returned v, w' => ∃ f', Rel C ⟨s.e, puts es s.h, s.n⟩ (fun k => fr k ∧ ¬ (n ≤ k ∧ k < n + (post.length - pre.length))) f' a w' ∧ V f' (C.X (puts es s.h) f') w' (r.ren (sig ks n)) v
      | .panicked ch, w' => Pp ch ∧ Kp C.X0 C.w0 w'
      | .outgrown, _ => False := by
  have hσ : ∀ {i j : Nat}, sig ks n i = sig ks n j → i = j := fun {i j} => sig_inj hok
  let f0 : Pl := fun k p => if k < pre.length then f (sig ks n k) p else none
  have hf0 : ∀ k, k < pre.length → f0 k = f (sig ks n k) := by
    intro k hk
    funext p
    show (if k < pre.length then f (sig ks n k) p else none) = _
    rw [if_pos hk]
  have hlen := hc.len
  have there : ∀ k p c, (regs pre k).get p = some c → k < pre.length ∧ (s.h (sig ks n k)).get p = some (renL (sig ks n) c) ∧ ltL pre.length c = true := by
    intro k p c hk
    obtain ⟨r0, h1, h2, h3⟩ := regs_get hk
    obtain ⟨h4, h5, _⟩ := hpre.get k r0 h1
    rw [Nat.zero_add] at h4
    exact ⟨h3, by rw [h4 p, h2]; rfl, h5 p c h2⟩
  have liveB : ∀ b, Live (regs pre) f0 b → Live s.h f b := by
    rintro b ⟨k, p, h1, h2⟩
    obtain ⟨c, hc⟩ := Option.ne_none_iff_exists'.1 h1
    obtain ⟨h3, h4, _⟩ := there k p c hc
    rw [hf0 k h3] at h2
    exact ⟨_, p, by rw [h4]; simp, h2⟩
  have liveLt : ∀ b, Live s.h f b → b < w.heap.size := by
    intro b hb
    obtain ⟨arr, el, h1⟩ := hrel.live_block hb
    exact (Array.getElem?_eq_some_iff.1 h1).1
  have liveK : ∀ b, Live (regs pre) f0 b → XK s.h f ks b := by
    rintro b ⟨k, p, h1, h2⟩
    obtain ⟨c, hc⟩ := Option.ne_none_iff_exists'.1 h1
    obtain ⟨h3, h4, _⟩ := there k p c hc
    rw [hf0 k h3] at h2
    exact ⟨_, sig_lt (by omega), p, by rw [h4]; simp, h2⟩
  let Y : Nat → Prop := fun b => Xa b ∧ ¬ Live (regs pre) f0 b
  have hXa0 : ∀ b, XOf (regs pre) f0 Y b → Xa b := by
    rintro b (hb | hb)
    · exact hXa1 b (liveK b hb)
    · exact hb.1
  have hX0 : ∀ b, XOf (regs pre) f0 Y b → C.X s.h f b := fun b hb => hXa2 b (hXa0 b hb)
  have hX0' : ∀ b, b < w.heap.size → XOf (regs pre) f0 Y b → C.X s.h f b := fun b _ => hX0 b
  have e1 : ∀ k, pre.length ≤ k → ∀ p, f0 k p = none := by
    intro k hk p
    show (if k < pre.length then f (sig ks n k) p else none) = none
    rw [if_neg (by omega)]
  have e2 : ∀ b, Y b → b < w.heap.size ∧ ¬ Live (regs pre) f0 b := by
    rintro b ⟨hb, hn⟩
    refine ⟨?_, hn⟩
    rcases hXa2 b hb with hb | hb
    · exact liveLt b hb
    · exact Nat.lt_of_lt_of_le (hrel.y b hb).1 hrel.kp.size
  have e3 : HR f0 (XOf (regs pre) f0 Y) w (regs pre) := by
    intro k p c hk
    obtain ⟨h3, h4, h5⟩ := there k p c hk
    rcases hrel.h _ p _ h4 with ⟨h6, h7⟩ | ⟨b, arr, el, h6, h7, h8, h9⟩
    · refine .inl ⟨?_, by rw [hf0 k h3]; exact h7⟩
      have := congrArg List.length h6
      rw [renL_length] at this
      simpa using this
    · refine .inr ⟨b, arr, el, by rw [hf0 k h3]; exact h6, h7, by rw [renL_length] at h8; exact h8, ?_⟩
      rw [renL_length] at h9
      have := VL.unren c f f0 hf0 h5 _ h9
      exact this.mono (Ext.refl _) hX0' (Kp.refl (fun _ => False) w) (fun _ _ h => h.elim)
  have e4 : Inj (regs pre) f0 := by
    intro k p k' p' b h1 h2 h3 h4
    obtain ⟨c, hc⟩ := Option.ne_none_iff_exists'.1 h1
    obtain ⟨c', hc'⟩ := Option.ne_none_iff_exists'.1 h2
    obtain ⟨g1, g2, _⟩ := there k p c hc
    obtain ⟨g3, g4, _⟩ := there k' p' c' hc'
    rw [hf0 k g1] at h3
    rw [hf0 k' g3] at h4
    have := hrel.inj _ p _ p' b (by rw [g2]; simp) (by rw [g4]; simp) h3 h4
    exact ⟨hσ this.1, this.2⟩
  have e5 : VL f0 (XOf (regs pre) f0 Y) w args vs := (VL.unren args f f0 hf0 hlt vs hargs).mono (Ext.refl _) (fun b _ => hXa0 b) (Kp.refl (fun _ => False) w) (fun _ _ h => h.elim)
  refine (hc.call f0 Y w vs hrel.gi (fun b hb => hrel.high (liveB b hb)) e1 e2 e3 e4 e5).mono ?_
  intro en w' hp
  cases en with
  | outgrown => exact hp
  | panicked ch =>
    obtain ⟨h1, h2⟩ := hp
    refine ⟨h1, hrel.kp.trans' h2 (fun i hi hl => ?_)⟩
    rcases hrel.new i (liveB i hl) with h | h
    · omega
    · exact h
  | returned v =>
    obtain ⟨f1, g1, g2, g3, g4, g5, g6, g7⟩ := hp
    let f' : Pl := backPl (sig ks n) post.length f f1
    have at' : ∀ i, i < post.length → ∀ p, f' (sig ks n i) p = f1 i p := fun i hi p => backPl_at hσ f f1 hi p
    have up : ∀ k p b, f1 k p = some b → f' (sig ks n k) p = some b := by
      intro k p b hb
      have hk : k < post.length := by
        rcases Nat.lt_or_ge k post.length with h | h
        · exact h
        · rw [g2 k h p] at hb; cases hb
      rw [at' k hk]; exact hb
    have hext : Ext f f' := by
      intro k p b hb
      by_cases hk : ∃ i, i < post.length ∧ sig ks n i = k
      · obtain ⟨i, hi, rfl⟩ := hk
        rw [at' i hi]
        by_cases hq : i < pre.length
        · refine g1 i p b ?_
          rw [hf0 i hq]; exact hb
        · rw [sig_ge (by omega)] at hb
          rw [hrel.fr _ (hfr _ (by omega) (by omega))] at hb
          cases hb
      · rw [show f' k p = f k p from backPl_ne f f1 hk p]; exact hb
    have now : ∀ k p c, (puts es s.h k).get p = some c → (∃ i c1, i < post.length ∧ k = sig ks n i ∧ c = renL (sig ks n) c1 ∧ (regs post i).get p = some c1) ∨ ((¬ ∃ i, i < post.length ∧ sig ks n i = k) ∧ (s.h k).get p = some c) := by
      intro k p c hk
      by_cases hi : ∃ i, i < post.length ∧ sig ks n i = k
      · obtain ⟨i, hi, rfl⟩ := hi
        have hr : post[i]? = some post[i] := List.getElem?_eq_getElem hi
        have := heff.get hσ s.h i _ hr
        rw [Nat.zero_add] at this
        rw [this p] at hk
        cases hg : (post[i]).get p with
        | none => rw [hg] at hk; cases hk
        | some c1 =>
          rw [hg] at hk
          simp only [Option.map_some, Option.some.injEq] at hk
          exact .inl ⟨i, c1, hi, rfl, hk.symm, by unfold regs; rw [hr]; exact hg⟩
      · refine .inr ⟨hi, ?_⟩
        rw [heff.other s.h k (fun j hj => by rw [Nat.zero_add]; exact fun e => hi ⟨j, hj, e⟩)] at hk
        exact hk
    have notMine : ∀ k p b, (¬ ∃ i, i < post.length ∧ sig ks n i = k) → (s.h k).get p ≠ none → f k p = some (some b) → ¬ Live (regs pre) f0 b := by
      rintro k p b hk h1 h2 ⟨i, p', h3, h4⟩
      obtain ⟨c', hc'⟩ := Option.ne_none_iff_exists'.1 h3
      obtain ⟨k1, k2, _⟩ := there i p' c' hc'
      rw [hf0 i k1] at h4
      have := hrel.inj _ p _ p' b h1 (by rw [k2]; simp) h2 h4
      exact hk ⟨i, by omega, this.1.symm⟩
    have lnew : ∀ b, Live (puts es s.h) f' b → Live (regs post) f1 b ∨ (Live s.h f b ∧ ¬ Live (regs pre) f0 b) := by
      rintro b ⟨k, p, h1, h2⟩
      obtain ⟨c, hc⟩ := Option.ne_none_iff_exists'.1 h1
      rcases now k p c hc with ⟨i, c1, hi, rfl, rfl, h3⟩ | ⟨hk, h3⟩
      · rw [at' i hi] at h2
        exact .inl ⟨i, p, by rw [h3]; simp, h2⟩
      · rw [show f' k p = f k p from backPl_ne f f1 hk p] at h2
        exact .inr ⟨⟨k, p, by rw [h3]; simp, h2⟩, notMine k p b hk (by rw [h3]; simp) h2⟩
    have hX1 : (∀ b, C.X s.h f b → Xa b) → ∀ b, C.X (puts es s.h) f' b → XOf (regs post) f1 Y b := by
      rintro hfull b (hb | hb)
      · rcases lnew b hb with h | ⟨h, h'⟩
        · exact .inl h
        · exact .inr ⟨hfull b (.inl h), h'⟩
      · refine .inr ⟨hfull b (.inr hb), fun hl => ?_⟩
        have h1 := hrel.y b hb
        rcases hrel.new b (liveB b hl) with h | h
        · omega
        · exact h1.2 h
    have hX2 : ∀ b, b < w.heap.size → C.X (puts es s.h) f' b → C.X s.h f b := by
      rintro b hlt (hb | hb)
      · rcases lnew b hb with h | ⟨h, _⟩
        · rcases g7 b h with h | h
          · omega
          · exact .inl (liveB b h)
        · exact .inl h
      · exact .inr hb
    have hZ : ∀ b, b < w.heap.size → Live (regs pre) f0 b → C.X s.h f b := fun b _ h => .inl (liveB b h)
    have mono : ∀ x v, V f (C.X s.h f) w x v → V f' (C.X (puts es s.h) f') w' x v := fun x v h => h.mono hext hX2 g6 hZ
    have monoL : ∀ x v, VL f (C.X s.h f) w x v → VL f' (C.X (puts es s.h) f') w' x v := fun x v h => h.mono hext hX2 g6 hZ
    have mono1 : ∀ x v, ((∀ b, C.X s.h f b → Xa b) ∨ x.noRo = true) → V f1 (XOf (regs post) f1 Y) w' x v → V f' (C.X (puts es s.h) f') w' (x.ren (sig ks n)) v := by
      rintro x v (hfull | hno) h
      · exact (V.ren x f1 f' up v h).mono (Ext.refl _) (fun b _ => hX1 hfull b) (Kp.refl (fun _ => False) w') (fun _ _ h => h.elim)
      · exact V.ren x f1 f' up v (V.change x hno v h)
    have monoL1 : ∀ x v, ((∀ b, C.X s.h f b → Xa b) ∨ noRoL x = true) → VL f1 (XOf (regs post) f1 Y) w' x v → VL f' (C.X (puts es s.h) f') w' (renL (sig ks n) x) v := by
      rintro x v (hfull | hno) h
      · exact (VL.ren x f1 f' up v h).mono (Ext.refl _) (fun b _ => hX1 hfull b) (Kp.refl (fun _ => False) w') (fun _ _ h => h.elim)
      · exact VL.ren x f1 f' up v (VL.change x hno v h)
    refine ⟨f', { N := hrel.N, defers := hrel.defers, e := fun i x hx => mono _ _ (hrel.e i x hx), h := ?_, inj := ?_, kp := ?_, new := ?_, y := hrel.y, fr := ?_, ext := hrel.ext.trans hext, dom := hrel.dom }, mono1 _ _ (hXa3.imp id And.left) g3⟩
    · intro k p c hk
      rcases now k p c hk with ⟨i, c1, hi, rfl, rfl, h3⟩ | ⟨hk, h3⟩
      · rcases g4 i p c1 h3 with ⟨rfl, h5⟩ | ⟨b, arr, el, h5, h6, h7, h8⟩
        · exact .inl ⟨rfl, by rw [at' i hi]; exact h5⟩
        · exact .inr ⟨b, arr, el, by rw [at' i hi]; exact h5, h6, by rw [renL_length]; exact h7, by rw [renL_length]; exact monoL1 _ _ (hXa3.imp id (fun hh => by obtain ⟨rg, q1, q2, _⟩ := regs_get h3; exact hh.2 i rg p c1 q1 q2)) h8⟩
      · rcases hrel.h k p c h3 with ⟨h4, h5⟩ | ⟨b, arr, el, h5, h6, h7, h8⟩
        · exact .inl ⟨h4, hext _ _ _ h5⟩
        · have hb := (Array.getElem?_eq_some_iff.1 h6).1
          have hnm := notMine k p b hk (by rw [h3]; simp) h5
          exact .inr ⟨b, arr, el, hext _ _ _ h5, by rw [g6.same b hb hnm]; exact h6, h7, monoL _ _ h8⟩
    · intro k p k' p' b h1 h2 h3 h4
      obtain ⟨c, hc⟩ := Option.ne_none_iff_exists'.1 h1
      obtain ⟨c', hc'⟩ := Option.ne_none_iff_exists'.1 h2
      rcases now k p c hc with ⟨i, c1, hi, rfl, rfl, h5⟩ | ⟨hk, h5⟩ <;> rcases now k' p' c' hc' with ⟨i', c1', hi', rfl, rfl, h6⟩ | ⟨hk', h6⟩
      · rw [at' i hi] at h3
        rw [at' i' hi'] at h4
        have := g5 i p i' p' b (by rw [h5]; simp) (by rw [h6]; simp) h3 h4
        exact ⟨by rw [this.1], this.2⟩
      · rw [at' i hi] at h3
        rw [show f' k' p' = f k' p' from backPl_ne f f1 hk' p'] at h4
        have hnm := notMine k' p' b hk' (by rw [h6]; simp) h4
        have hlb := liveLt b ⟨k', p', by rw [h6]; simp, h4⟩
        rcases g7 b ⟨i, p, by rw [h5]; simp, h3⟩ with h | h
        · omega
        · exact absurd h hnm
      · rw [at' i' hi'] at h4
        rw [show f' k p = f k p from backPl_ne f f1 hk p] at h3
        have hnm := notMine k p b hk (by rw [h5]; simp) h3
        have hlb := liveLt b ⟨k, p, by rw [h5]; simp, h3⟩
        rcases g7 b ⟨i', p', by rw [h6]; simp, h4⟩ with h | h
        · omega
        · exact absurd h hnm
      · rw [show f' k p = f k p from backPl_ne f f1 hk p] at h3
        rw [show f' k' p' = f k' p' from backPl_ne f f1 hk' p'] at h4
        exact hrel.inj k p k' p' b (by rw [h5]; simp) (by rw [h6]; simp) h3 h4
    · refine hrel.kp.trans' g6 (fun i hi hl => ?_)
      rcases hrel.new i (liveB i hl) with h | h
      · omega
      · exact h
    · intro b hb
      rcases lnew b hb with h | ⟨h, _⟩
      · rcases g7 b h with h | h
        · exact .inl (Nat.le_trans hrel.kp.size h)
        · exact hrel.new b (liveB b h)
      · exact hrel.new b h
    · rintro k ⟨hk, hn⟩ p
      have hk' : ¬ ∃ i, i < post.length ∧ sig ks n i = k := by
        rintro ⟨i, hi, rfl⟩
        by_cases hq : i < pre.length
        · have hr : pre[i]? = some pre[i] := List.getElem?_eq_getElem hq
          obtain ⟨_, _, p1, c1, h3⟩ := hpre.get i _ hr
          obtain ⟨_, h4, _⟩ := there i p1 c1 (by unfold regs; rw [hr]; exact h3)
          rcases hrel.h _ p1 _ h4 with ⟨_, h5⟩ | ⟨_, _, _, h5, _⟩ <;> (rw [hrel.fr _ hk p1] at h5; cases h5)
        · exact hn (by rw [sig_ge (by omega)]; omega)
      rw [show f' k p = f k p from backPl_ne f f1 hk' p]
      exact hrel.fr k hk p
end
section
variable {P : Program} {C : Ctx} {ops : Array Oper} {draw : Bool} {Q : AQ} {s0 : St} {tr : List TE} {e : Nat → Option A} {h : Nat → Reg} {n : Nat}
theorem PreOk.congr {σ : Nat → Nat} {h h' : Nat → Reg} {q : Nat} : ∀ {i : Nat} {rs : List Reg}, PreOk σ h q i rs → (∀ j, j < rs.length → h' (σ (i + j)) = h (σ (i + j))) → PreOk σ h' q i rs
  | _, _, .nil i, _ => .nil i
  | _, _, .cons (i := i) h1 h2 h3 hne h4, hh => .cons (by have := hh 0 (by simp); rw [Nat.add_zero] at this; rw [this]; exact h1) h2 h3 hne
      (h4.congr (fun j hj => by have := hh (j + 1) (by simp; omega); rw [show i + (j + 1) = i + 1 + j from by omega] at this; exact this))
theorem PreOk.one {σ : Nat → Nat} {q i : Nat} {c : List A} {rs : List Reg} (h1 : h (σ i) = .one c) (h2 : ltL 0 c = true) (h3 : PreOk σ h q (i + 1) rs) : PreOk σ h q i (.one c :: rs) :=
  .cons h1 (Same.free h2) (Reg.lt_one (ltL_mono (Nat.zero_le _) c h2)) ⟨[], c, rfl⟩ h3
theorem EffOk.one {σ : Nat → Nat} {i : Nat} {c : List A} {rs : List Reg} {es : List (Nat × Reg)} (h2 : ltL 0 c = true) (h3 : EffOk σ (i + 1) rs es) : EffOk σ i (.one c :: rs) ((σ i, .one c) :: es) :=
  .cons (Same.free h2) h3
/-- A call by its contract. -/
theorem RG.call {d : Option Tmp} {fo : Operand} {xs : Array Operand} {ts : Array TypeId} {ty : TypeId} {pos : String} {af : Array Edge} {g : Option (Nat × Bool)} {gid : FuncId} {first as caps args : List A} {pre post : List Reg} {r : A} {r' : A} {Pp : List PanicEntry → Prop}
    (ho : ops[tr.length]? = some ⟨d, .call ⟨.value fo, xs, ts⟩, ty, pos, af, g⟩) (hg : wantA ops g e = some true) (hf : evE e fo = some (.fn gid first caps)) (hx : mapEv (evE e) xs.toList = some as)
    (hc : FC P C.I gid args pre r post Pp) (ks : List Nat) (hks : ks.length = pre.length) (hok : ksOk n ks = true) (hargs : first ++ as ++ caps = renL (sig ks n) args) (hlt : ltL pre.length args = true)
    {es : List (Nat × Reg)} (hpre : PreOk (sig ks n) h pre.length 0 pre) (heff : EffOk (sig ks n) 0 post es) (hp : ∀ ch, Pp ch → Q.p ch) (hd : dOk C d = true) (hr' : r.ren (sig ks n) = r') {m1 : Nat} (hm1 : post.length - pre.length = m1)
    (hr : RG P C ops draw Q s0 (⟨fpOf ops ⟨d, .call ⟨.value fo, xs, ts⟩, ty, pos, af, g⟩ ks, d, ⟨some r', es, m1⟩, n⟩ :: tr) ⟨putd d (some r') e, puts es h, n + m1⟩) : RG P C ops draw Q s0 tr ⟨e, h, n⟩ := by
  subst hr' hm1
  refine RG.step (s := ⟨e, h, n⟩) ⟨fpOf ops ⟨d, .call ⟨.value fo, xs, ts⟩, ty, pos, af, g⟩ ks, d, ⟨some (r.ren (sig ks n)), es, post.length - pre.length⟩, n⟩ rfl (wstep_of ho rfl hg ?_) hr
  intro s fr f a w ha hfr hrel next Q' hQ' hnext
  obtain ⟨_, h1, h2⟩ := ha.parts
  have hf' : evE s.e fo = some (.fn gid first caps) := (h1 fo (by simp [Op.operands, Call.operands])).trans hf
  have hx' : mapEv (evE s.e) xs.toList = some as := by
    rw [mapEv_congr (ev := evE s.e) (ev' := evE e) xs.toList (fun x hx => h1 x (by simp [Op.operands, Call.operands] at hx ⊢; exact .inr hx))]; exact hx
  have hpre' : PreOk (sig ks n) s.h pre.length 0 pre := hpre.congr (fun j hj => by rw [Nat.zero_add]; exact h2 _ (sig_lt (by omega)))
  have hvs := mapEv_spec (f := f) (X := C.X s.h f) (w := w) (ρ := a.eval) (fun x v hx => hrel.ev hx) hx'
  have hfv := hrel.ev hf'
  simp only [V] at hfv
  obtain ⟨fs, cs, k1, k2, k3⟩ := hfv
  have hall : VL f (C.X s.h f) w (renL (sig ks n) args) (fs ++ xs.toList.map a.eval ++ cs) := by rw [← hargs]; exact (k2.append hvs).append k3
  have hcall := call_run hrel hc hks hok (fun k hk1 hk2 => hfr k ⟨hk1, hk2⟩) hpre' heff hlt (Xa := C.X s.h f) (fun b hb => by obtain ⟨k, _, p, h1, h2⟩ := hb; exact .inl ⟨k, p, h1, h2⟩) (fun b hb => hb) (.inl (fun b hb => hb)) hall
  unfold Oper.wp
  have hrun : (execOp a.eval ⟨d, .call ⟨.value fo, xs, ts⟩, ty, pos, af, g⟩).run P w = .ok (.enter gid (fs ++ xs.toList.map a.eval ++ cs).toArray) w := by
    have e1 : (fs.toArray ++ xs.map a.eval ++ cs.toArray) = (fs ++ xs.toList.map a.eval ++ cs).toArray := by
      apply Array.ext'; simp
    simp only [execOp, resolve, k1, Deferred.ofValue, Sem.run_bind, Sem.run_pure, Result.andThen, invoke]
    rw [hc.enter, e1]
  rw [hrun, Oper.upon_enter]
  refine hcall.mono ?_
  intro en w' hen
  cases en with
  | outgrown => exact hen.elim
  | panicked ch => exact hQ' ch a w' ⟨hp ch hen.1, hen.2, hrel.defers⟩
  | returned v =>
    obtain ⟨f', g1, g2⟩ := hen
    exact hnext _ _ f' { g1.put hd (o := some (r.ren (sig ks n))) (v := v) (fun y hy => by simp only [Option.some.injEq] at hy; subst hy; exact g2) with fr := g1.fr }
end
end Go.Abs
namespace Go.Abs
open Go.RowKit
section
variable {P : Program} {L : List (Nat × TI)} {C : Ctx} {ops : Array Oper} {draw : Bool} {Q : AQ} {s0 : St} {tr : List TE} {e : Nat → Option A} {h : Nat → Reg} {n : Nat}
/-- A test is decided. -/
theorem RG.split {p : Prop} [Decidable p] (d : Nat) (hd : e d = some (.val (.bool (decide p)))) (ht : p → RG P C ops draw Q s0 tr ⟨put d (some (.val (.bool true))) e, h, n⟩)
    (hf : ¬ p → RG P C ops draw Q s0 tr ⟨put d (some (.val (.bool false))) e, h, n⟩) : RG P C ops draw Q s0 tr ⟨e, h, n⟩ := by
  have key : ∀ b : Bool, decide p = b → put d (some (.val (.bool b))) e = e := by
    intro b hb
    funext i
    by_cases hi : i = d
    · subst hi; rw [put_same, hd, hb]
    · rw [put_ne _ _ hi]
  by_cases hp : p
  · have := ht hp
    rwa [key true (by simpa using hp)] at this
  · have := hf hp
    rwa [key false (by simpa using hp)] at this
theorem RG.splitB {b : Bool} (d : Nat) (hd : e d = some (.val (.bool b))) (ht : b = true → RG P C ops draw Q s0 tr ⟨put d (some (.val (.bool true))) e, h, n⟩)
    (hf : b = false → RG P C ops draw Q s0 tr ⟨put d (some (.val (.bool false))) e, h, n⟩) : RG P C ops draw Q s0 tr ⟨e, h, n⟩ := by
  have key : put d (some (.val (.bool b))) e = e := by
    funext i
    by_cases hi : i = d
    · subst hi; rw [put_same, hd]
    · rw [put_ne _ _ hi]
  cases b
  · have := hf rfl; rwa [key] at this
  · have := ht rfl; rwa [key] at this
/-- A slot's value spelled otherwise. -/
theorem RG.put (d : Nat) {v v' : A} (hd : e d = some v) (hv : v = v') (hr : RG P C ops draw Q s0 tr ⟨Go.Abs.put d (some v') e, h, n⟩) : RG P C ops draw Q s0 tr ⟨e, h, n⟩ := by
  subst hv
  have key : Go.Abs.put d (some v) e = e := by
    funext i
    by_cases hi : i = d
    · subst hi; rw [put_same, hd]
    · rw [put_ne _ _ hi]
  rwa [key] at hr
theorem puts_congr {hs : List (Nat × Reg)} {h h' : Nat → Reg} : ∀ k, (k ∈ hs.map (·.1) ∨ h k = h' k) → puts hs h k = puts hs h' k := fun k hk => puts_eq hk
theorem rel_h {C : Ctx} {s : St} {fr : Nat → Prop} {f : Pl} {a : Act} {w : World} {e' : Nat → Option A} {n' : Nat} {h' : Nat → Reg} (hr : Rel C s fr f a w) (he : s.e = e') (hh : s.h = h') : Rel C ⟨e', h', n'⟩ fr f a w := by
  subst he hh
  exact { hr with N := hr.N }
/-- An append. -/
theorem RG.append (hT : TOk P L) {d : Option Tmp} {x y : Operand} {t t2 : TypeId} {ty : TypeId} {pos : String} {af : Array Edge} {g : Option (Nat × Bool)} {a1 a2 : A} {el e2 s1 b1 s2 b2 : Nat} {c1 c2 : Bool} {z1 z2 : List A} {k3 : TK} {st by_ : Nat} {g3 : Bool} {z3 : List A}
    (ho : ops[tr.length]? = some ⟨d, .call ⟨.builtin .append, #[x, y], #[t, t2]⟩, ty, pos, af, g⟩) (hg : wantA ops g e = some true) (hx : evE e x = some a1) (hy : evE e y = some a2)
    (ht : look L t = some ⟨.slice el, s1, b1, c1, z1⟩) (ht2 : look L t2 = some ⟨.slice e2, s2, b2, c2, z2⟩) (hte : look L el = some ⟨k3, st, by_, g3, z3⟩) (hz : (Nat.beq z3.length st && !Nat.beq st 0) = true)
    {n1 m : Nat} {c l : List A} {ks ks' : List Nat} (hd1 : dstA a1 st h = some (n1, c, ks)) (hs1 : srcA a2 st h = some (m, l, ks')) (hlen : l.length = m * st) (hc : n1 * st ≤ c.length) (hcell : l.all A.cell = true)
    (hsz : (n1 + m) * by_ ≤ 140737488355328) (hml : n1 + m ≤ 9223372036854775807) (hd : dOk C d = true) {c' : List A} (hc' : c.take (n1 * st) ++ l = c')
    (hr : RG P C ops draw Q s0 (⟨fpOf ops ⟨d, .call ⟨.builtin .append, #[x, y], #[t, t2]⟩, ty, pos, af, g⟩ (ks ++ ks'), d, ⟨some (.sl n [] st 0 (n1 + m)), (n, .one c') :: ks.map (fun k => (k, Reg.gone)), 1⟩, n⟩ :: tr)
      ⟨putd d (some (.sl n [] st 0 (n1 + m))) e, puts ((n, .one c') :: ks.map (fun k => (k, Reg.gone))) h, n + 1⟩) : RG P C ops draw Q s0 tr ⟨e, h, n⟩ := by
  subst hc'
  simp only [Bool.and_eq_true, Bool.not_eq_true'] at hz
  have hz1 := Nat.eq_of_beq_eq_true hz.1
  have hz2 : st ≠ 0 := by rintro rfl; simp at hz
  refine RG.step (s := ⟨e, h, n⟩) ⟨fpOf ops ⟨d, .call ⟨.builtin .append, #[x, y], #[t, t2]⟩, ty, pos, af, g⟩ (ks ++ ks'), d, ⟨some (.sl n [] st 0 (n1 + m)), (n, .one (c.take (n1 * st) ++ l)) :: ks.map (fun k => (k, Reg.gone)), 1⟩, n⟩ rfl (wstep_of ho rfl hg ?_) hr
  intro s fr f a w ha hfr hrel next Q' hQ' hnext
  obtain ⟨_, h1, h2⟩ := ha.parts
  have hx' : evE s.e x = some a1 := (h1 x (by simp [Op.operands, Call.operands])).trans hx
  have hy' : evE s.e y = some a2 := (h1 y (by simp [Op.operands, Call.operands])).trans hy
  have hd1' : dstA a1 st s.h = some (n1, c, ks) := by
    unfold dstA at hd1 ⊢
    split at hd1
    · rename_i k st' n'
      have : s.h k = h k := by
        refine h2 k ?_
        cases hb : Nat.beq st' st with
        | false => rw [hb] at hd1; cases hd1
        | true =>
          rw [hb] at hd1
          simp only [cond_true] at hd1
          split at hd1
          · simp only [Option.some.injEq, Prod.mk.injEq] at hd1
            rw [← hd1.2.2]; simp
          · cases hd1
      rw [this]; exact hd1
    · exact hd1
    · cases hd1
  have hs1' := srcA_congr hs1 (h' := s.h) (fun k hk => h2 k (by simp [hk]))
  have hn : fr n := hfr n ⟨Nat.le_refl _, by simp⟩
  obtain ⟨v', w', f', r1, r2, r3, r4⟩ := append_run (P := P) (ty := ty) hT hrel hn ht ht2 hte hz1 hz2 (hrel.ev hx') (hrel.ev hy') hd1' hs1' hlen hc hcell hsz hml
  unfold Oper.wp
  have hrun : (execOp a.eval ⟨d, .call ⟨.builtin .append, #[x, y], #[t, t2]⟩, ty, pos, af, g⟩).run P w = .ok (.value v') w' := by
    simp only [execOp, resolve, Sem.run_bind, Sem.run_pure, Result.andThen, invoke, builtin, List.map_toArray, List.map_cons, List.map_nil, r1]
  rw [hrun]
  refine hnext _ _ f' { r3.put hd (o := some (.sl n [] st 0 (n1 + m))) (v := v') (fun y hy => by simp only [Option.some.injEq] at hy; subst hy; exact r4) with fr := fun k hk => r3.fr k (fr_one hk) }
/-- What is lent: in a call the objects of bs are told as what is only read. -/
def View (h : Nat → Reg) (ks bs : List Nat) (a a' : A) : Prop :=
  ∀ (C : Ctx) (s : St) (fr : Nat → Prop) (f : Pl) (act : Act) (w : World), (∀ k ∈ bs, s.h k = h k) → Rel C s fr f act w → ∀ v, V f (C.X s.h f) w a v → V f (XK s.h f ks) w a' v
theorem XK_le {C : Ctx} {h : Nat → Reg} {f : Pl} {ks : List Nat} (b : Nat) (hb : XK h f ks b) : C.X h f b := by
  obtain ⟨k, _, p, h1, h2⟩ := hb
  exact .inl ⟨k, p, h1, h2⟩
theorem View.refl (h : Nat → Reg) (ks bs : List Nat) (a : A) : View h ks bs a a :=
  fun C s fr f act w _ hr v hv => hv.mono (Ext.refl f) (fun b _ hb => XK_le b hb) (Kp.refl (fun _ => False) w) (fun _ _ h => h.elim)
theorem V.toNo {f : Pl} {X : Nat → Prop} {w : World} (a : A) (hl : a.lt 0 = true) (v : Value) (hv : V f X w a v) : V noPl X w a v := by
  have := V.unren (σ := id) (q := 0) a f noPl (fun k hk => by omega) hl v (by rw [A.ren_free id a hl]; exact hv)
  exact this
theorem VL.toNo {f : Pl} {X : Nat → Prop} {w : World} (a : List A) (hl : ltL 0 a = true) (v : List Value) (hv : VL f X w a v) : VL Go.Abs.noPl X w a v :=
  VL.unren (σ := id) (q := 0) a f Go.Abs.noPl (fun k hk => by omega) hl v (by rw [renL_free id a hl]; exact hv)
/-- A slice of an object's cells is lent. -/
theorem View.sl {h : Nat → Reg} {ks bs : List Nat} {k st off n : Nat} {p : List Nat} {c l : List A} (hk : (h k).get p = some c) (hb : k ∈ bs) (hks : k ∉ ks) (hl : (c.drop off).take (n * st) = l) (hfree : ltL 0 l = true) : View h ks bs (.sl k p st off n) (.ro n l) := by
  intro C s fr f act w hh hr v hv
  subst hl
  have hk' : (s.h k).get p = some c := by rw [hh k hb]; exact hk
  simp only [V] at hv ⊢
  rcases hv with ⟨h1, rfl, rfl, rfl⟩ | ⟨b, cap, h1, rfl, h3, h4, arr0, el0, z0, h5, h6⟩
  · exact ⟨none, 0, rfl, Nat.le_refl _, Nat.zero_le _, fun _ => ⟨rfl, rfl, by simp⟩, fun q hq => by cases hq⟩
  · obtain ⟨arr, el, g1, g2, g3⟩ := hr.cells hk' h1
    refine ⟨_, cap, rfl, h3, h4, (fun hq => by cases hq), fun q hq => ?_⟩
    simp only [Option.some.injEq] at hq
    subst hq
    refine .inr ⟨rfl, ?_, (Array.getElem?_eq_some_iff.1 g1).1, ((arr.toList.take c.length).drop off).take (n * st), ?_, ?_⟩
    · rintro ⟨k', hk1, p', hk2, hk3⟩
      have := hr.inj k' p' k p b hk2 (by rw [hk']; simp) hk3 h1
      exact hks (this.1 ▸ hk1)
    · exact VL.toNo _ hfree _ (((g3.drop off).take (n * st)).mono (Ext.refl f) (fun b _ hb => XK_le b hb) (Kp.refl (fun _ => False) w) (fun _ _ h => h.elim))
    · intro j u hj
      rw [List.getElem?_take] at hj
      split at hj
      · rw [List.getElem?_drop, List.getElem?_take] at hj
        split at hj
        · simp only [World.cell?, g1]
          simpa using hj
        · cases hj
      · cases hj
inductive Views (h : Nat → Reg) (ks bs : List Nat) : List A → List A → Prop
  | nil : Views h ks bs [] []
  | cons {a a' : A} {l l' : List A} : View h ks bs a a' → Views h ks bs l l' → Views h ks bs (a :: l) (a' :: l')
theorem Views.VL {h : Nat → Reg} {ks bs : List Nat} {C : Ctx} {s : St} {fr : Nat → Prop} {f : Pl} {act : Act} {w : World} (hh : ∀ k ∈ bs, s.h k = h k) (hr : Rel C s fr f act w) : ∀ {l l' : List A} {vs : List Value}, Views h ks bs l l' → VL f (C.X s.h f) w l vs → Go.Abs.VL f (XK s.h f ks) w l' vs
  | _, _, vs, .nil, hv => by rw [hv.unnil]; exact Go.Abs.VL.nil
  | _, _, vs, .cons h1 h2, hv => by obtain ⟨v, t, rfl, h3, h4⟩ := hv.uncons; exact Go.Abs.VL.cons (h1 C s fr f act w hh hr v h3) (h2.VL hh hr h4)
/-- A call by its contract, to which objects are lent. -/
theorem RG.callB {d : Option Tmp} {fo : Operand} {xs : Array Operand} {ts : Array TypeId} {ty : TypeId} {pos : String} {af : Array Edge} {g : Option (Nat × Bool)} {gid : FuncId} {first as caps args : List A} {pre post : List Reg} {r : A} {r' : A} {Pp : List PanicEntry → Prop}
    (ho : ops[tr.length]? = some ⟨d, .call ⟨.value fo, xs, ts⟩, ty, pos, af, g⟩) (hg : wantA ops g e = some true) (hf : evE e fo = some (.fn gid first caps)) (hx : mapEv (evE e) xs.toList = some as)
    (hc : FC P C.I gid args pre r post Pp) (ks bs : List Nat) (hks : ks.length = pre.length) (hok : ksOk n ks = true) {args' : List A} (hview : Views h ks bs (first ++ as ++ caps) args') (hargs : args' = renL (sig ks n) args) (hlt : ltL pre.length args = true)
    (hno : r.noRo = true) (hnop : ∀ (i : Nat) (rg : Reg) (p : List Nat) (c : List A), post[i]? = some rg → rg.get p = some c → noRoL c = true)
    {es : List (Nat × Reg)} (hpre : PreOk (sig ks n) h pre.length 0 pre) (heff : EffOk (sig ks n) 0 post es) (hp : ∀ ch, Pp ch → Q.p ch) (hd : dOk C d = true) (hr' : r.ren (sig ks n) = r') {m1 : Nat} (hm1 : post.length - pre.length = m1)
    (hr : RG P C ops draw Q s0 (⟨fpOf ops ⟨d, .call ⟨.value fo, xs, ts⟩, ty, pos, af, g⟩ (ks ++ bs), d, ⟨some r', es, m1⟩, n⟩ :: tr) ⟨putd d (some r') e, puts es h, n + m1⟩) : RG P C ops draw Q s0 tr ⟨e, h, n⟩ := by
  subst hr' hm1 hargs
  refine RG.step (s := ⟨e, h, n⟩) ⟨fpOf ops ⟨d, .call ⟨.value fo, xs, ts⟩, ty, pos, af, g⟩ (ks ++ bs), d, ⟨some (r.ren (sig ks n)), es, post.length - pre.length⟩, n⟩ rfl (wstep_of ho rfl hg ?_) hr
  intro s fr f a w ha hfr hrel next Q' hQ' hnext
  obtain ⟨_, h1, h2⟩ := ha.parts
  have hf' : evE s.e fo = some (.fn gid first caps) := (h1 fo (by simp [Op.operands, Call.operands])).trans hf
  have hx' : mapEv (evE s.e) xs.toList = some as := by
    rw [mapEv_congr (ev := evE s.e) (ev' := evE e) xs.toList (fun x hx => h1 x (by simp [Op.operands, Call.operands] at hx ⊢; exact .inr hx))]; exact hx
  have hpre' : PreOk (sig ks n) s.h pre.length 0 pre := hpre.congr (fun j hj => by rw [Nat.zero_add]; exact h2 _ (by simp [sig_lt (n := n) (show j < ks.length by omega)]))
  have hvs := mapEv_spec (f := f) (X := C.X s.h f) (w := w) (ρ := a.eval) (fun x v hx => hrel.ev hx) hx'
  have hfv := hrel.ev hf'
  simp only [V] at hfv
  obtain ⟨fs, cs, k1, k2, k3⟩ := hfv
  have hall : VL f (XK s.h f ks) w (renL (sig ks n) args) (fs ++ xs.toList.map a.eval ++ cs) := hview.VL (fun k hk => h2 k (by simp [hk])) hrel ((k2.append hvs).append k3)
  have hcall := call_run hrel hc hks hok (fun k hk1 hk2 => hfr k ⟨hk1, hk2⟩) hpre' heff hlt (Xa := XK s.h f ks) (fun b hb => hb) (fun b hb => XK_le b hb) (.inr ⟨hno, hnop⟩) hall
  unfold Oper.wp
  have hrun : (execOp a.eval ⟨d, .call ⟨.value fo, xs, ts⟩, ty, pos, af, g⟩).run P w = .ok (.enter gid (fs ++ xs.toList.map a.eval ++ cs).toArray) w := by
    have e1 : (fs.toArray ++ xs.map a.eval ++ cs.toArray) = (fs ++ xs.toList.map a.eval ++ cs).toArray := by
      apply Array.ext'; simp
    simp only [execOp, resolve, k1, Deferred.ofValue, Sem.run_bind, Sem.run_pure, Result.andThen, invoke]
    rw [hc.enter, e1]
  rw [hrun, Oper.upon_enter]
  refine hcall.mono ?_
  intro en w' hen
  cases en with
  | outgrown => exact hen.elim
  | panicked ch => exact hQ' ch a w' ⟨hp ch hen.1, hen.2, hrel.defers⟩
  | returned v =>
    obtain ⟨f', g1, g2⟩ := hen
    exact hnext _ _ f' { g1.put hd (o := some (r.ren (sig ks n))) (v := v) (fun y hy => by simp only [Option.some.injEq] at hy; subst hy; exact g2) with fr := g1.fr }
end

/-! ### Contracts out of code -/
def argE (args : List A) : Nat → Option A := fun i => getO args i
def resA (L : List (Nat × TI)) (e : Nat → Option A) (h : Nat → Reg) : List ResultVar → Option (List A)
  | [] => some []
  | .tmp t :: rs => match e t, resA L e h rs with
    | some v, some l => some (v :: l)
    | _, _ => none
  | .cell t ty :: rs => match e t with
    | some a => (match ldA L ty a h, resA L e h rs with
      | some (v, _), some l => some (v :: l)
      | _, _ => none)
    | none => none
def resV : List A → A
  | [a] => a
  | l => .tup l
section
variable {P : Program} {L : List (Nat × TI)} {C : Ctx} {s : St} {fr : Nat → Prop} {f : Pl} {a : Act} {w : World}
def resOne (tmps : Array Value) : ResultVar → Sem Value
  | .tmp t => pure (tmps.getD t undef)
  | .cell a t => do loadVar t (← asAddr (tmps.getD a undef))
theorem resA_run (hT : TOk P L) (h : Rel C s fr f a w) : ∀ {rs : List ResultVar} {l : List A}, resA L s.e s.h rs = some l → ∃ vs, (rs.mapM (resOne a.tmps)).run P w = .ok vs w ∧ VL f (C.X s.h f) w l vs
  | [], l, hl => by simp only [resA, Option.some.injEq] at hl; subst hl; exact ⟨[], by simp, VL.nil⟩
  | .tmp t :: rs, l, hl => by
    simp only [resA] at hl
    split at hl
    · rename_i v l' hv hr
      simp only [Option.some.injEq] at hl; subst hl
      obtain ⟨vs, h1, h2⟩ := resA_run hT h hr
      refine ⟨a.tmps.getD t undef :: vs, ?_, VL.cons (h.e t v hv) h2⟩
      rw [List.mapM_cons]
      simp only [Sem.run_bind, resOne, Sem.run_pure, Result.andThen, h1]
    · cases hl
  | .cell t ty :: rs, l, hl => by
    simp only [resA] at hl
    split at hl
    · rename_i x hx
      split at hl
      · rename_i v ks l' hv hr
        simp only [Option.some.injEq] at hl; subst hl
        obtain ⟨vs, h1, h2⟩ := resA_run hT h hr
        obtain ⟨z, h3, h4⟩ := ldA_run hT h (h.e t x hx) hv
        refine ⟨z :: vs, ?_, VL.cons h4 h2⟩
        have h5 : (resOne a.tmps (.cell t ty)).run P w = .ok z w := by
          have h6 := h.e t x hx
          simp only [resOne]
          cases x with
          | ptr k p off =>
            simp only [V] at h6
            obtain ⟨b, _, h7⟩ := h6
            rw [h7] at h3 ⊢
            simpa [Instr.loadAt, Instr.sureAddr, asAddr] using h3
          | rp l0 =>
            simp only [V] at h6
            obtain ⟨q, h7, _⟩ := h6
            rw [h7] at h3 ⊢
            simpa [Instr.loadAt, Instr.sureAddr, asAddr] using h3
          | _ => simp only [ldA] at hv; split at hv <;> cases hv
        rw [List.mapM_cons]
        simp only [Sem.run_bind, h5, Sem.run_pure, Result.andThen, h1]
      · cases hl
    · cases hl
theorem results_run (hT : TOk P L) (h : Rel C s fr f a w) {fn : Func} {l : List A} (hl : resA L s.e s.h fn.results.toList = some l) : ∃ v, (results fn a.tmps).run P w = .ok v w ∧ V f (C.X s.h f) w (resV l) v := by
  obtain ⟨vs, h1, h2⟩ := resA_run hT h hl
  have e1 : (fn.results.mapM (resOne a.tmps)).run P w = .ok vs.toArray w := by
    rw [Array.mapM_eq_mapM_toList]
    simp [h1]
  have e2 : results fn a.tmps = (do let vs ← fn.results.mapM (resOne a.tmps); pure (if h : vs.size = 1 then vs[0] else .tuple vs)) := by
    unfold results
    congr 1
  have hlen := h2.length
  refine ⟨if h : vs.toArray.size = 1 then vs.toArray[0] else .tuple vs.toArray, by rw [e2]; simp only [Sem.run_bind, e1, Result.andThen, Sem.run_pure], ?_⟩
  rcases l with _ | ⟨x, _ | ⟨y, l⟩⟩
  · rw [h2.unnil]
    simp [resV, V, VL]
  · obtain ⟨v, t, rfl, h3, h4⟩ := h2.uncons
    rw [h4.unnil]
    simpa [resV] using h3
  · have : ¬ vs.toArray.size = 1 := by simp only [List.size_toArray]; simp at hlen; omega
    rw [dif_neg this]
    simp only [resV, V]
    exact ⟨vs, rfl, h2⟩
/-- What a body has to come to. -/
structure RetOk (L : List (Nat × TI)) (rs : List ResultVar) (σ : Nat → Nat) (r : A) (post : List Reg) (s : St) : Prop where
  res : ∃ l, resA L s.e s.h rs = some l ∧ resV l = r.ren σ
  lt : r.lt post.length = true
  post : PreOk σ s.h post.length 0 post
def retQ (L : List (Nat × TI)) (rs : List ResultVar) (σ : Nat → Nat) (r : A) (post : List Reg) (Pp : List PanicEntry → Prop) : AQ :=
  ⟨fun e s => match e with
    | .normal => RetOk L rs σ r post s
    | .ret => RetOk L rs σ r post s
    | _ => False, Pp⟩
/-- The numbers of a body: those of the arguments' objects stay, the new ones are sg. -/
def bodySig (q : Nat) (sg : List Nat) : Nat → Nat := fun k => bif Nat.blt k q then k else sg.getD (k - q) 0
def sgOk (q : Nat) : List Nat → Bool
  | [] => true
  | k :: ks => Nat.ble q k && ks.all (fun j => !Nat.beq k j) && sgOk q ks
theorem sgOk_get {q : Nat} : ∀ {sg : List Nat}, sgOk q sg = true → ∀ i, i < sg.length → q ≤ sg.getD i 0
  | [], _, i, hi => by simp at hi
  | k :: ks, h, i, hi => by
    simp only [sgOk, Bool.and_eq_true] at h
    cases i with
    | zero => simpa using Nat.le_of_ble_eq_true h.1.1
    | succ i => simpa using sgOk_get h.2 i (by simpa using hi)
theorem sgOk_inj {q : Nat} : ∀ {sg : List Nat}, sgOk q sg = true → ∀ i j, i < sg.length → j < sg.length → sg.getD i 0 = sg.getD j 0 → i = j
  | [], _, i, j, hi, _, _ => by simp at hi
  | k :: ks, h, i, j, hi, hj, e => by
    simp only [sgOk, Bool.and_eq_true] at h
    have ne : ∀ j, j < ks.length → ks.getD j 0 ≠ k := by
      intro j hj e
      have hm : ks.getD j 0 ∈ ks := by rw [List.getD_eq_getElem?_getD, List.getElem?_eq_getElem hj]; simp
      have := List.all_eq_true.1 h.1.2 _ hm
      rw [e] at this
      simp at this
    cases i with
    | zero =>
      cases j with
      | zero => rfl
      | succ j => simp only [List.getD_cons_zero, List.getD_cons_succ] at e; exact absurd e.symm (ne j (by simpa using hj))
    | succ i =>
      cases j with
      | zero => simp only [List.getD_cons_zero, List.getD_cons_succ] at e; exact absurd e (ne i (by simpa using hi))
      | succ j => simp only [List.getD_cons_succ] at e; rw [sgOk_inj h.2 i j (by simpa using hi) (by simpa using hj) e]
/-- A contract out of the code. -/
theorem FC.of_AW {I : GI} (hT : TOk P L) {g : FuncId} {fn : Func} {c : Code} {N : Nat} (hfn : P.funcs[g]? = some fn) (hname : (fn.name == "runtime.NumGoroutine") = false) (hb : fn.body = some c) (hN : fn.ntmps = N)
    {args : List A} {pre post : List Reg} {r : A} {Pp : List PanicEntry → Prop} (sg : List Nat) (hla : Nat.ble args.length N = true) (hsg : Nat.beq (pre.length + sg.length) post.length = true) (hok : sgOk pre.length sg = true)
    (aw : ∀ w0 X0 Y f0 hI hX, AW P ⟨w0, X0, Y, N, f0, pre.length, I, hI, hX, [], fun _ => none⟩ c (retQ L fn.results.toList (bodySig pre.length sg) r post Pp) ⟨argE args, regs pre, pre.length⟩) : FC P I g args pre r post Pp := by
  have hsg := Nat.eq_of_beq_eq_true hsg
  have hla := Nat.le_of_ble_eq_true hla
  let σ := bodySig pre.length sg
  have σlt : ∀ k, k < pre.length → σ k = k := by
    intro k hk
    show (bif Nat.blt k pre.length then k else _) = k
    rw [show Nat.blt k pre.length = true from Nat.ble_eq_true_of_le hk]; rfl
  have σge : ∀ k, pre.length ≤ k → σ k = sg.getD (k - pre.length) 0 := by
    intro k hk
    show (bif Nat.blt k pre.length then k else _) = _
    have : Nat.blt k pre.length = false := by
      cases hb : Nat.blt k pre.length with
      | false => rfl
      | true => have : k < pre.length := Nat.le_of_ble_eq_true hb; omega
    rw [this]; rfl
  have σinj : ∀ i j, i < post.length → j < post.length → σ i = σ j → i = j := by
    intro i j hi hj e
    by_cases h1 : i < pre.length <;> by_cases h2 : j < pre.length
    · rw [σlt i h1, σlt j h2] at e; exact e
    · rw [σlt i h1, σge j (by omega)] at e
      have := sgOk_get hok (j - pre.length) (by omega); omega
    · rw [σge i (by omega), σlt j h2] at e
      have := sgOk_get hok (i - pre.length) (by omega); omega
    · rw [σge i (by omega), σge j (by omega)] at e
      have := sgOk_inj hok _ _ (by omega) (by omega) e; omega
  refine ⟨fun as w => ?_, by omega, ?_⟩
  · have hname' : ¬ fn.name = "runtime.NumGoroutine" := by simpa using hname
    simp [callFunc, hfn, hname', hb]
  · intro f0 Y w vs hgi hlow hfr hY hHR hInj hargs
    have hvl := hargs.length
    refine calls_of_wp hfn hb ?_
    let C : Ctx := ⟨w, Live (regs pre) f0, Y, N, f0, pre.length, I, hgi, hlow, [], fun _ => none⟩
    have tget : ∀ i v, argE args i = some v → V f0 (XOf (regs pre) f0 Y) w v ((vs.toArray ++ Array.replicate (fn.ntmps - vs.toArray.size) undef).getD i undef) := by
      intro i v hi
      rw [show argE args i = args[i]? from getO_eq args i] at hi
      obtain ⟨u, h1, h2⟩ := hargs.get hi
      have hlt := (List.getElem?_eq_some_iff.1 h1).1
      rw [Array.getD_eq_getD_getElem?, Array.getElem?_append_left (by simpa using hlt)]
      simpa [h1] using h2
    have hrel : Rel C ⟨argE args, regs pre, pre.length⟩ (From pre.length) f0 { tmps := vs.toArray ++ Array.replicate (fn.ntmps - vs.toArray.size) undef, defers := [] } w :=
      { N := by simp only [Array.size_append, List.size_toArray, Array.size_replicate, hN]; show vs.length + (N - vs.length) = N; omega
        defers := ⟨rfl, fun _ _ h => by cases h⟩
        e := tget
        h := hHR
        inj := hInj
        kp := Kp.refl _ w
        new := fun b hb => .inr hb
        y := hY
        fr := fun k hk p => hfr k hk p
        ext := Ext.refl f0
        dom := hfr }
    have fin : ∀ (s : St) (f : Pl) (a : Act) (w' : World), RetOk L fn.results.toList σ r post s → Rel C s (From s.n) f a w' → a.defers = [] ∧ ∃ v, (results fn a.tmps).run P w' = .ok v w' ∧ FCPost f0 pre Y w r post Pp (.returned v) w' := by
      rintro s f a w' ⟨⟨l, hl, hlr⟩, hlt, hpost⟩ hr
      obtain ⟨v, h1, h2⟩ := results_run hT hr hl
      refine ⟨hr.defers.1, v, h1, ?_⟩
      let f1 : Pl := fun k p => if k < post.length then f (σ k) p else none
      have hf1 : ∀ k, k < post.length → f1 k = f (σ k) := by
        intro k hk
        funext p
        show (if k < post.length then f (σ k) p else none) = _
        rw [if_pos hk]
      have there : ∀ k p c, (regs post k).get p = some c → k < post.length ∧ (s.h (σ k)).get p = some (renL σ c) ∧ ltL post.length c = true := by
        intro k p c hk
        obtain ⟨r0, g1, g2, g3⟩ := regs_get hk
        obtain ⟨g4, g5, _⟩ := hpost.get k r0 g1
        rw [Nat.zero_add] at g4
        exact ⟨g3, by rw [g4 p, g2]; rfl, g5 p c g2⟩
      have liveB : ∀ b, Live (regs post) f1 b → Live s.h f b := by
        rintro b ⟨k, p, g1, g2⟩
        obtain ⟨c, hc⟩ := Option.ne_none_iff_exists'.1 g1
        obtain ⟨g3, g4, _⟩ := there k p c hc
        rw [hf1 k g3] at g2
        exact ⟨_, p, by rw [g4]; simp, g2⟩
      have hX : ∀ b, b < w'.heap.size → XOf (regs post) f1 Y b → C.X s.h f b := by
        rintro b _ (hb | hb)
        · exact .inl (liveB b hb)
        · exact .inr hb
      refine ⟨f1, ?_, ?_, ?_, ?_, ?_, hr.kp, fun b hb => hr.new b (liveB b hb)⟩
      · intro k p b hb
        have hk : k < pre.length := by
          rcases Nat.lt_or_ge k pre.length with h | h
          · exact h
          · rw [hfr k h p] at hb; cases hb
        rw [hf1 k (by omega), σlt k hk]
        exact hr.ext k p b hb
      · intro k hk p
        show (if k < post.length then f (σ k) p else none) = none
        rw [if_neg (by omega)]
      · rw [hlr] at h2
        exact (V.unren r f f1 hf1 hlt v h2).mono (Ext.refl _) hX (Kp.refl (fun _ => False) w') (fun _ _ h => h.elim)
      · intro k p c hk
        obtain ⟨g3, g4, g5⟩ := there k p c hk
        rcases hr.h _ p _ g4 with ⟨g6, g7⟩ | ⟨b, arr, el, g6, g7, g8, g9⟩
        · refine .inl ⟨?_, by rw [hf1 k g3]; exact g7⟩
          have := congrArg List.length g6
          rw [renL_length] at this
          simpa using this
        · refine .inr ⟨b, arr, el, by rw [hf1 k g3]; exact g6, g7, by rw [renL_length] at g8; exact g8, ?_⟩
          rw [renL_length] at g9
          exact (VL.unren c f f1 hf1 g5 _ g9).mono (Ext.refl _) hX (Kp.refl (fun _ => False) w') (fun _ _ h => h.elim)
      · intro k p k' p' b g1 g2 g3 g4
        obtain ⟨c, hc⟩ := Option.ne_none_iff_exists'.1 g1
        obtain ⟨c', hc'⟩ := Option.ne_none_iff_exists'.1 g2
        obtain ⟨q1, q2, _⟩ := there k p c hc
        obtain ⟨q3, q4, _⟩ := there k' p' c' hc'
        rw [hf1 k q1] at g3
        rw [hf1 k' q3] at g4
        have := hr.inj _ p _ p' b (by rw [q2]; simp) (by rw [q4]; simp) g3 g4
        exact ⟨σinj k k' q1 q3 this.1, this.2⟩
    refine wp_mono (aw w (Live (regs pre) f0) Y f0 hgi hlow f0 _ w hrel) ?_
    intro en a w' hen
    cases en with
    | normal => obtain ⟨s, f, h1, h2⟩ := hen; exact fin s f a w' h1 h2
    | ret => obtain ⟨s, f, h1, h2⟩ := hen; exact fin s f a w' h1 h2
    | exit id => obtain ⟨s, f, h1, h2⟩ := hen; exact h1.elim
    | goto l => obtain ⟨s, f, h1, h2⟩ := hen; exact h1.elim
    | panic ch => exact ⟨hen.2.2.1, hen.1, hen.2.1⟩
    | outgrown => exact hen.elim
end
end Go.Abs
namespace Go.Abs
open Go.RowKit
abbrev RenP := Nat → List Nat → Nat × List Nat
mutual
def A.renP (τ : RenP) : A → A
  | .any => .any
  | .val v => .val v
  | .ro n l => .ro n l
  | .rp l => .rp l
  | .sl k p st off n => .sl (τ k p).1 (τ k p).2 st off n
  | .ptr k p off => .ptr (τ k p).1 (τ k p).2 off
  | .agg l => .agg (renPL τ l)
  | .tup l => .tup (renPL τ l)
  | .fn g a b => .fn g (renPL τ a) (renPL τ b)
  | .ifc t a => .ifc t (a.renP τ)
def renPL (τ : RenP) : List A → List A
  | [] => []
  | x :: xs => x.renP τ :: renPL τ xs
end
theorem renPL_length (τ : RenP) (l : List A) : (renPL τ l).length = l.length := by
  induction l with
  | nil => rfl
  | cons x xs ih => simp [renPL, ih]
theorem renPL_eq (τ : RenP) (l : List A) : renPL τ l = l.map (A.renP τ) := by
  induction l with
  | nil => rfl
  | cons x xs ih => simp [renPL, ih]
mutual
theorem V.unrenP {τ : RenP} {X : Nat → Prop} {w : World} : ∀ (a : A) (f f0 : Pl) (_ : ∀ k p, f0 k p = f (τ k p).1 (τ k p).2) (v : Value), V f X w (a.renP τ) v → V f0 X w a v
  | .any, f, f0, hf, v, h => by simp only [V]
  | .val u, f, f0, hf, v, h => by simp only [A.renP, V] at h ⊢; exact h
  | .ro n l, f, f0, hf, v, h => by simp only [A.renP, V] at h ⊢; exact h
  | .rp l, f, f0, hf, v, h => by simp only [A.renP, V] at h ⊢; exact h
  | .sl k p st off n, f, f0, hf, v, h => by
    simp only [A.renP, V] at h ⊢
    rw [hf k p]
    exact h
  | .ptr k p off, f, f0, hf, v, h => by
    simp only [A.renP, V] at h ⊢
    rw [hf k p]
    exact h
  | .agg l, f, f0, hf, v, h => by
    simp only [A.renP, V] at h ⊢
    obtain ⟨vs, h1, h2⟩ := h
    exact ⟨vs, h1, VL.unrenP l f f0 hf vs h2⟩
  | .tup l, f, f0, hf, v, h => by
    simp only [A.renP, V] at h ⊢
    obtain ⟨vs, h1, h2⟩ := h
    exact ⟨vs, h1, VL.unrenP l f f0 hf vs h2⟩
  | .fn g a b, f, f0, hf, v, h => by
    simp only [A.renP, V] at h ⊢
    obtain ⟨fs, cs, h1, h2, h3⟩ := h
    exact ⟨fs, cs, h1, VL.unrenP a f f0 hf fs h2, VL.unrenP b f f0 hf cs h3⟩
  | .ifc t a, f, f0, hf, v, h => by
    simp only [A.renP, V] at h ⊢
    obtain ⟨u, h1, h2⟩ := h
    exact ⟨u, h1, V.unrenP a f f0 hf u h2⟩
theorem VL.unrenP {τ : RenP} {X : Nat → Prop} {w : World} : ∀ (l : List A) (f f0 : Pl) (_ : ∀ k p, f0 k p = f (τ k p).1 (τ k p).2) (vs : List Value), VL f X w (renPL τ l) vs → VL f0 X w l vs
  | [], f, f0, hf, vs, h => by simp only [renPL, VL] at h ⊢; exact h
  | x :: xs, f, f0, hf, vs, h => by
    simp only [renPL, VL] at h ⊢
    obtain ⟨v, t, h1, h2, h3⟩ := h
    exact ⟨v, t, h1, V.unrenP x f f0 hf v h2, VL.unrenP xs f f0 hf t h3⟩
end
mutual
theorem A.renP_free (τ : RenP) : ∀ (a : A), a.lt 0 = true → a.renP τ = a
  | .any, _ => rfl
  | .val _, _ => rfl
  | .ro _ _, _ => rfl
  | .rp _, _ => rfl
  | .sl k _ _ _ _, h => by simp [A.lt] at h
  | .ptr k _ _, h => by simp [A.lt] at h
  | .agg l, h => by simp only [A.lt] at h; simp only [A.renP]; rw [renPL_free τ l h]
  | .tup l, h => by simp only [A.lt] at h; simp only [A.renP]; rw [renPL_free τ l h]
  | .fn g a b, h => by simp only [A.lt, Bool.and_eq_true] at h; simp only [A.renP]; rw [renPL_free τ a h.1, renPL_free τ b h.2]
  | .ifc t a, h => by simp only [A.lt] at h; simp only [A.renP]; rw [A.renP_free τ a h]
theorem renPL_free (τ : RenP) : ∀ (l : List A), ltL 0 l = true → renPL τ l = l
  | [], _ => rfl
  | x :: xs, h => by simp only [ltL, Bool.and_eq_true] at h; simp only [renPL]; rw [A.renP_free τ x h.1, renPL_free τ xs h.2]
end
/-- t says less than s. -/
def Sub (C : Ctx) (s t : St) : Prop := ∀ f a w, Rel C s (From s.n) f a w → ∃ f', Rel C t (From t.n) f' a w
section
variable {P : Program} {C : Ctx} {Q : AQ} {s t : St}
theorem Sub.refl (C : Ctx) (s : St) : Sub C s s := fun f _ _ h => ⟨f, h⟩
theorem Sub.trans {u : St} (h : Sub C s t) (k : Sub C t u) : Sub C s u := fun f a w hr => by obtain ⟨f', h1⟩ := h f a w hr; exact k f' a w h1
/-- Under other numbers. -/
theorem Sub.ren (τ : RenP) (he : ∀ i v, t.e i = some v → s.e i = some (v.renP τ)) (hh : ∀ k p c, (t.h k).get p = some c → (s.h (τ k p).1).get (τ k p).2 = some (renPL τ c))
    (hinj : ∀ k p k' p', (t.h k).get p ≠ none → (t.h k').get p' ≠ none → τ k p = τ k' p' → k = k' ∧ p = p') (hfr : ∀ k p, t.n ≤ k → s.n ≤ (τ k p).1) (hq : ∀ k p, k < C.q → τ k p = (k, p)) : Sub C s t := by
  intro f a w hr
  let f' : Pl := fun k p => f (τ k p).1 (τ k p).2
  have live : ∀ b, Live t.h f' b → Live s.h f b := by
    rintro b ⟨k, p, h1, h2⟩
    obtain ⟨c, hc⟩ := Option.ne_none_iff_exists'.1 h1
    exact ⟨_, _, by rw [hh k p c hc]; simp, h2⟩
  have hX : ∀ b, b < w.heap.size → C.X t.h f' b → C.X s.h f b := by
    rintro b _ (hb | hb)
    · exact .inl (live b hb)
    · exact .inr hb
  refine ⟨f', { N := hr.N, defers := hr.defers, e := fun i v hv => ?_, h := fun k p c hc => ?_, inj := ?_, kp := hr.kp, new := fun b hb => hr.new b (live b hb), y := hr.y, fr := fun k hk p => hr.fr _ (hfr k p hk) _, ext := fun k p b hb => ?_, dom := hr.dom }⟩
  · exact (V.unrenP v f f' (fun _ _ => rfl) _ (hr.e i _ (he i v hv))).mono (Ext.refl _) hX (Kp.refl (fun _ => False) w) (fun _ _ h => h.elim)
  · rcases hr.h _ _ _ (hh k p c hc) with ⟨h1, h2⟩ | ⟨b, arr, el, h1, h2, h3, h4⟩
    · refine .inl ⟨?_, h2⟩
      have := congrArg List.length h1
      rw [renPL_length] at this
      simpa using this
    · rw [renPL_length] at h3 h4
      exact .inr ⟨b, arr, el, h1, h2, h3, (VL.unrenP c f f' (fun _ _ => rfl) _ h4).mono (Ext.refl _) hX (Kp.refl (fun _ => False) w) (fun _ _ h => h.elim)⟩
  · intro k p k' p' b h1 h2 h3 h4
    obtain ⟨c, hc⟩ := Option.ne_none_iff_exists'.1 h1
    obtain ⟨c', hc'⟩ := Option.ne_none_iff_exists'.1 h2
    have := hr.inj _ _ _ _ b (by rw [hh k p c hc]; simp) (by rw [hh k' p' c' hc']; simp) h3 h4
    exact hinj k p k' p' h1 h2 (Prod.ext this.1 this.2)
  · have hk : k < C.q := by
      rcases Nat.lt_or_ge k C.q with h | h
      · exact h
      · rw [hr.dom k h p] at hb; cases hb
    show f (τ k p).1 (τ k p).2 = some b
    rw [hq k p hk]
    exact hr.ext k p b hb
mutual
theorem A.renP_id : ∀ (a : A), a.renP (fun k p => (k, p)) = a
  | .any => rfl
  | .val _ => rfl
  | .ro _ _ => rfl
  | .rp _ => rfl
  | .sl _ _ _ _ _ => rfl
  | .ptr _ _ _ => rfl
  | .agg l => by simp only [A.renP]; rw [renPL_id l]
  | .tup l => by simp only [A.renP]; rw [renPL_id l]
  | .fn g a b => by simp only [A.renP]; rw [renPL_id a, renPL_id b]
  | .ifc t a => by simp only [A.renP]; rw [A.renP_id a]
theorem renPL_id : ∀ (l : List A), renPL (fun k p => (k, p)) l = l
  | [] => rfl
  | x :: xs => by simp only [renPL]; rw [A.renP_id x, renPL_id xs]
end
/-- Some slots and objects are no longer told. -/
def SubE (e e' : Nat → Option A) : Prop := ∀ i v, e i = some v → e' i = some v
def SubH (h h' : Nat → Reg) : Prop := ∀ k p c, (h k).get p = some c → (h' k).get p = some c
theorem SubE.no (e' : Nat → Option A) : SubE noE e' := fun i v h => by cases h
theorem SubE.put {d : Nat} {v : A} {e e' : Nat → Option A} (h1 : e' d = some v) (h2 : SubE e e') : SubE (Go.Abs.put d (some v) e) e' := by
  intro i u hu
  by_cases hi : i = d
  · subst hi; rw [put_same] at hu; rw [h1]; exact hu
  · rw [put_ne _ _ hi] at hu; exact h2 i u hu
theorem SubE.refl (e : Nat → Option A) : SubE e e := fun _ _ h => h
theorem SubH.no (h' : Nat → Reg) : SubH noH h' := fun k p c h => by simp [noH, Reg.get] at h
theorem SubH.put {k : Nat} {r : Reg} {h h' : Nat → Reg} (h1 : h' k = r) (h2 : SubH h h') : SubH (hput k r h) h' := by
  intro j p c hc
  by_cases hj : j = k
  · subst hj; rw [hput_same] at hc; rw [h1]; exact hc
  · rw [hput_ne _ _ hj] at hc; exact h2 j p c hc
theorem SubH.refl (h : Nat → Reg) : SubH h h := fun _ _ _ h => h
theorem Sub.of (he : SubE t.e s.e) (hh : SubH t.h s.h) (hn : Nat.ble s.n t.n = true) : Sub C s t :=
  Sub.ren (fun k p => (k, p)) (fun i v hv => by rw [A.renP_id]; exact he i v hv) (fun k p c hc => by rw [renPL_id]; exact hh k p c hc) (fun k p k' p' _ _ e => by simpa using e) (fun k p hk => Nat.le_trans (Nat.le_of_ble_eq_true hn) hk) (fun k p _ => rfl)
theorem AW.sub {c : Code} (h : Sub C s t) (ht : AW P C c Q t) : AW P C c Q s := AW.conv h ht
/-- A loop, its head told by I. -/
theorem AW.loopS {α : Type} {c : Code} (I : α → St) (G : α → Prop) (μ : α → Nat) (a0 : α) (h0 : G a0) (hs : Sub C s (I a0))
    (round : ∀ a, G a → AW P C c (Q.then (fun s => ∃ a', G a' ∧ μ a' < μ a ∧ Sub C s (I a'))) (I a)) : AW P C (.loop c) Q s := by
  refine AW.sub hs ?_
  refine AW.loop (fun m s => ∃ a, G a ∧ μ a = m ∧ Sub C s (I a)) (m := μ a0) ⟨a0, h0, rfl, Sub.refl _ _⟩ ?_
  rintro m s ⟨a, h1, rfl, h2⟩
  refine AW.sub h2 ((round a h1).mono ?_ (fun ch h => h))
  intro e s h
  cases e with
  | normal =>
    obtain ⟨a', g1, g2, g3⟩ := h
    exact ⟨μ a', g2, a', g1, rfl, g3⟩
  | exit id => exact h
  | goto l => exact h
  | ret => exact h
/-- Where ways meet again. -/
theorem AW.seqJ {α : Type} {x y : Code} (I : α → St) (G : α → Prop) (hx : AW P C x (Q.then (fun s => ∃ a, G a ∧ Sub C s (I a))) s) (hy : ∀ a, G a → AW P C y Q (I a)) : AW P C (.seq x y) Q s := by
  refine AW.seq (hx.mono ?_ (fun ch h => h))
  intro e s h
  cases e with
  | normal => obtain ⟨a, g1, g2⟩ := h; exact AW.sub g2 (hy a g1)
  | exit id => exact h
  | goto l => exact h
  | ret => exact h
/-- Behind a block, whose ends meet. -/
theorem AW.seqK {x y : Code} (h : ∀ K : St → Prop, (∀ s, AW P C y Q s → K s) → AW P C x (Q.then K) s) : AW P C (.seq x y) Q s := AW.seq (h _ fun _ h => h)
end

/-! ### Numbers -/
theorem wrap_i64 {n : Int} (h : -9223372036854775808 ≤ n ∧ n ≤ 9223372036854775807) : IntKind.i64.wrap n = n := by
  unfold IntKind.wrap IntKind.signed IntKind.bits; simp; omega
theorem wrap_u64 {n : Int} (h : 0 ≤ n ∧ n ≤ 18446744073709551615) : IntKind.u64.wrap n = n := by
  unfold IntKind.wrap IntKind.signed IntKind.bits; simp; omega
theorem wrap_u8 {n : Int} (h : 0 ≤ n ∧ n ≤ 255) : IntKind.u8.wrap n = n := by
  unfold IntKind.wrap IntKind.signed IntKind.bits; simp; omega
theorem wrap_i32 {n : Int} (h : -2147483648 ≤ n ∧ n ≤ 2147483647) : IntKind.i32.wrap n = n := by
  unfold IntKind.wrap IntKind.signed IntKind.bits; simp; omega
theorem wrap_u32 {n : Int} (h : 0 ≤ n ∧ n ≤ 4294967295) : IntKind.u32.wrap n = n := by
  unfold IntKind.wrap IntKind.signed IntKind.bits; simp; omega
theorem iv_i64 {n : Int} (h : -9223372036854775808 ≤ n ∧ n ≤ 9223372036854775807) : some (A.val (.int .i64 (IntKind.i64.wrap n))) = some (A.val (.int .i64 n)) := by rw [wrap_i64 h]
theorem iv_u64 {n : Int} (h : 0 ≤ n ∧ n ≤ 18446744073709551615) : some (A.val (.int .u64 (IntKind.u64.wrap n))) = some (A.val (.int .u64 n)) := by rw [wrap_u64 h]
theorem iv_u8 {n : Int} (h : 0 ≤ n ∧ n ≤ 255) : some (A.val (.int .u8 (IntKind.u8.wrap n))) = some (A.val (.int .u8 n)) := by rw [wrap_u8 h]
theorem iv_i32 {n : Int} (h : -2147483648 ≤ n ∧ n ≤ 2147483647) : some (A.val (.int .i32 (IntKind.i32.wrap n))) = some (A.val (.int .i32 n)) := by rw [wrap_i32 h]
theorem iv_u32 {n : Int} (h : 0 ≤ n ∧ n ≤ 4294967295) : some (A.val (.int .u32 (IntKind.u32.wrap n))) = some (A.val (.int .u32 n)) := by rw [wrap_u32 h]

/-! ### Contracts into calls, and calls into contracts -/
section
variable {P : Program} {I : GI} {g : FuncId} {args : List A} {v : Value} {post : List Reg}
theorem live_none {f : Pl} (b : Nat) : ¬ Live (regs []) f b := by
  rintro ⟨k, p, h1, _⟩
  exact h1 (by simp [regs, Reg.get])
theorem FC.calls (hc : FC P I g args [] (.val v) post NoP) {w : World} {vs : List Value} (hI : I.p w) (hv : VL noPl (fun _ => False) w args vs) :
    Calls P g vs.toArray w fun e w' => e = .returned v ∧ Below w.heap.size w w' := by
  refine (hc.call noPl (fun _ => False) w vs hI (fun b hb => absurd hb (live_none b)) (fun _ _ _ => rfl) (fun _ h => h.elim) (fun k p c h => by simp [regs, Reg.get] at h) (fun k p k' p' b h => by simp [regs, Reg.get] at h)
    (hv.mono (Ext.refl _) (fun b _ hb => hb.elim (live_none b) id) (Kp.refl (fun _ => False) w) (fun _ _ h => h.elim))).mono ?_
  intro e w' he
  cases e with
  | outgrown => exact he.elim
  | panicked ch => exact he.1.elim
  | returned u =>
    obtain ⟨f1, _, _, h3, _, _, h6, _⟩ := he
    exact ⟨by rw [h3.val], (h6.mono (fun b _ hb => live_none b hb)).below⟩
theorem FC.of_calls (henter : ∀ (as : Array Value) (w : World), (callFunc g as).run P w = .ok (.enter g as) w)
    (h : ∀ (w : World) (vs : List Value), I.p w → VL noPl (fun _ => False) w args vs → Calls P g vs.toArray w fun e w' => e = .returned v ∧ Below w.heap.size w w') : FC P I g args [] (.val v) [] NoP := by
  refine ⟨henter, Nat.le_refl _, ?_⟩
  intro f0 Y w vs hgi hlow hfr hY hHR hInj hargs
  have h0 : f0 = noPl := by funext k p; exact hfr k (Nat.zero_le _) p
  subst h0
  refine (h w vs hgi (hargs.mono (Ext.refl _) (fun b _ hb => hb.elim) (Kp.refl (fun _ => False) w) (fun _ _ h => h.elim))).mono ?_
  rintro e w' ⟨rfl, hb⟩
  exact ⟨noPl, Ext.refl _, fun _ _ _ => rfl, by simp only [V], fun k p c h => by simp [regs, Reg.get] at h, fun k p k' p' b h => by simp [regs, Reg.get] at h,
    (Kp.of_below hb).mono (fun _ _ h => h.elim), fun b hb => absurd hb (live_none b)⟩
theorem FC.mono_p {r : A} {pre : List Reg} {Pp Pp' : List PanicEntry → Prop} (hc : FC P I g args pre r post Pp) (hp : ∀ ch, Pp ch → Pp' ch) : FC P I g args pre r post Pp' :=
  ⟨hc.enter, hc.len, fun f0 Y w vs k1 k2 h1 h2 h3 h4 h5 => (hc.call f0 Y w vs k1 k2 h1 h2 h3 h4 h5).mono (fun e w' he => by
    cases e with
    | returned v => exact he
    | panicked ch => exact ⟨hp ch he.1, he.2⟩
    | outgrown => exact he)⟩
end
end Go.Abs
namespace Go.Abs
open Go.RowKit
def ints (k : IntKind) (xs : List Int) : List A := xs.map fun x => .val (.int k x)
theorem ltL_map {α : Type} {m : Nat} {F : α → A} (hF : ∀ x, (F x).lt m = true) (xs : List α) : ltL m (xs.map F) = true := by
  induction xs with
  | nil => rfl
  | cons x xs ih => simp only [List.map_cons, ltL, Bool.and_eq_true]; exact ⟨hF x, ih⟩
theorem noRoL_map {α : Type} {F : α → A} (hF : ∀ x, (F x).noRo = true) (xs : List α) : noRoL (xs.map F) = true := by
  induction xs with
  | nil => rfl
  | cons x xs ih => simp only [List.map_cons, noRoL, Bool.and_eq_true]; exact ⟨hF x, ih⟩
theorem cell_map {α : Type} {F : α → A} (hF : ∀ x, (F x).cell = true) (xs : List α) : (xs.map F).all A.cell = true := by
  rw [List.all_eq_true]
  intro a ha
  obtain ⟨x, _, rfl⟩ := List.mem_map.1 ha
  exact hF x
theorem ltL_append {m : Nat} {a b : List A} (ha : ltL m a = true) (hb : ltL m b = true) : ltL m (a ++ b) = true := by
  induction a with
  | nil => exact hb
  | cons x xs ih => simp only [ltL, Bool.and_eq_true] at ha; simp only [List.cons_append, ltL, Bool.and_eq_true]; exact ⟨ha.1, ih ha.2⟩
theorem noRoL_append {a b : List A} (ha : noRoL a = true) (hb : noRoL b = true) : noRoL (a ++ b) = true := by
  induction a with
  | nil => exact hb
  | cons x xs ih => simp only [noRoL, Bool.and_eq_true] at ha; simp only [List.cons_append, noRoL, Bool.and_eq_true]; exact ⟨ha.1, ih ha.2⟩
theorem ltL_take {m : Nat} : ∀ {a : List A} (n : Nat), ltL m a = true → ltL m (a.take n) = true
  | [], n, _ => by simp [ltL]
  | x :: xs, 0, _ => rfl
  | x :: xs, n + 1, h => by simp only [ltL, Bool.and_eq_true] at h; simp only [List.take_succ_cons, ltL, Bool.and_eq_true]; exact ⟨h.1, ltL_take n h.2⟩
theorem ltL_drop {m : Nat} : ∀ {a : List A} (n : Nat), ltL m a = true → ltL m (a.drop n) = true
  | [], n, _ => by simp [ltL]
  | x :: xs, 0, h => h
  | x :: xs, n + 1, h => by simp only [ltL, Bool.and_eq_true] at h; simpa using ltL_drop n h.2
theorem ints_free (m : Nat) (k : IntKind) (xs : List Int) : ltL m (ints k xs) = true := ltL_map (fun _ => rfl) xs
theorem ints_noRo (k : IntKind) (xs : List Int) : noRoL (ints k xs) = true := noRoL_map (fun _ => rfl) xs
theorem ints_cell (k : IntKind) (xs : List Int) : (ints k xs).all A.cell = true := cell_map (fun _ => rfl) xs
theorem ints_length (k : IntKind) (xs : List Int) : (ints k xs).length = xs.length := by simp [ints]
theorem dropO_of {n : Nat} {l : List A} (h : n ≤ l.length) : dropO n l = some (l.drop n) := by
  induction n generalizing l with
  | zero => simp [dropO]
  | succ n ih =>
    cases l with
    | nil => simp at h
    | cons x xs => simp only [dropO]; rw [ih (by simpa using h)]; simp
theorem map_at {α : Type} (F : α → A) (xs : List α) (d : α) {i : Nat} (h : i < xs.length) : dropO (i * 1) (xs.map F) = some (F (xs.getD i d) :: (xs.drop (i + 1)).map F) := by
  rw [Nat.mul_one, dropO_of (by simpa using Nat.le_of_lt h)]
  have e : (xs.map F).drop i = (xs.drop i).map F := by simp
  have e2 : xs.getD i d = xs[i] := by simp [List.getD, h]
  rw [e, e2, List.drop_eq_getElem_cons h, List.map_cons]
/-- An element of a slice of numbers, by a place that is a Nat. -/
theorem ints_at {k : IntKind} {xs : List Int} {i : Nat} (h : i < xs.length) : dropO (iNat (i : Int) * 1) (ints k xs) = some (.val (.int k (xs.getD i 0)) :: ints k (xs.drop (i + 1))) := map_at _ xs 0 h
theorem ints_atI {k : IntKind} {xs : List Int} {j : Int} (h0 : 0 ≤ j) (h : j < xs.length) : dropO (iNat j * 1) (ints k xs) = some (.val (.int k (xs.getD j.toNat 0)) :: ints k (xs.drop (j.toNat + 1))) := by
  rw [iNat_eq]; exact map_at _ xs 0 (by omega)
/-- A slice of numbers, as what is only read. -/
def rdI (k : IntKind) (xs : List Int) : A := .ro xs.length (ints k xs)
/-- A slice of slices of numbers, as what is only read. -/
def rows (k : IntKind) (g : List (List Int)) : List A := g.map (rdI k)
def rdM (k : IntKind) (g : List (List Int)) : A := .ro g.length (rows k g)
theorem rows_at {k : IntKind} {g : List (List Int)} {i : Nat} (h : i < g.length) : dropO (iNat (i : Int) * 1) (rows k g) = some (.ro (g.getD i []).length (ints k (g.getD i [])) :: rows k (g.drop (i + 1))) := map_at _ g [] h
theorem rows_atI {k : IntKind} {g : List (List Int)} {j : Int} (h0 : 0 ≤ j) (h : j < g.length) : dropO (iNat j * 1) (rows k g) = some (.ro (g.getD j.toNat []).length (ints k (g.getD j.toNat [])) :: rows k (g.drop (j.toNat + 1))) := by
  rw [iNat_eq]; exact map_at _ g [] (by omega)
section
variable {P : Program} {L : List (Nat × TI)} {C : Ctx} {ops : Array Oper} {draw : Bool} {Q : AQ} {s0 : St} {tr : List TE} {e : Nat → Option A} {h : Nat → Reg} {n : Nat}
/-- The place of an element of a slice that is only read. -/
theorem RG.idx (hT : TOk P L) {d : Option Tmp} {t : TypeId} {x i : Operand} {ty : TypeId} {pos : String} {af : Array Edge} {g : Option (Nat × Bool)} {n1 : Nat} {l l' : List A} {kk : IntKind} {j : Int} {el a1 b1 st b2 : Nat} {c1 c2 : Bool} {z1 z2 : List A} {k2 : TK} {a0 : A}
    (ho : ops[tr.length]? = some ⟨d, .indexAddr t x i, ty, pos, af, g⟩) (hg : wantA ops g e = some true) (hx : evE e x = some (.ro n1 l)) (hi : evE e i = some (.val (.int kk j))) (ht : look L t = some ⟨.slice el, a1, b1, c1, z1⟩) (hte : look L el = some ⟨k2, st, b2, c2, z2⟩)
    (hl : dropO (iNat j * st) l = some (a0 :: l')) (hb : 0 ≤ j ∧ j < n1) (hd : dOk C d = true)
    (hr : RG P C ops draw Q s0 (⟨fpOf ops ⟨d, .indexAddr t x i, ty, pos, af, g⟩ [], d, ⟨some (.rp (a0 :: l')), [], 0⟩, n⟩ :: tr) ⟨putd d (some (.rp (a0 :: l'))) e, h, n⟩) : RG P C ops draw Q s0 tr ⟨e, h, n⟩ := by
  refine RG.val hT ho hg (sd := 0 ≤ j ∧ j < n1) ?_ hb hd rfl hr
  simp only [vop, ht, hx, hi, hte, hl]
end
end Go.Abs
namespace Go.Abs
open Go.RowKit
def dropAll : List Nat → (Nat → Reg) → Nat → Reg
  | [], h => h
  | k :: ks, h => hput k .gone (dropAll ks h)
theorem dropAll_get {ks : List Nat} {h : Nat → Reg} {k : Nat} {p : List Nat} {c : List A} (hc : (dropAll ks h k).get p = some c) : (h k).get p = some c ∧ k ∉ ks := by
  induction ks with
  | nil => exact ⟨hc, by simp⟩
  | cons k0 ks ih =>
    simp only [dropAll] at hc
    by_cases e : k = k0
    · subst e; rw [hput_same] at hc; simp [Reg.get] at hc
    · rw [hput_ne _ _ e] at hc
      obtain ⟨h1, h2⟩ := ih hc
      exact ⟨h1, by simp [e, h2]⟩
theorem dropAll_live {ks : List Nat} {h : Nat → Reg} {f : Pl} {b : Nat} (hb : Live (dropAll ks h) f b) : ∃ k p, k ∉ ks ∧ (h k).get p ≠ none ∧ f k p = some (some b) := by
  obtain ⟨k, p, h1, h2⟩ := hb
  obtain ⟨c, hc⟩ := Option.ne_none_iff_exists'.1 h1
  obtain ⟨h3, h4⟩ := dropAll_get hc
  exact ⟨k, p, h4, by rw [h3]; simp, h2⟩
/-- Where the objects of ks are only read from now on, a is told as a'. -/
def Frz (C : Ctx) (s : St) (ks : List Nat) (a a' : A) : Prop :=
  ∀ fr f act w, Rel C s fr f act w → ∀ v, V f (C.X s.h f) w a v → V f (C.X (dropAll ks s.h) f) w a' v
theorem X_drop {C : Ctx} {h : Nat → Reg} {f : Pl} {ks : List Nat} (b : Nat) (hb : C.X (dropAll ks h) f b) : C.X h f b := by
  rcases hb with hb | hb
  · obtain ⟨k, p, _, h1, h2⟩ := dropAll_live hb; exact .inl ⟨k, p, h1, h2⟩
  · exact .inr hb
section
variable {C : Ctx} {s : St} {ks : List Nat}
theorem Frz.refl (a : A) : Frz C s ks a a := fun fr f act w hr v hv => hv.mono (Ext.refl f) (fun b _ hb => X_drop b hb) (Kp.refl (fun _ => False) w) (fun _ _ h => h.elim)
theorem Frz.nil : Frz C s ks (.val (.slice none 0 0)) (.ro 0 []) := by
  intro fr f act w hr v hv
  rw [hv.val]
  simp only [V]
  exact ⟨none, 0, rfl, Nat.le_refl _, Nat.zero_le _, fun _ => by simp, fun q hq => by cases hq⟩
theorem Frz.sl {k st off n : Nat} {p : List Nat} {c l : List A} (hk : (s.h k).get p = some c) (hks : k ∈ ks) (hl : (c.drop off).take (n * st) = l) (hfree : ltL 0 l = true) : Frz C s ks (.sl k p st off n) (.ro n l) := by
  intro fr f act w hr v hv
  subst hl
  simp only [V] at hv ⊢
  rcases hv with ⟨h1, rfl, rfl, rfl⟩ | ⟨b, cap, h1, rfl, h3, h4, arr0, el0, z0, h5, h6⟩
  · exact ⟨none, 0, rfl, Nat.le_refl _, Nat.zero_le _, fun _ => ⟨rfl, rfl, by simp⟩, fun q hq => by cases hq⟩
  · obtain ⟨arr, el, g1, g2, g3⟩ := hr.cells hk h1
    have hlive : Live s.h f b := ⟨k, p, by rw [hk]; simp, h1⟩
    refine ⟨_, cap, rfl, h3, h4, (fun hq => by cases hq), fun q hq => ?_⟩
    simp only [Option.some.injEq] at hq
    subst hq
    refine .inr ⟨rfl, ?_, (Array.getElem?_eq_some_iff.1 g1).1, ((arr.toList.take c.length).drop off).take (n * st), ?_, ?_⟩
    · rintro (hb | hb)
      · obtain ⟨k', p', e1, e2, e3⟩ := dropAll_live hb
        have := hr.inj k' p' k p b e2 (by rw [hk]; simp) e3 h1
        exact e1 (this.1 ▸ hks)
      · have e1 := hr.y b hb
        rcases hr.new b hlive with h | h
        · omega
        · exact e1.2 h
    · exact VL.toNo _ hfree _ (((g3.drop off).take (n * st)).mono (Ext.refl f) (fun b _ hb => X_drop b hb) (Kp.refl (fun _ => False) w) (fun _ _ h => h.elim))
    · intro j u hj
      rw [List.getElem?_take] at hj
      split at hj
      · rw [List.getElem?_drop, List.getElem?_take] at hj
        split at hj
        · simp only [World.cell?, g1]
          simpa using hj
        · cases hj
      · cases hj
/-- a' says less than a, wherever. -/
def Wk (a a' : A) : Prop := ∀ f X w v, V f X w a v → V f X w a' v
theorem Wk.refl (a : A) : Wk a a := fun _ _ _ _ h => h
theorem Wk.nil : Wk (.val (.slice none 0 0)) (.ro 0 []) := by
  intro f X w v hv
  rw [hv.val]
  simp only [V]
  exact ⟨none, 0, rfl, Nat.le_refl _, Nat.zero_le _, fun _ => by simp, fun q hq => by cases hq⟩
inductive WkL : List A → List A → Prop
  | nil : WkL [] []
  | cons {a a' : A} {l l' : List A} : Wk a a' → WkL l l' → WkL (a :: l) (a' :: l')
theorem WkL.refl (l : List A) : WkL l l := by
  induction l with
  | nil => exact .nil
  | cons x xs ih => exact .cons (Wk.refl x) ih
theorem WkL.VL {f : Pl} {X : Nat → Prop} {w : World} : ∀ {l l' : List A} {vs : List Value}, WkL l l' → Go.Abs.VL f X w l vs → Go.Abs.VL f X w l' vs
  | _, _, vs, .nil, hv => by rw [hv.unnil]; exact Go.Abs.VL.nil
  | _, _, vs, .cons h1 h2, hv => by obtain ⟨v, t, rfl, h3, h4⟩ := hv.uncons; exact Go.Abs.VL.cons (h1 _ _ _ v h3) (h2.VL h4)
theorem WkL.append {a a' b b' : List A} (h : WkL a a') (k : WkL b b') : WkL (a ++ b) (a' ++ b') := by
  induction h with
  | nil => exact k
  | cons h1 _ ih => exact .cons h1 ih
theorem Wk.ro {n : Nat} {l l' : List A} (h : WkL l l') : Wk (.ro n l) (.ro n l') := by
  intro f X w v hv
  simp only [V] at hv ⊢
  obtain ⟨a, cap, h1, h2, h3, h4, h5⟩ := hv
  have hl : l = [] → l' = [] := by rintro rfl; cases h; rfl
  refine ⟨a, cap, h1, h2, h3, fun e => ⟨(h4 e).1, (h4 e).2.1, hl (h4 e).2.2⟩, fun q hq => ?_⟩
  rcases h5 q hq with e | ⟨g1, g2, g3, vs, g4, g5⟩
  · exact .inl (hl e)
  · exact .inr ⟨g1, g2, g3, vs, h.VL g4, g5⟩
theorem Frz.wk {a a' a'' : A} (h : Frz C s ks a a') (k : Wk a' a'') : Frz C s ks a a'' := fun fr f act w hr v hv => k _ _ _ v (h fr f act w hr v hv)
theorem View.wk {h : Nat → Reg} {ks bs : List Nat} {a a' a'' : A} (k : View h ks bs a a') (l : Wk a' a'') : View h ks bs a a'' := fun C s fr f act w hh hr v hv => l _ _ _ v (k C s fr f act w hh hr v hv)
inductive Frzs (C : Ctx) (s : St) (ks : List Nat) : List A → List A → Prop
  | nil : Frzs C s ks [] []
  | cons {a a' : A} {l l' : List A} : Frz C s ks a a' → Frzs C s ks l l' → Frzs C s ks (a :: l) (a' :: l')
theorem Frzs.refl (l : List A) : Frzs C s ks l l := by
  induction l with
  | nil => exact .nil
  | cons x xs ih => exact .cons (Frz.refl x) ih
theorem Frzs.VL {fr : Nat → Prop} {f : Pl} {act : Act} {w : World} (hr : Rel C s fr f act w) : ∀ {l l' : List A} {vs : List Value}, Frzs C s ks l l' → VL f (C.X s.h f) w l vs → Go.Abs.VL f (C.X (dropAll ks s.h) f) w l' vs
  | _, _, vs, .nil, hv => by rw [hv.unnil]; exact Go.Abs.VL.nil
  | _, _, vs, .cons h1 h2, hv => by obtain ⟨v, t, rfl, h3, h4⟩ := hv.uncons; exact Go.Abs.VL.cons (h1 fr f act w hr v h3) (h2.VL hr h4)
theorem Frz.agg {l l' : List A} (h : Frzs C s ks l l') : Frz C s ks (.agg l) (.agg l') := by
  intro fr f act w hr v hv
  simp only [V] at hv ⊢
  obtain ⟨vs, h1, h2⟩ := hv
  exact ⟨vs, h1, h.VL hr h2⟩
theorem Frz.tup {l l' : List A} (h : Frzs C s ks l l') : Frz C s ks (.tup l) (.tup l') := by
  intro fr f act w hr v hv
  simp only [V] at hv ⊢
  obtain ⟨vs, h1, h2⟩ := hv
  exact ⟨vs, h1, h.VL hr h2⟩
/-- From now on the objects of ks are only read; the slot d tells so. -/
theorem Sub.frz (d : Nat) {a a' : A} (hd : s.e d = some a) (hf : Frz C s ks a a') : Sub C s ⟨put d (some a') s.e, dropAll ks s.h, s.n⟩ := by
  intro f act w hr
  refine ⟨f, { N := hr.N, defers := hr.defers, e := fun i x hx => ?_, h := fun k p c hc => ?_, inj := ?_, kp := hr.kp, new := fun b hb => ?_, y := hr.y, fr := hr.fr, ext := hr.ext, dom := hr.dom }⟩
  · dsimp only at hx
    by_cases hi : i = d
    · subst hi
      rw [put_same] at hx
      simp only [Option.some.injEq] at hx
      subst hx
      exact hf _ f act w hr _ (hr.e _ a hd)
    · rw [put_ne _ _ hi] at hx
      exact (hr.e i x hx).mono (Ext.refl f) (fun b _ hb => X_drop b hb) (Kp.refl (fun _ => False) w) (fun _ _ h => h.elim)
  · obtain ⟨h1, _⟩ := dropAll_get hc
    rcases hr.h k p c h1 with h2 | ⟨b, arr, el, h2, h3, h4, h5⟩
    · exact .inl h2
    · exact .inr ⟨b, arr, el, h2, h3, h4, h5.mono (Ext.refl f) (fun b _ hb => X_drop b hb) (Kp.refl (fun _ => False) w) (fun _ _ h => h.elim)⟩
  · intro k p k' p' b h1 h2 h3 h4
    obtain ⟨c, hc⟩ := Option.ne_none_iff_exists'.1 h1
    obtain ⟨c', hc'⟩ := Option.ne_none_iff_exists'.1 h2
    exact hr.inj k p k' p' b (by rw [(dropAll_get hc).1]; simp) (by rw [(dropAll_get hc').1]; simp) h3 h4
  · obtain ⟨k, p, _, h1, h2⟩ := dropAll_live hb
    exact hr.new b ⟨k, p, h1, h2⟩
/-- From now on the objects of ks are only read; the object k0 tells so. -/
theorem Sub.frzH (k0 : Nat) {c c' : List A} (hk0 : s.h k0 = .one c) (hn : k0 ∉ ks) (hf : Frzs C s ks c c') : Sub C s ⟨s.e, hput k0 (.one c') (dropAll ks s.h), s.n⟩ := by
  have hlen : c'.length = c.length := by
    clear hk0
    induction hf with
    | nil => rfl
    | cons _ _ ih => simp [ih]
  intro f act w hr
  have back : ∀ k p c1, ((hput k0 (.one c') (dropAll ks s.h)) k).get p = some c1 → (k = k0 ∧ p = [] ∧ c1 = c') ∨ (k ≠ k0 ∧ (dropAll ks s.h k).get p = some c1) := by
    intro k p c1 hk
    by_cases e : k = k0
    · subst e
      rw [hput_same] at hk
      cases p with
      | nil => simp only [Reg.get, Option.some.injEq] at hk; exact .inl ⟨rfl, rfl, hk.symm⟩
      | cons _ _ => simp [Reg.get] at hk
    · rw [hput_ne _ _ e] at hk; exact .inr ⟨e, hk⟩
  have there : ∀ k p, ((hput k0 (.one c') (dropAll ks s.h)) k).get p ≠ none → (dropAll ks s.h k).get p ≠ none := by
    intro k p h1
    obtain ⟨c1, hc1⟩ := Option.ne_none_iff_exists'.1 h1
    rcases back k p c1 hc1 with ⟨rfl, rfl, rfl⟩ | ⟨_, h2⟩
    · have : ∀ (ks : List Nat), k ∉ ks → dropAll ks s.h k = s.h k := by
        intro ks
        induction ks with
        | nil => intro _; rfl
        | cons k1 ks ih => intro hh; simp only [dropAll]; rw [hput_ne _ _ (fun e => hh (by simp [e])), ih (fun hm => hh (by simp [hm]))]
      rw [this ks hn, hk0]; simp [Reg.get]
    · rw [h2]; simp
  have hXX : ∀ b, b < w.heap.size → C.X (hput k0 (.one c') (dropAll ks s.h)) f b → C.X (dropAll ks s.h) f b := by
    rintro b _ (hb | hb)
    · exact .inl (Live.mono there hb)
    · exact .inr hb
  have m1 : ∀ {x : List A} {vs : List Value}, VL f (C.X (dropAll ks s.h) f) w x vs → VL f (C.X (hput k0 (.one c') (dropAll ks s.h)) f) w x vs := fun h => h.mono (Ext.refl f) hXX (Kp.refl (fun _ => False) w) (fun _ _ h => h.elim)
  have m2 : ∀ {x : List A} {vs : List Value}, VL f (C.X s.h f) w x vs → VL f (C.X (hput k0 (.one c') (dropAll ks s.h)) f) w x vs := fun h => h.mono (Ext.refl f) (fun b hb hx => X_drop b (hXX b hb hx)) (Kp.refl (fun _ => False) w) (fun _ _ h => h.elim)
  refine ⟨f, { N := hr.N, defers := hr.defers, e := fun i x hx => (hr.e i x hx).mono (Ext.refl f) (fun b hb hx => X_drop b (hXX b hb hx)) (Kp.refl (fun _ => False) w) (fun _ _ h => h.elim), h := fun k p c1 hc => ?_, inj := ?_, kp := hr.kp, new := fun b hb => ?_, y := hr.y, fr := hr.fr, ext := hr.ext, dom := hr.dom }⟩
  · rcases back k p c1 hc with ⟨rfl, rfl, rfl⟩ | ⟨_, h2⟩
    · rcases hr.h k [] c (by rw [hk0]; rfl) with ⟨h3, h4⟩ | ⟨b, arr, el, h3, h4, h5, h6⟩
      · exact .inl ⟨by rw [h3] at hlen; simpa using hlen, h4⟩
      · exact .inr ⟨b, arr, el, h3, h4, by omega, by rw [hlen]; exact m1 (hf.VL hr h6)⟩
    · obtain ⟨h1, _⟩ := dropAll_get h2
      rcases hr.h k p c1 h1 with h2 | ⟨b, arr, el, h2, h3, h4, h5⟩
      · exact .inl h2
      · exact .inr ⟨b, arr, el, h2, h3, h4, m2 h5⟩
  · intro k p k' p' b h1 h2 h3 h4
    obtain ⟨c1, hc⟩ := Option.ne_none_iff_exists'.1 (there k p h1)
    obtain ⟨c2, hc'⟩ := Option.ne_none_iff_exists'.1 (there k' p' h2)
    exact hr.inj k p k' p' b (by rw [(dropAll_get hc).1]; simp) (by rw [(dropAll_get hc').1]; simp) h3 h4
  · obtain ⟨k, p, _, h1, h2⟩ := dropAll_live (Live.mono there hb)
    exact hr.new b ⟨k, p, h1, h2⟩
end
end Go.Abs
