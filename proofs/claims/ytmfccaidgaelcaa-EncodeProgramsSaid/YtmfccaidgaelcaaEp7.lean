/- The maker of programs as functions, what they cost, and how great what they make is. No program. -/
import Derived.Test.YtmfccaidgaelcaaEp2
set_option linter.unusedVariables false
set_option linter.unusedSimpArgs false
namespace Go.Proofs.Ytmfccaidgaelcaa
/-- A head. -/
structure Hd where
  id : Int
  firm : Int
  part : Int
  params : List Rg
  given : List Rg
/-- The numbers of the maker. -/
structure Ms where
  a : Nat
  site : Nat
  left : Nat
  loop : Nat
  done : Nat
/-- What stays while statements are made. -/
structure Ev where
  L : List Int
  hs : List Hd
  ds : List Df
  D : Df
def Ms.t (s : Ms) : Nat := s.a + s.site
structure Ev.ok (E : Ev) : Prop where
  L : ∀ x, x ∈ E.L → 0 ≤ x ∧ x ≤ 255
  Ll : E.L.length ≤ 9223372036854775807
  vars : ((E.D.params.length + 2 : Nat) : Int) ≤ E.D.vars ∧ E.D.vars ≤ 100
  arr : 1 ≤ E.D.arrays.length ∧ E.D.arrays.length ≤ 100
  hs : ∀ h, h ∈ E.hs → h.params.length ≤ 2 ∧ h.given.length ≤ 1 ∧ -1000 ≤ h.id ∧ h.id ≤ 1000
  hsl : E.hs.length ≤ 100
section
variable (E : Ev)
def gN (n : Nat) (s : Ms) : Nat × Ms := (if s.a < E.L.length then (E.L.getD s.a 0).toNat % n else 0, { s with a := s.a + 1 })
def gS (s : Ms) : Nat × Ms := (s.site + 1, { s with site := s.site + 1 })
abbrev zE : Ex := .mk 0 0 0 []
abbrev zC : Co := .mk 0 [] []
abbrev numE (v : Int) : Ex := .mk 1 0 v []
def gE : Nat → Ms → Ex × Ms
  | 0, s =>
    let k := gN E 12 s
    let v := gN E 14 k.2
    (numE ((v.1 : Int) - 3), v.2)
  | d + 1, s =>
    let k := gN E 12 s
    if k.1 < 4 then
      let v := gN E 14 k.2
      (numE ((v.1 : Int) - 3), v.2)
    else if k.1 < 9 then
      let v := gN E E.D.vars.toNat k.2
      (.mk 2 v.1 0 [], v.2)
    else if k.1 = 9 then
      let v := gN E E.D.arrays.length k.2
      (.mk 3 v.1 0 [], v.2)
    else
      let o := gN E 7 k.2
      let a := gE d o.2
      let b := gE d a.2
      (.mk (4 + o.1) 0 0 [a.1, b.1], b.2)
/-- A test. -/
def gTest (k : Nat) (s : Ms) : Co × Ms :=
  let a := gE E 1 s
  let b := gE E 1 a.2
  (.mk (2 + (k % 3 : Nat)) [a.1, b.1] [], b.2)
def gC : Nat → Ms → Co × Ms
  | 0, s =>
    let k := gN E 8 s
    gTest E k.1 k.2
  | d + 1, s =>
    let k := gN E 8 s
    if k.1 < 6 then gTest E k.1 k.2
    else if k.1 = 6 then
      let c := gC d k.2
      (.mk 5 [] [c.1], c.2)
    else
      let a := gC d k.2
      let o := gN E 2 a.2
      let b := gC d o.2
      (.mk (6 + o.1) [] [a.1, b.1], b.2)
def gT (s : Ms) : Nat × Ms :=
  let v := gN E (E.D.vars.toNat - E.D.params.length) s
  (E.D.params.length + v.1, v.2)
abbrev stm (site op n m v : Int) (x y : Ex) (c : Co) : Sm := .mk site op n m v x y c [] [] [] []
def gSk (i : Nat) : Nat → Ms → List Sm × Ms
  | 0, s =>
    let n := gT E s
    let x := gN E 4 n.2
    ([stm i 2 n.1 0 0 (numE x.1) zE zC], x.2)
  | 1, s =>
    let x := gN E 4 s
    let y := gE E 2 x.2
    ([stm i 3 0 0 0 (numE x.1) y.1 zC], y.2)
  | 2, s =>
    let n := gT E s
    let m := gN E 2 n.2
    ([stm i 4 n.1 m.1 0 zE zE zC], m.2)
  | 3, s =>
    let n := gT E s
    let m := gN E 2 n.2
    ([stm i 20 n.1 m.1 0 zE zE zC], m.2)
  | 4, s =>
    let q := gN E 3 s
    let j := gS q.2
    let x := gN E 9 j.2
    let l := gS x.2
    ([stm i 16 0 q.1 0 zE zE zC, stm j.1 5 0 0 0 (numE x.1) zE zC, stm l.1 17 0 q.1 0 zE zE zC], l.2)
  | 5, s =>
    let j := gS s
    let x := gE E 1 j.2
    let l := gS x.2
    ([stm i 6 1 0 0 zE zE zC, stm j.1 9 1 0 0 x.1 zE zC, stm l.1 7 1 0 0 zE zE zC], l.2)
  | _ + 6, s =>
    let n := gT E s
    let x := gE E 2 n.2
    ([stm i 1 n.1 0 0 x.1 zE zC], x.2)
def gSimple (s : Ms) : List Sm × Ms :=
  let t := gS s
  let k := gN E 8 t.2
  gSk E t.1 k.1 k.2
/-- The element that two numbers choose of a list, in an array. -/
def gArr (i op : Nat) (s : Ms) : Sm × Ms :=
  let n := gT E s
  let m := gN E E.D.arrays.length n.2
  let x := gE E 1 m.2
  (stm i op n.1 m.1 0 x.1 zE zC, x.2)
def gRk (i : Nat) : Nat → Ms → Sm × Ms
  | 0, s => gArr E i 2 s
  | 1, s => gArr E i 2 s
  | 2, s =>
    let m := gN E E.D.arrays.length s
    let x := gE E 1 m.2
    let y := gE E 1 x.2
    (stm i 3 0 m.1 0 x.1 y.1 zC, y.2)
  | 3, s =>
    let m := gN E 2 s
    let x := gE E 1 m.2
    (stm i 5 0 m.1 0 x.1 zE zC, x.2)
  | 4, s =>
    let n := gN E 2 s
    (stm i 6 n.1 0 0 zE zE zC, n.2)
  | 5, s =>
    let n := gN E 2 s
    (stm i 7 n.1 0 0 zE zE zC, n.2)
  | 6, s =>
    let n := gN E 2 s
    let m := gN E 2 n.2
    (stm i 8 n.1 m.1 0 zE zE zC, m.2)
  | 7, s =>
    let n := gT E s
    let m := gN E 2 n.2
    (stm i 10 n.1 m.1 0 zE zE zC, m.2)
  | 8, s =>
    let o := gN E 2 s
    let m := gN E 3 o.2
    (stm i (16 + o.1) 0 m.1 0 zE zE zC, m.2)
  | 9, s =>
    let x := gE E 1 s
    (stm i 18 0 0 0 x.1 zE zC, x.2)
  | 10, s =>
    let n := gT E s
    (stm i 19 n.1 0 0 zE zE zC, n.2)
  | 11, s =>
    let m := gN E 3 s
    let x := gE E 1 m.2
    (stm i 21 0 m.1 0 x.1 zE zC, x.2)
  | 12, s =>
    let m := gN E 3 s
    (stm i 22 0 m.1 0 zE zE zC, m.2)
  | 13, s =>
    let c := gC E 1 s
    (stm i 23 0 0 0 zE zE c.1, c.2)
  | _ + 14, s =>
    let n := gN E 2 s
    let x := gE E 1 n.2
    (stm i 9 n.1 0 0 x.1 zE zC, x.2)
def gRisky (s : Ms) : Sm × Ms :=
  let t := gS s
  let k := gN E 15 t.2
  gRk E t.1 k.1 k.2
/-- f, n times more. -/
def gRep {α : Type} (f : Ms → α × Ms) : Nat → List α → Ms → List α × Ms
  | 0, xs, s => (xs, s)
  | n + 1, xs, s => gRep f n (xs ++ [(f s).1]) (f s).2
def zHd : Hd := ⟨0, 0, 0, [], []⟩
def gCall (s : Ms) : Sm × Ms :=
  let t := gS s
  let n := gT E t.2
  if E.hs.length = 0 ∨ 2 ≤ n.2.done then (stm t.1 1 n.1 0 0 (numE 1) zE zC, n.2)
  else
    let q := gN E E.hs.length n.2
    let h := E.hs.getD q.1 zHd
    let a := gRep (gE E 1) h.params.length [] { q.2 with done := q.2.done + 1 }
    let b := gRep (gN E 2) h.given.length [] a.2
    (.mk t.1 13 n.1 h.id 0 zE zE zC a.1 (b.1.map fun x : Nat => (x : Int)) [] [], b.2)
def gNes (f : Nat → Ms → List Sm × Ms) (k : Nat) (s : Ms) : Sm × Ms :=
  let t := gS s
  if k = 6 then
    let c := gC E 1 t.2
    let v := gN E 3 c.2
    let n := gN E 2 { v.2 with loop := v.2.loop + 1 }
    let b := f (1 + n.1) n.2
    (.mk t.1 12 0 0 (1 + v.1) zE zE c.1 [] [] b.1 [], { b.2 with loop := b.2.loop - 1 })
  else if k = 7 then
    let v := gT E t.2
    let n := gN E 2 v.2
    let b := f (1 + n.1) n.2
    let m := gN E 2 b.2
    let e := f m.1 m.2
    (.mk t.1 15 v.1 0 0 zE zE zC [] [] b.1 e.1, e.2)
  else
    let c := gC E 1 t.2
    let n := gN E 2 c.2
    let b := f (1 + n.1) n.2
    let m := gN E 2 b.2
    let e := f m.1 m.2
    (.mk t.1 11 0 0 0 zE zE c.1 [] [] b.1 e.1, e.2)
def gOther (k d : Nat) (s : Ms) : List Sm × Ms :=
  if 4 ≤ k ∧ k < 10 then
    let c := gCall E s
    ([c.1], c.2)
  else if k = 10 then
    let t := gS s
    let v := gN E 3 t.2
    ([stm t.1 14 0 0 (1 + v.1) zE zE zC], v.2)
  else if k = 11 ∧ d < 2 then
    let t := gS s
    let x := gE E 1 t.2
    ([stm t.1 24 0 0 0 x.1 zE zC], x.2)
  else if k < 4 then gSimple E s
  else
    let r := gRisky E s
    ([r.1], r.2)
def gLoop (one : Ms → List Sm × Ms) : Nat → List Sm → Ms → List Sm × Ms
  | 0, xs, s => (xs, s)
  | n + 1, xs, s => if s.left = 0 then (xs, s) else gLoop one n (xs ++ (one { s with left := s.left - 1 }).1) (one { s with left := s.left - 1 }).2
def gSts : Nat → Nat → Ms → List Sm × Ms
  | 0, n, s => gLoop (fun s =>
      let k := gN E 16 s
      gOther E k.1 0 k.2) n [] s
  | d + 1, n, s => gLoop (fun s =>
      let k := gN E 16 s
      if 4 ≤ k.1 ∧ k.1 ≤ 7 then
        let r := gNes E (gSts d) k.1 k.2
        ([r.1], r.2)
      else gOther E k.1 (d + 1) k.2) n [] s
end
/-! ### What they cost, and how great what they make is -/
/-- Small numbers. -/
def Sml (w : List Int) : Prop := ∀ x, x ∈ w → -2000000 ≤ x ∧ x ≤ 2000000
theorem Sml.nil : Sml [] := fun x h => by cases h
theorem Sml.cons {x : Int} {w : List Int} (h : -2000000 ≤ x ∧ x ≤ 2000000) (k : Sml w) : Sml (x :: w) := fun y hy => by
  rcases List.mem_cons.1 hy with rfl | hy
  · exact h
  · exact k y hy
theorem Sml.app {a b : List Int} (h : Sml a) (k : Sml b) : Sml (a ++ b) := fun y hy => by
  rcases List.mem_append.1 hy with hy | hy
  · exact h y hy
  · exact k y hy
theorem Sml.fm {α : Type} {w : α → List Int} : ∀ {l : List α}, (∀ x, x ∈ l → Sml (w x)) → Sml (fmW w l)
  | [], _ => Sml.nil
  | x :: l, h => (h x (by simp)).app (Sml.fm (fun y hy => h y (by simp [hy])))
/-- The other numbers stay, and the cost is at most c. -/
structure Ct1 (s s' : Ms) (c : Nat) : Prop where
  t : s'.t ≤ s.t + c
  site : s.site ≤ s'.site
  left : s'.left = s.left
  loop : s'.loop = s.loop
  done : s'.done = s.done
theorem Ct1.trans {a b c : Ms} {m n : Nat} (h : Ct1 a b m) (k : Ct1 b c n) : Ct1 a c (m + n) :=
  ⟨by have := h.t; have := k.t; omega, Nat.le_trans h.site k.site, k.left.trans h.left, k.loop.trans h.loop, k.done.trans h.done⟩
theorem Ct1.mono {a b : Ms} {m n : Nat} (h : Ct1 a b m) (k : m ≤ n) : Ct1 a b n := ⟨Nat.le_trans h.t (by omega), h.site, h.left, h.loop, h.done⟩
section
variable {E : Ev}
theorem gN_ct (n : Nat) (s : Ms) : Ct1 s (gN E n s).2 1 := ⟨by simp only [gN, Ms.t]; omega, Nat.le_refl _, rfl, rfl, rfl⟩
theorem gN_lt {n : Nat} (s : Ms) (h : 0 < n) : (gN E n s).1 < n := by
  unfold gN; dsimp only; split
  · exact Nat.mod_lt _ h
  · exact h
theorem gS_ct (s : Ms) : Ct1 s (gS s).2 1 := ⟨by simp only [gS, Ms.t]; omega, Nat.le_succ _, rfl, rfl, rfl⟩
theorem gT_ct (s : Ms) : Ct1 s (gT E s).2 1 := by unfold gT; dsimp only; exact gN_ct _ s
theorem gT_lt (ok : E.ok) (s : Ms) : (gT E s).1 < 100 := by
  have h1 := ok.vars
  have := gN_lt (E := E) (n := E.D.vars.toNat - E.D.params.length) s (by omega)
  unfold gT; dsimp only; omega
def eT : Nat → Nat
  | 0 => 2
  | d + 1 => 2 + 2 * eT d
theorem eT_ge : ∀ d, 2 ≤ eT d
  | 0 => Nat.le_refl _
  | d + 1 => by have := eT_ge d; simp only [eT]; omega
def eB : Nat → Nat
  | 0 => 4
  | d + 1 => 4 + 2 * eB d
theorem gE_ct : ∀ (d : Nat) (s : Ms), Ct1 s (gE E d s).2 (eT d)
  | 0, s => by unfold gE; dsimp only; exact (gN_ct 12 s).trans (gN_ct (E := E) 14 _)
  | d + 1, s => by
    have k := gN_ct (E := E) 12 s
    have h := eT_ge d
    unfold gE
    dsimp only
    split
    · have k2 := k.trans (gN_ct (E := E) 14 (gN E 12 s).2)
      exact k2.mono (by simp only [eT]; omega)
    · split
      · have k2 := k.trans (gN_ct (E := E) E.D.vars.toNat (gN E 12 s).2)
        exact k2.mono (by simp only [eT]; omega)
      · split
        · have k2 := k.trans (gN_ct (E := E) E.D.arrays.length (gN E 12 s).2)
          exact k2.mono (by simp only [eT]; omega)
        · have k2 := k.trans (gN_ct (E := E) 7 (gN E 12 s).2)
          have k3 := (k2.trans (gE_ct d _)).trans (gE_ct d _)
          exact k3.mono (by simp only [eT]; omega)
theorem sml_num {v : Int} (h : -1000 ≤ v ∧ v ≤ 1000) : Sml (numE v).w := by
  simp only [Ex.w, exW, List.length_nil]
  exact .cons (by omega) (.cons (by omega) (.cons (by omega) (.cons (by simp) .nil)))
theorem gE_w (ok : E.ok) : ∀ (d : Nat) (s : Ms), (gE E d s).1.w.length ≤ eB d ∧ Sml (gE E d s).1.w
  | 0, s => by
    have k := gN_lt (E := E) (n := 14) (gN E 12 s).2 (by decide)
    refine ⟨by simp [gE, Ex.w, exW, eB], ?_⟩
    unfold gE
    dsimp only
    exact sml_num (by omega)
  | d + 1, s => by
    unfold gE
    dsimp only
    split
    · have k := gN_lt (E := E) (n := 14) (gN E 12 s).2 (by decide)
      exact ⟨by simp [Ex.w, exW, eB], sml_num (by omega)⟩
    · split
      · have h1 := ok.vars
        have k := gN_lt (E := E) (n := E.D.vars.toNat) (gN E 12 s).2 (by omega)
        refine ⟨by simp [Ex.w, exW, eB], ?_⟩
        simp only [Ex.w, exW, List.length_nil]
        exact .cons (by omega) (.cons (by omega) (.cons (by omega) (.cons (by simp) .nil)))
      · split
        · have h1 := ok.arr
          have k := gN_lt (E := E) (n := E.D.arrays.length) (gN E 12 s).2 (by omega)
          refine ⟨by simp [Ex.w, exW, eB], ?_⟩
          simp only [Ex.w, exW, List.length_nil]
          exact .cons (by omega) (.cons (by omega) (.cons (by omega) (.cons (by simp) .nil)))
        · have k := gN_lt (E := E) (n := 7) (gN E 12 s).2 (by decide)
          obtain ⟨a1, a2⟩ := gE_w ok d (gN E 7 (gN E 12 s).2).2
          obtain ⟨b1, b2⟩ := gE_w ok d (gE E d (gN E 7 (gN E 12 s).2).2).2
          refine ⟨by simp only [Ex.w, exW, eB, List.length_cons, List.length_append, List.length_nil]; omega, ?_⟩
          simp only [Ex.w, exW, List.length_cons, List.length_nil, List.append_nil]
          exact .cons (by omega) (.cons (by omega) (.cons (by omega) (.cons (by simp) (a2.app b2))))
def cT : Nat → Nat
  | 0 => 13
  | d + 1 => 2 + 2 * cT d
def cB : Nat → Nat
  | 0 => 27
  | d + 1 => 3 + 2 * cB d
theorem cT_ge : ∀ d, 13 ≤ cT d
  | 0 => Nat.le_refl _
  | d + 1 => by have := cT_ge d; simp only [cT]; omega
theorem cB_ge : ∀ d, 27 ≤ cB d
  | 0 => Nat.le_refl _
  | d + 1 => by have := cB_ge d; simp only [cB]; omega
theorem gTest_ct (k : Nat) (s : Ms) : Ct1 s (gTest E k s).2 12 := by unfold gTest; dsimp only; exact Ct1.mono ((gE_ct 1 s).trans (gE_ct 1 _)) (by decide)
theorem gC_ct : ∀ (d : Nat) (s : Ms), Ct1 s (gC E d s).2 (cT d)
  | 0, s => by unfold gC; dsimp only; exact (gN_ct 8 s).trans (gTest_ct _ _)
  | d + 1, s => by
    have k := gN_ct (E := E) 8 s
    have h := cT_ge d
    unfold gC
    dsimp only
    split
    · exact Ct1.mono (k.trans (gTest_ct _ _)) (by simp only [cT]; omega)
    · split
      · exact Ct1.mono (k.trans (gC_ct d _)) (by simp only [cT]; omega)
      · exact Ct1.mono (((k.trans (gC_ct d _)).trans (gN_ct 2 _)).trans (gC_ct d _)) (by simp only [cT]; omega)
theorem gTest_w (ok : E.ok) (k : Nat) (s : Ms) : (gTest E k s).1.w.length ≤ 27 ∧ Sml (gTest E k s).1.w := by
  obtain ⟨a1, a2⟩ := gE_w ok 1 s
  obtain ⟨b1, b2⟩ := gE_w ok 1 (gE E 1 s).2
  have : eB 1 = 12 := rfl
  unfold gTest
  dsimp only
  refine ⟨by simp only [Co.w, exW, coW, List.length_cons, List.length_append, List.length_nil]; omega, ?_⟩
  simp only [Co.w, exW, coW, List.length_cons, List.length_nil, List.append_nil]
  exact .cons (by omega) (.cons (by simp) ((a2.app b2).app (.cons (by simp) .nil)))
theorem gC_w (ok : E.ok) : ∀ (d : Nat) (s : Ms), (gC E d s).1.w.length ≤ cB d ∧ Sml (gC E d s).1.w
  | 0, s => by unfold gC; dsimp only; exact gTest_w ok _ _
  | d + 1, s => by
    have h := cB_ge d
    unfold gC
    dsimp only
    split
    · obtain ⟨a1, a2⟩ := gTest_w ok (gN E 8 s).1 (gN E 8 s).2
      exact ⟨by simp only [cB]; omega, a2⟩
    · split
      · obtain ⟨a1, a2⟩ := gC_w ok d (gN E 8 s).2
        refine ⟨by simp only [Co.w, exW, coW, cB, List.length_cons, List.length_append, List.length_nil]; omega, ?_⟩
        simp only [Co.w, exW, coW, List.length_cons, List.length_nil, List.append_nil, List.nil_append]
        exact .cons (by omega) (.cons (by simp) (.cons (by simp) a2))
      · obtain ⟨a1, a2⟩ := gC_w ok d (gN E 8 s).2
        have k := gN_lt (E := E) (n := 2) (gC E d (gN E 8 s).2).2 (by decide)
        obtain ⟨b1, b2⟩ := gC_w ok d (gN E 2 (gC E d (gN E 8 s).2).2).2
        refine ⟨by simp only [Co.w, exW, coW, cB, List.length_cons, List.length_append, List.length_nil]; omega, ?_⟩
        simp only [Co.w, exW, coW, List.length_cons, List.length_nil, List.append_nil, List.nil_append]
        exact .cons (by omega) (.cons (by simp) (.cons (by simp) (a2.app b2)))
end
end Go.Proofs.Ytmfccaidgaelcaa
