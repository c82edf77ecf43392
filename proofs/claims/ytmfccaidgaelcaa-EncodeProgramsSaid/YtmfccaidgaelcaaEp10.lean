/- The maker of programs: definitions, threads, programs, as functions, and how great what they make is. No program. -/
import Derived.Test.YtmfccaidgaelcaaEp9
set_option linter.unusedVariables false
set_option linter.unusedSimpArgs false
namespace Go.Proofs.Ytmfccaidgaelcaa
def rgsM : List Rg := [⟨0, 3, 0⟩, ⟨-2, 5, 1⟩, ⟨0, 9, 3⟩, ⟨2, 2, 0⟩]
def budM : List Int := [400, 60, 20, 2000]
def zRg : Rg := ⟨0, 0, 0⟩
section
variable (E : Ev)
def gD0 (id : Nat) (s : Ms) : Df × Ms :=
  let f := gN E 2 s
  let p := gN E 6 f.2
  let b := gN E 4 p.2
  let z := gN E 2 b.2
  (⟨id, 0, [97 + ((id % 8 : Nat) : Int)], f.1, if z.1 = 0 then 0 else ((p.1 / 2 % 3 : Nat) : Int), [], [], 0, 0, [], budM.getD b.1 0, []⟩, z.2)
def gPr (s : Ms) : Rg × Ms := (rgsM.getD (gN E 4 s).1 zRg, (gN E 4 s).2)
def gD1 (d : Df) (th : Bool) (s : Ms) : Df × Ms :=
  let k := gN E 3 s
  let p := gRep (gPr E) (if th = true then 0 else k.1) [] k.2
  ({ d with params := p.1 }, p.2)
def gD2 (d : Df) (th : Bool) (s : Ms) : Df × Ms :=
  let g := gN E 4 s
  ({ d with given := if g.1 = 0 ∧ th = false then [⟨-10, 10, 1⟩] else [] }, g.2)
def gD3 (d : Df) (s : Ms) : Df × Ms :=
  let v := gN E 2 s
  ({ d with vars := ((d.params.length + 2 + v.1 : Nat) : Int), refs := 2 }, v.2)
def gD4 (d : Df) (s : Ms) : Df × Ms :=
  if d.params.length = 0 then ({ d with arrays := [⟨4, 0⟩] }, s)
  else
    let a := gN E 2 s
    ({ d with arrays := if a.1 = 0 then [⟨4, 0⟩, ⟨8, 1⟩] else [⟨4, 0⟩] }, a.2)
def gD5 (id : Nat) (th : Bool) (s : Ms) : Df × Ms :=
  let a := gD0 E id s
  let b := gD1 E a.1 th a.2
  let c := gD2 E b.1 th b.2
  let v := gD3 E c.1 c.2
  gD4 E v.1 v.2
def hdOf (d : Df) : Hd := ⟨d.id, d.firm, d.part, d.params, d.given⟩
def gD6 (d : Df) (s : Ms) : Df × Ms :=
  let n := gN { E with D := d } 5 { s with left := 9, done := 0 }
  let t := gSts { E with D := d } 2 (1 + n.1) n.2
  let u := gS t.2
  ({ d with site := (u.1 : Int), body := t.1 }, u.2)
def gDef (id : Nat) (th : Bool) (s : Ms) : Df × Ms :=
  let d := gD5 E id th s
  gD6 E d.1 d.2
def evAdd (D : Df) : Ev := ⟨E.L, E.hs ++ [hdOf D], E.ds ++ [D], D⟩
end
def gDefs (n : Nat) : Nat → Ev → Ms → Ev × Ms
  | 0, E, s => (E, s)
  | j + 1, E, s =>
    if j = 0 then
      let d := gDef E (11 + (n - 1)) true s
      gDefs n j (evAdd E d.1) d.2
    else
      let z := gN E 5 s
      let d := gDef E (11 + (n - (j + 1))) (decide (z.1 = 0)) z.2
      gDefs n j (evAdd E d.1) d.2
def zDf : Df := ⟨0, 0, [], 0, 0, [], [], 0, 0, [], 0, []⟩
def gThr (ds : List Df) : Nat → List Int → List Int
  | 0, l => l
  | i + 1, l => if l.length < 2 then gThr ds i (if (ds.getD i zDf).params.length + (ds.getD i zDf).given.length = 0 then l ++ [(ds.getD i zDf).id] else l) else l
structure Qu where
  cap : Int
  r : Rg
structure Dc where
  globals : List Rg
  classes : List Rg
  queues : List Qu
  sinks : List Int
  locks : Int
  parts : Int
  firms : Int
structure Pg where
  dc : Dc
  heads : List Hd
  defs : List Df
  threads : List Int
def dcM : Dc := ⟨[⟨0, 20, 1⟩, ⟨-5, 5, 0⟩], [⟨0, 9, 1⟩, ⟨0, 100, 2⟩], [⟨2, ⟨0, 15, 1⟩⟩], [0, 1, 3], 3, 3, 2⟩
def gMade (L : List Int) : Pg :=
  let n := gN ⟨L, [], [], zDf⟩ 4 ⟨0, 100, 0, 0, 0⟩
  let e := gDefs (1 + n.1) (1 + n.1) ⟨L, [], [], zDf⟩ n.2
  let t := gThr e.1.ds (1 + n.1) []
  let z := gN e.1 3 e.2
  ⟨dcM, e.1.hs, e.1.ds, if z.1 = 0 then t.take 1 else t⟩
/-! ### How great they are -/
/-- What each definition is that is made. -/
structure DfOk (d : Df) : Prop where
  params : d.params.length ≤ 2
  given : d.given.length ≤ 1
  id : 0 ≤ d.id ∧ d.id ≤ 100
  name : d.name.length = 1
  ok : d.ok
  len : d.w.length ≤ 7400
  sml : Sml d.w
/-- What holds ahead of each definition. -/
structure EvOk (E : Ev) : Prop where
  L : ∀ x, x ∈ E.L → 0 ≤ x ∧ x ≤ 255
  Ll : E.L.length ≤ 9223372036854775807
  ds : ∀ d, d ∈ E.ds → DfOk d
  hs : E.hs = E.ds.map hdOf
theorem gPr_ct {E : Ev} (s : Ms) : Ct1 s (gPr E s).2 1 := gN_ct (E := E) 4 s
theorem gD0_ct (E : Ev) (id : Nat) (s : Ms) : Ct1 s (gD0 E id s).2 4 :=
  (((gN_ct (E := E) 2 s).trans (gN_ct (E := E) 6 _)).trans (gN_ct (E := E) 4 _)).trans (gN_ct (E := E) 2 _)
theorem gD1_ct (E : Ev) (d : Df) (th : Bool) (s : Ms) : Ct1 s (gD1 E d th s).2 4 := by
  have k := gN_ct (E := E) 3 s
  have h := gN_lt (E := E) (n := 3) s (by decide)
  have r := gRep_ct (f := gPr E) (c := 1) gPr_ct (if th = true then 0 else (gN E 3 s).1) [] (gN E 3 s).2
  refine (k.trans r).mono ?_
  split <;> omega
theorem gD2_ct (E : Ev) (d : Df) (th : Bool) (s : Ms) : Ct1 s (gD2 E d th s).2 1 := gN_ct (E := E) 4 s
theorem gD3_ct (E : Ev) (d : Df) (s : Ms) : Ct1 s (gD3 E d s).2 1 := gN_ct (E := E) 2 s
theorem gD4_ct (E : Ev) (d : Df) (s : Ms) : Ct1 s (gD4 E d s).2 1 := by
  unfold gD4
  split
  · exact ⟨by show s.t ≤ s.t + 1; omega, Nat.le_refl _, rfl, rfl, rfl⟩
  · exact gN_ct (E := E) 2 s
theorem gD5_ct (E : Ev) (id : Nat) (th : Bool) (s : Ms) : Ct1 s (gD5 E id th s).2 11 := by
  unfold gD5
  dsimp only
  exact (((gD0_ct E id s).trans (gD1_ct E _ th _)).trans (gD2_ct E _ th _)).trans (gD3_ct E _ _) |>.trans (gD4_ct E _ _)
theorem budM_lt (n : Nat) : 0 ≤ budM.getD n 0 ∧ budM.getD n 0 ≤ 2000 := by
  match n with
  | 0 => decide
  | 1 => decide
  | 2 => decide
  | 3 => decide
  | n + 4 => simp [budM]
theorem rgsM_lt (n : Nat) : Sml (rgsM.getD n zRg).w := by
  match n with
  | 0 => intro x hx; simp [rgsM, Rg.w] at hx; omega
  | 1 => intro x hx; simp [rgsM, Rg.w] at hx; omega
  | 2 => intro x hx; simp [rgsM, Rg.w] at hx; omega
  | 3 => intro x hx; simp [rgsM, Rg.w] at hx; omega
  | n + 4 => intro x hx; simp [rgsM, Rg.w, zRg] at hx; omega
/-- A definition without its body. -/
structure DhOk (d : Df) (i : Nat) : Prop where
  id : d.id = i
  name : d.name = [97 + ((i % 8 : Nat) : Int)]
  firm : 0 ≤ d.firm ∧ d.firm ≤ 1
  part : 0 ≤ d.part ∧ d.part ≤ 2
  budget : 0 ≤ d.budget ∧ d.budget ≤ 2000
  params : d.params.length ≤ 2
  paramsS : ∀ r, r ∈ d.params → Sml r.w
  given : d.given.length ≤ 1
  givenS : ∀ r, r ∈ d.given → Sml r.w
  vars : ((d.params.length + 2 : Nat) : Int) ≤ d.vars ∧ d.vars ≤ 5
  refs : d.refs = 2
  arrays : 1 ≤ d.arrays.length ∧ d.arrays.length ≤ 2
  arraysS : ∀ r, r ∈ d.arrays → Sml r.w
theorem gD5_ok (E : Ev) (id : Nat) (th : Bool) (s : Ms) : DhOk (gD5 E id th s).1 id := by
  have f := gN_lt (E := E) (n := 2) s (by decide)
  have p := gN_lt (E := E) (n := 6) (gN E 2 s).2 (by decide)
  obtain ⟨d0, h0⟩ : ∃ d, d = gD0 E id s := ⟨_, rfl⟩
  have b := budM_lt (gN E 4 (gN E 6 (gN E 2 s).2).2).1
  have e0 : d0.1.id = id ∧ d0.1.name = [97 + ((id % 8 : Nat) : Int)] ∧ (0 ≤ d0.1.firm ∧ d0.1.firm ≤ 1) ∧ (0 ≤ d0.1.part ∧ d0.1.part ≤ 2) ∧ (0 ≤ d0.1.budget ∧ d0.1.budget ≤ 2000) := by
    rw [h0]
    refine ⟨rfl, rfl, ⟨by simp only [gD0]; omega, by simp only [gD0]; omega⟩, ?_, b⟩
    simp only [gD0]
    split <;> omega
  unfold gD5
  dsimp only
  rw [← h0]
  clear h0
  obtain ⟨d1, h1⟩ : ∃ d, d = gD1 E d0.1 th d0.2 := ⟨_, rfl⟩
  have l1 : d1.1.params.length ≤ 2 ∧ ∀ r, r ∈ d1.1.params → Sml r.w := by
    rw [h1]
    have h := gN_lt (E := E) (n := 3) d0.2 (by decide)
    refine ⟨?_, ?_⟩
    · show (gRep _ _ _ _).1.length ≤ 2
      rw [gRep_len, List.length_nil]
      split <;> omega
    · exact gRep_all (p := fun r : Rg => Sml r.w) (fun s => rgsM_lt _) _ _ _ (by simp)
  have e1 : d1.1.id = d0.1.id ∧ d1.1.name = d0.1.name ∧ d1.1.firm = d0.1.firm ∧ d1.1.part = d0.1.part ∧ d1.1.budget = d0.1.budget := by rw [h1]; exact ⟨rfl, rfl, rfl, rfl, rfl⟩
  rw [← h1]
  clear h1
  obtain ⟨d2, h2⟩ : ∃ d, d = gD2 E d1.1 th d1.2 := ⟨_, rfl⟩
  have l2 : d2.1.given.length ≤ 1 ∧ ∀ r, r ∈ d2.1.given → Sml r.w := by
    rw [h2]
    unfold gD2
    dsimp only
    split
    · refine ⟨by simp, ?_⟩
      intro r hr x hx
      simp at hr
      subst hr
      simp [Rg.w] at hx
      omega
    · exact ⟨by simp, by simp⟩
  have e2 : d2.1.id = d1.1.id ∧ d2.1.name = d1.1.name ∧ d2.1.firm = d1.1.firm ∧ d2.1.part = d1.1.part ∧ d2.1.budget = d1.1.budget ∧ d2.1.params = d1.1.params := by rw [h2]; exact ⟨rfl, rfl, rfl, rfl, rfl, rfl⟩
  rw [← h2]
  clear h2
  obtain ⟨d3, h3⟩ : ∃ d, d = gD3 E d2.1 d2.2 := ⟨_, rfl⟩
  have hv := gN_lt (E := E) (n := 2) d2.2 (by decide)
  have e3 : d3.1.id = d2.1.id ∧ d3.1.name = d2.1.name ∧ d3.1.firm = d2.1.firm ∧ d3.1.part = d2.1.part ∧ d3.1.budget = d2.1.budget ∧ d3.1.params = d2.1.params ∧ d3.1.given = d2.1.given ∧ d3.1.refs = 2 ∧ d3.1.vars = ((d2.1.params.length + 2 + (gN E 2 d2.2).1 : Nat) : Int) := by rw [h3]; exact ⟨rfl, rfl, rfl, rfl, rfl, rfl, rfl, rfl, rfl⟩
  rw [← h3]
  clear h3
  have a4 : ∀ l : List Ar, (l = [⟨4, 0⟩] ∨ l = [⟨4, 0⟩, ⟨8, 1⟩]) → (1 ≤ l.length ∧ l.length ≤ 2) ∧ ∀ r, r ∈ l → Sml r.w := by
    rintro l (rfl | rfl)
    · refine ⟨by simp, ?_⟩
      intro r hr x hx
      simp at hr
      subst hr
      simp [Ar.w] at hx
      omega
    · refine ⟨by simp, ?_⟩
      intro r hr x hx
      simp at hr
      rcases hr with rfl | rfl <;> (simp [Ar.w] at hx; omega)
  obtain ⟨i1, n1, f1, p1, b1⟩ := e1
  obtain ⟨i2, n2, f2, p2, b2, q2⟩ := e2
  obtain ⟨i3, n3, f3, p3, b3, q3, g3, r3, v3⟩ := e3
  obtain ⟨i0, n0, f0, p0, b0⟩ := e0
  have key : ∀ l : List Ar, (l = [⟨4, 0⟩] ∨ l = [⟨4, 0⟩, ⟨8, 1⟩]) → DhOk { d3.1 with arrays := l } id := by
    intro l hl
    obtain ⟨x1, x2⟩ := a4 l hl
    refine ⟨by simp only [i3, i2, i1, i0], by simp only [n3, n2, n1, n0], by simp only [f3, f2, f1]; exact f0, by simp only [p3, p2, p1]; exact p0, by simp only [b3, b2, b1]; exact b0, by simp only [q3, q2]; exact l1.1, by simp only [q3, q2]; exact l1.2, by simp only [g3]; exact l2.1, by simp only [g3]; exact l2.2, ?_, by simp only [r3], x1, x2⟩
    simp only [v3, q3]
    have := l1.1
    rw [q2]
    omega
  unfold gD4
  split
  · exact key _ (.inl rfl)
  · dsimp only
    split
    · exact key _ (.inr rfl)
    · exact key _ (.inl rfl)
theorem fmW_c {α : Type} {w : α → List Int} {c : Nat} : ∀ {l : List α}, (∀ x, x ∈ l → (w x).length ≤ c) → (fmW w l).length ≤ l.length * c
  | [], _ => Nat.zero_le _
  | x :: l, h => by
    have h1 := h x (by simp)
    have h2 := fmW_c (l := l) (fun y hy => h y (by simp [hy]))
    simp only [fmW, List.length_append, List.length_cons, Nat.add_mul]
    omega
theorem Ev.of {E : Ev} (k : EvOk E) (h4 : E.ds.length ≤ 4) {d : Df} {id : Nat} (h : DhOk d id) : Ev.ok { E with D := d } where
  L := k.L
  Ll := k.Ll
  vars := ⟨h.vars.1, Int.le_trans h.vars.2 (by decide)⟩
  arr := ⟨h.arrays.1, Nat.le_trans h.arrays.2 (by decide)⟩
  hs := by
    intro x hx
    rw [show ({ E with D := d } : Ev).hs = E.ds.map hdOf from k.hs] at hx
    obtain ⟨y, hy, rfl⟩ := List.mem_map.1 hx
    have := k.ds y hy
    exact ⟨this.params, this.given, by have := this.id; simp only [hdOf]; omega, by have := this.id; simp only [hdOf]; omega⟩
  hsl := by rw [show ({ E with D := d } : Ev).hs = E.ds.map hdOf from k.hs, List.length_map]; omega
/-- A definition: what it costs, and what it is. -/
theorem gDef_ok {E : Ev} (k : EvOk E) (h4 : E.ds.length ≤ 4) (id : Nat) (hid : id ≤ 100) (th : Bool) (s : Ms) (hs : s.t ≤ 6000) :
    (gDef E id th s).2.t ≤ s.t + 1200 ∧ (gDef E id th s).2.loop = s.loop ∧ DfOk (gDef E id th s).1 := by
  have c5 := gD5_ct E id th s
  have o5 := gD5_ok E id th s
  unfold gDef
  dsimp only
  obtain ⟨⟨d, s1⟩, hq⟩ : ∃ q, q = gD5 E id th s := ⟨_, rfl⟩
  rw [← hq] at c5 o5 ⊢
  dsimp only at c5 o5 ⊢
  clear hq
  have ok := Ev.of k h4 o5
  unfold gD6
  dsimp only
  have c6 := gN_ct (E := { E with D := d }) 5 { s1 with left := 9, done := 0 }
  obtain ⟨⟨n, s2⟩, hq⟩ : ∃ q, q = gN { E with D := d } 5 { s1 with left := 9, done := 0 } := ⟨_, rfl⟩
  rw [← hq] at c6 ⊢
  dsimp only at c6 ⊢
  clear hq
  have e1 := c5.t
  have e2 : s2.t ≤ s1.t + 1 := c6.t
  have e3 : s2.left = 9 := c6.left
  have e4 : s2.done = 0 := c6.done
  have e5 : s2.loop = s1.loop := c6.loop
  have b := gSts_bd ok 2 (1 + n) s2 ⟨by omega, by omega⟩
  obtain ⟨⟨l, s3⟩, hq⟩ : ∃ q, q = gSts { E with D := d } 2 (1 + n) s2 := ⟨_, rfl⟩
  rw [← hq] at b ⊢
  dsimp only at b ⊢
  clear hq
  have b1 := b.e
  have b2 := b.loop
  have u := gS_ct s3
  have u1 := u.t
  have u2 := u.loop
  have us : (gS s3).1 ≤ 2000000 := by
    show s3.site + 1 ≤ 2000000
    have : s3.site ≤ s3.t := Nat.le_add_left _ _
    omega
  refine ⟨by omega, by rw [u2, b2, e5, c5.loop], o5.params, o5.given, by dsimp only; rw [o5.id]; omega, by dsimp only; rw [o5.name]; rfl, ?_, ?_, ?_⟩
  · intro x hx
    have hx : x ∈ d.name := hx
    rw [o5.name] at hx
    simp at hx
    unfold leOk
    omega
  · have w1 := fmW_c (w := Rg.w) (c := 3) (l := d.params) (fun x _ => Nat.le_refl _)
    have w2 := fmW_c (w := Rg.w) (c := 3) (l := d.given) (fun x _ => Nat.le_refl _)
    have w3 := fmW_c (w := Ar.w) (c := 2) (l := d.arrays) (fun x _ => Nat.le_refl _)
    have := o5.params
    have := o5.given
    have := o5.arrays
    have hn : d.name.length = 1 := by rw [o5.name]; rfl
    simp only [Df.w, smW_eq, List.length_cons, List.length_append, hn]
    omega
  · have := o5.params
    have := o5.given
    have := o5.arrays
    have hn : d.name.length = 1 := by rw [o5.name]; rfl
    have hl := fmW_len (w := Sm.w) Sm.w_pos l
    have := o5.vars
    have := o5.firm
    have := o5.part
    have := o5.budget
    simp only [Df.w, smW_eq]
    refine .cons (by omega) (.cons (by rw [o5.id]; omega) (.cons (by omega) (.cons (by rw [hn]; omega) (.app ?_ (.cons (by omega) (.cons (by omega) (.cons (by omega) (.app (Sml.fm o5.paramsS) (.cons (by omega) (.app (Sml.fm o5.givenS) (.cons (by omega) (.cons (by rw [o5.refs]; omega) (.cons (by omega) (.app (Sml.fm o5.arraysS) (.cons (by omega) (.cons (by omega) b.sml))))))))))))))))
    intro x hx
    rw [o5.name] at hx
    simp at hx
    omega
theorem evAdd_ok {E : Ev} (k : EvOk E) {d : Df} (h : DfOk d) : EvOk (evAdd E d) where
  L := k.L
  Ll := k.Ll
  ds := by
    intro x hx
    rcases List.mem_append.1 hx with hx | hx
    · exact k.ds x hx
    · simp at hx; subst hx; exact h
  hs := by simp [evAdd, k.hs]
/-- The definitions. -/
theorem gDefs_ok (n : Nat) : ∀ (j : Nat) (E : Ev) (s : Ms), EvOk E → E.ds.length + j = n → n ≤ 4 → s.t + j * 1201 ≤ 6000 → EvOk (gDefs n j E s).1 ∧ (gDefs n j E s).1.ds.length = n ∧ (gDefs n j E s).1.L = E.L ∧ (gDefs n j E s).2.t ≤ s.t + j * 1201
  | 0, E, s, k, h, _, _ => ⟨k, h, rfl, by simp [gDefs]⟩
  | j + 1, E, s, k, h, h4, hs => by
    unfold gDefs
    split
    · dsimp only
      obtain ⟨a, -, c⟩ := gDef_ok k (by omega) (11 + (n - 1)) (by omega) true s (by omega)
      obtain ⟨x1, x2, x3, x4⟩ := gDefs_ok n j (evAdd E (gDef E (11 + (n - 1)) true s).1) (gDef E (11 + (n - 1)) true s).2 (evAdd_ok k c) (by simp [evAdd]; omega) h4 (by omega)
      exact ⟨x1, x2, x3, by omega⟩
    · dsimp only
      have z := (gN_ct (E := E) 5 s).t
      obtain ⟨a, -, c⟩ := gDef_ok k (by omega) (11 + (n - (j + 1))) (by omega) (decide ((gN E 5 s).1 = 0)) (gN E 5 s).2 (by omega)
      obtain ⟨x1, x2, x3, x4⟩ := gDefs_ok n j (evAdd E (gDef E (11 + (n - (j + 1))) (decide ((gN E 5 s).1 = 0)) (gN E 5 s).2).1) (gDef E (11 + (n - (j + 1))) (decide ((gN E 5 s).1 = 0)) (gN E 5 s).2).2 (evAdd_ok k c) (by simp [evAdd]; omega) h4 (by omega)
      exact ⟨x1, x2, x3, by omega⟩
theorem gThr_ok (ds : List Df) (h : ∀ d, d ∈ ds → DfOk d) : ∀ (i : Nat) (l : List Int), i ≤ ds.length → l.length ≤ 2 → Sml l → (gThr ds i l).length ≤ 2 ∧ Sml (gThr ds i l)
  | 0, l, _, h1, h2 => ⟨h1, h2⟩
  | i + 1, l, hi, h1, h2 => by
    have hd : ds.getD i zDf ∈ ds := by
      rw [List.getD_eq_getElem?_getD, List.getElem?_eq_getElem (by omega)]
      exact List.getElem_mem _
    have hk := (h _ hd).id
    unfold gThr
    split
    · split
      · refine gThr_ok ds h i _ (by omega) (by simp; omega) (h2.app (.cons (by omega) .nil))
      · exact gThr_ok ds h i _ (by omega) h1 h2
    · exact ⟨h1, h2⟩
end Go.Proofs.Ytmfccaidgaelcaa
