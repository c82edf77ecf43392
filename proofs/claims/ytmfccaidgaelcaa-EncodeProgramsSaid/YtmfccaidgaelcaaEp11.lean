/- Programs: their words, and what is read of words. No program text. -/
import Derived.Test.YtmfccaidgaelcaaEp10
set_option linter.unusedVariables false
set_option linter.unusedSimpArgs false
namespace Go.Proofs.Ytmfccaidgaelcaa
def Hd.w (h : Hd) : List Int := h.id :: h.firm :: h.part :: (h.params.length : Int) :: (fmW Rg.w h.params ++ ((h.given.length : Int) :: fmW Rg.w h.given))
def Qu.w (q : Qu) : List Int := q.cap :: q.r.w
/-- The words of a program from its definitions on. -/
def pgT (ds : List Df) (th : List Int) : List Int := (ds.length : Int) :: (fmW Df.w ds ++ ((th.length : Int) :: th))
def Pg.w (p : Pg) : List Int :=
  2 :: (p.dc.globals.length : Int) :: (fmW Rg.w p.dc.globals ++ ((p.dc.classes.length : Int) :: (fmW Rg.w p.dc.classes ++ ((p.dc.queues.length : Int) :: (fmW Qu.w p.dc.queues ++ ((p.dc.sinks.length : Int) :: (p.dc.sinks ++ (p.dc.locks :: p.dc.parts :: p.dc.firms :: (p.heads.length : Int) :: (fmW Hd.w p.heads ++ pgT p.defs p.threads)))))))))
def rdHd : Rdr Hd := fun l => match one l with
  | none => none
  | some (id, l) => match one l with
    | none => none
    | some (firm, l) => match one l with
      | none => none
      | some (part, l) => match lst rdRg l with
        | none => none
        | some (params, l) => match lst rdRg l with
          | none => none
          | some (given, l) => some (⟨id, firm, part, params, given⟩, l)
def rdQu : Rdr Qu := fun l => match one l with
  | none => none
  | some (cap, l) => match rdRg l with
    | none => none
    | some (r, l) => some (⟨cap, r⟩, l)
def rdPg (k : Nat) : Rdr Pg := fun l => match one l with
  | none => none
  | some (z, l) => if z = 2 then match lst rdRg l with
    | none => none
    | some (globals, l) => match lst rdRg l with
      | none => none
      | some (classes, l) => match lst rdQu l with
        | none => none
        | some (queues, l) => match lst one l with
          | none => none
          | some (sinks, l) => match one l with
            | none => none
            | some (locks, l) => match one l with
              | none => none
              | some (parts, l) => match one l with
                | none => none
                | some (firms, l) => match lst rdHd l with
                  | none => none
                  | some (heads, l) => match lst (rdDf k) l with
                    | none => none
                    | some (defs, l) => match lst one l with
                      | none => none
                      | some (threads, l) => some (⟨⟨globals, classes, queues, sinks, locks, parts, firms⟩, heads, defs, threads⟩, l)
    else none
theorem hd_inv (b : Nat) : Inv rdHd Hd.w (fun _ => True) b := fun h r _ hb => by
  obtain ⟨id, firm, part, params, given⟩ := h
  simp only [Hd.w, List.cons_append, List.append_assoc, List.length_cons, List.length_append] at hb
  have h2 := lst_inv (w := Rg.w) (fun _ => by simp [Rg.w]) (rg_inv b) given r (fun _ _ => trivial) (by simp only [List.length_append]; omega)
  have h1 := lst_inv (w := Rg.w) (fun _ => by simp [Rg.w]) (rg_inv b) params ((given.length : Int) :: (fmW Rg.w given ++ r)) (fun _ _ => trivial) (by simp only [List.length_append, List.length_cons]; omega)
  simp only [rdHd, Hd.w, one, List.cons_append, List.append_assoc]
  rw [h1]; simp only
  rw [h2]
theorem hd_can : Can rdHd Hd.w (fun _ => True) := fun l x r h => by
  simp only [rdHd] at h
  repeat' split at h
  all_goals first | (cases h; done) | skip
  rename_i h1 _ _ _ h2 _ _ _ h3 _ _ _ h4 _ _ _ h5
  simp only [Option.some.injEq, Prod.mk.injEq] at h
  obtain ⟨rfl, rfl⟩ := h
  obtain ⟨e1, -⟩ := one_can _ _ _ h1
  obtain ⟨e2, -⟩ := one_can _ _ _ h2
  obtain ⟨e3, -⟩ := one_can _ _ _ h3
  obtain ⟨e4, -⟩ := lst_can rg_can h4
  obtain ⟨e5, -⟩ := lst_can rg_can h5
  rw [e1, e2, e3, e4, e5]
  exact ⟨by simp [Hd.w], trivial⟩
theorem qu_inv (b : Nat) : Inv rdQu Qu.w (fun _ => True) b := fun q r _ _ => rfl
theorem qu_can : Can rdQu Qu.w (fun _ => True) := fun l x r h => by
  simp only [rdQu] at h
  repeat' split at h
  all_goals first | (cases h; done) | skip
  rename_i h1 _ _ _ h2
  simp only [Option.some.injEq, Prod.mk.injEq] at h
  obtain ⟨rfl, rfl⟩ := h
  obtain ⟨e1, -⟩ := one_can _ _ _ h1
  obtain ⟨e2, -⟩ := rg_can _ _ _ h2
  rw [e1, e2]
  exact ⟨by simp [Qu.w], trivial⟩
def Pg.ok (p : Pg) : Prop := ∀ d, d ∈ p.defs → d.ok
theorem Df.w_pos (d : Df) : 1 ≤ d.w.length := by simp [Df.w]
theorem Hd.w_pos (d : Hd) : 1 ≤ d.w.length := by simp [Hd.w]
theorem Qu.w_pos (d : Qu) : 1 ≤ d.w.length := by simp [Qu.w]
theorem Rg.wp (d : Rg) : 1 ≤ d.w.length := by simp [Rg.w]
theorem pg_inv (k : Nat) : Inv (rdPg k) Pg.w Pg.ok k := fun p r hp h => by
  obtain ⟨⟨globals, classes, queues, sinks, locks, parts, firms⟩, heads, defs, threads⟩ := p
  simp only [Pg.ok] at hp
  simp only [Pg.w, pgT, List.cons_append, List.append_assoc, List.length_cons, List.length_append] at h
  have h7 := lst_inv (w := fun x => [x]) (fun _ => Nat.le_refl _) (one_inv k) threads r (fun _ _ => trivial) (by rw [fm_one]; simp only [List.length_append]; omega)
  have h6 := lst_inv (w := Df.w) Df.w_pos (df_inv k) defs ((threads.length : Int) :: (threads ++ r)) hp (by simp only [List.length_append, List.length_cons]; omega)
  have h5 := lst_inv (w := Hd.w) Hd.w_pos (hd_inv k) heads ((defs.length : Int) :: (fmW Df.w defs ++ ((threads.length : Int) :: (threads ++ r)))) (fun _ _ => trivial) (by simp only [List.length_append, List.length_cons]; omega)
  have h4 := lst_inv (w := fun x => [x]) (fun _ => Nat.le_refl _) (one_inv k) sinks (locks :: parts :: firms :: (heads.length : Int) :: (fmW Hd.w heads ++ ((defs.length : Int) :: (fmW Df.w defs ++ ((threads.length : Int) :: (threads ++ r)))))) (fun _ _ => trivial) (by rw [fm_one]; simp only [List.length_append, List.length_cons]; omega)
  have h3 := lst_inv (w := Qu.w) Qu.w_pos (qu_inv k) queues ((sinks.length : Int) :: (sinks ++ (locks :: parts :: firms :: (heads.length : Int) :: (fmW Hd.w heads ++ ((defs.length : Int) :: (fmW Df.w defs ++ ((threads.length : Int) :: (threads ++ r)))))))) (fun _ _ => trivial) (by simp only [List.length_append, List.length_cons]; omega)
  have h2 := lst_inv (w := Rg.w) Rg.wp (rg_inv k) classes ((queues.length : Int) :: (fmW Qu.w queues ++ ((sinks.length : Int) :: (sinks ++ (locks :: parts :: firms :: (heads.length : Int) :: (fmW Hd.w heads ++ ((defs.length : Int) :: (fmW Df.w defs ++ ((threads.length : Int) :: (threads ++ r)))))))))) (fun _ _ => trivial) (by simp only [List.length_append, List.length_cons]; omega)
  have h1 := lst_inv (w := Rg.w) Rg.wp (rg_inv k) globals ((classes.length : Int) :: (fmW Rg.w classes ++ ((queues.length : Int) :: (fmW Qu.w queues ++ ((sinks.length : Int) :: (sinks ++ (locks :: parts :: firms :: (heads.length : Int) :: (fmW Hd.w heads ++ ((defs.length : Int) :: (fmW Df.w defs ++ ((threads.length : Int) :: (threads ++ r)))))))))))) (fun _ _ => trivial) (by simp only [List.length_append, List.length_cons]; omega)
  rw [fm_one] at h7 h4
  simp only [rdPg, Pg.w, pgT, one, List.cons_append, List.append_assoc, if_true]
  rw [h1]; simp only
  rw [h2]; simp only
  rw [h3]; simp only
  rw [h4]; simp only
  rw [h5]; simp only
  rw [h6]; simp only
  rw [h7]
theorem pg_can (k : Nat) : Can (rdPg k) Pg.w Pg.ok := fun l x r h => by
  simp only [rdPg] at h
  repeat' split at h
  all_goals first | (cases h; done) | skip
  rename_i h1 h0 _ _ _ h2 _ _ _ h3 _ _ _ h4 _ _ _ h5 _ _ _ h6 _ _ _ h7 _ _ _ h8 _ _ _ h9 _ _ _ h10 _ _ _ h11
  simp only [Option.some.injEq, Prod.mk.injEq] at h
  obtain ⟨rfl, rfl⟩ := h
  obtain ⟨e1, -⟩ := one_can _ _ _ h1
  obtain ⟨e2, -⟩ := lst_can rg_can h2
  obtain ⟨e3, -⟩ := lst_can rg_can h3
  obtain ⟨e4, -⟩ := lst_can qu_can h4
  obtain ⟨e5, -⟩ := lst_can one_can h5
  obtain ⟨e6, -⟩ := one_can _ _ _ h6
  obtain ⟨e7, -⟩ := one_can _ _ _ h7
  obtain ⟨e8, -⟩ := one_can _ _ _ h8
  obtain ⟨e9, -⟩ := lst_can hd_can h9
  obtain ⟨e10, o10⟩ := lst_can (df_can k) h10
  obtain ⟨e11, -⟩ := lst_can one_can h11
  rw [fm_one] at e5 e11
  rw [e1, e2, e3, e4, e5, e6, e7, e8, e9, e10, e11, h0]
  exact ⟨by simp [Pg.w, pgT], o10⟩
/-- What a program is that is made. -/
structure PgOk (p : Pg) : Prop where
  len : p.w.length ≤ 40000
  sml : Sml p.w
  ok : p.ok
  dc : p.dc = dcM
  ds : ∀ d, d ∈ p.defs → DfOk d
  hs : p.heads = p.defs.map hdOf
  n : 1 ≤ p.defs.length ∧ p.defs.length ≤ 4
  th : p.threads.length ≤ 2
theorem Sml.sub {a b c : List Int} (h : Sml (a ++ (b ++ c))) : Sml b := fun x hx => h x (by simp [hx])
theorem hd_small {d : Df} (h : DfOk d) : (hdOf d).w.length ≤ 14 ∧ Sml (hdOf d).w := by
  have := h.params
  have := h.given
  have w1 := fmW_c (w := Rg.w) (c := 3) (l := d.params) (fun x _ => Nat.le_refl _)
  have w2 := fmW_c (w := Rg.w) (c := 3) (l := d.given) (fun x _ => Nat.le_refl _)
  refine ⟨by simp only [Hd.w, hdOf, List.length_cons, List.length_append]; omega, fun x hx => h.sml x ?_⟩
  simp only [Hd.w, hdOf, Df.w, List.mem_cons, List.mem_append] at hx ⊢
  rcases hx with hx | hx | hx | hx | hx | hx | hx <;> simp [hx]
theorem gMade_ok (L : List Int) (hL : ∀ x, x ∈ L → 0 ≤ x ∧ x ≤ 255) (hl : L.length ≤ 9223372036854775807) : PgOk (gMade L) := by
  unfold gMade
  dsimp only
  have n1 := gN_lt (E := ⟨L, [], [], zDf⟩) (n := 4) ⟨0, 100, 0, 0, 0⟩ (by decide)
  have t1 := (gN_ct (E := ⟨L, [], [], zDf⟩) 4 ⟨0, 100, 0, 0, 0⟩).t
  obtain ⟨⟨n, s⟩, hq⟩ : ∃ q, q = gN ⟨L, [], [], zDf⟩ 4 ⟨0, 100, 0, 0, 0⟩ := ⟨_, rfl⟩
  rw [← hq] at n1 t1 ⊢
  dsimp only at n1 t1 ⊢
  clear hq
  have t1 : s.t ≤ 101 := t1
  obtain ⟨k, l4, -, -⟩ := gDefs_ok (1 + n) (1 + n) ⟨L, [], [], zDf⟩ s ⟨hL, hl, by simp, rfl⟩ (by simp) (by omega) (by omega)
  obtain ⟨⟨E, s2⟩, hq⟩ : ∃ q, q = gDefs (1 + n) (1 + n) ⟨L, [], [], zDf⟩ s := ⟨_, rfl⟩
  rw [← hq] at k l4 ⊢
  dsimp only at k l4 ⊢
  clear hq
  obtain ⟨h1, h2⟩ := gThr_ok E.ds k.ds (1 + n) [] (by omega) (by simp) Sml.nil
  obtain ⟨T, hT⟩ : ∃ T, T = gThr E.ds (1 + n) [] := ⟨_, rfl⟩
  rw [← hT] at h1 h2 ⊢
  clear hT
  obtain ⟨U, hU⟩ : ∃ U, U = (if (gN E 3 s2).1 = 0 then T.take 1 else T) := ⟨_, rfl⟩
  have u : U.length ≤ 2 ∧ Sml U := by
    rw [hU]
    split
    · exact ⟨by simp; omega, fun x hx => h2 x (List.mem_of_mem_take hx)⟩
    · exact ⟨h1, h2⟩
  rw [← hU]
  clear hU
  have hh : ∀ h, h ∈ E.hs → h.w.length ≤ 14 ∧ Sml h.w := by
    intro h hm
    rw [k.hs] at hm
    obtain ⟨d, hd, rfl⟩ := List.mem_map.1 hm
    exact hd_small (k.ds d hd)
  have hw := fmW_c (w := Hd.w) (c := 14) (l := E.hs) (fun x hx => (hh x hx).1)
  have dw := fmW_c (w := Df.w) (c := 7400) (l := E.ds) (fun x hx => (k.ds x hx).len)
  have hl' : E.hs.length = E.ds.length := by rw [k.hs, List.length_map]
  refine ⟨?_, ?_, fun d hd => (k.ds d hd).ok, rfl, k.ds, k.hs, ⟨by show 1 ≤ E.ds.length; omega, by show E.ds.length ≤ 4; omega⟩, u.1⟩
  · simp only [Pg.w, pgT, dcM, fmW, Rg.w, Qu.w, List.length_cons, List.length_append, List.length_nil]
    rw [hl'] at hw
    omega
  · have e : Sml (fmW Hd.w E.hs) := Sml.fm (fun x hx => (hh x hx).2)
    have f : Sml (fmW Df.w E.ds) := Sml.fm (fun x hx => (k.ds x hx).sml)
    simp only [Pg.w, pgT, dcM, fmW, Rg.w, Qu.w, List.length_cons, List.length_nil, List.cons_append, List.nil_append, List.append_nil]
    repeat refine .cons (by omega) ?_
    refine e.app (.cons (by omega) (f.app (.cons (by omega) u.2)))
end Go.Proofs.Ytmfccaidgaelcaa
