/- Definitions as trees, their words, and what is read of words. No program. -/
import Init.Data.List
set_option linter.unusedVariables false
set_option linter.unusedSimpArgs false
namespace Go.Proofs.Ytmfccaidgaelcaa
inductive Ex where
  | mk (op n v : Int) (a : List Ex)
inductive Co where
  | mk (op : Int) (a : List Ex) (c : List Co)
inductive Sm where
  | mk (site op n m v : Int) (x y : Ex) (c : Co) (args : List Ex) (ptrs : List Int) (body els : List Sm)
structure Rg where
  lo : Int
  hi : Int
  mask : Int
structure Ar where
  len : Int
  of : Int
structure Df where
  id : Int
  site : Int
  name : List Int
  firm : Int
  part : Int
  params : List Rg
  given : List Rg
  vars : Int
  refs : Int
  arrays : List Ar
  budget : Int
  body : List Sm
mutual
def Ex.w : Ex → List Int
  | .mk op n v a => op :: n :: v :: (a.length : Int) :: exW a
def exW : List Ex → List Int
  | [] => []
  | x :: l => x.w ++ exW l
end
mutual
def Co.w : Co → List Int
  | .mk op a c => op :: (a.length : Int) :: (exW a ++ (c.length : Int) :: coW c)
def coW : List Co → List Int
  | [] => []
  | x :: l => x.w ++ coW l
end
mutual
def Sm.w : Sm → List Int
  | .mk site op n m v x y c args ptrs body els => site :: op :: n :: m :: v :: (x.w ++ (y.w ++ (c.w ++ ((args.length : Int) :: (exW args ++ ((ptrs.length : Int) :: (ptrs ++ ((body.length : Int) :: (smW body ++ ((els.length : Int) :: smW els))))))))))
def smW : List Sm → List Int
  | [] => []
  | x :: l => x.w ++ smW l
end
def Rg.w (r : Rg) : List Int := [r.lo, r.hi, r.mask]
def Ar.w (r : Ar) : List Int := [r.len, r.of]
def fmW {α : Type} (f : α → List Int) : List α → List Int
  | [] => []
  | x :: l => f x ++ fmW f l
def Df.w (d : Df) : List Int :=
  1 :: d.id :: d.site :: (d.name.length : Int) :: (d.name ++ (d.firm :: d.part :: (d.params.length : Int) :: (fmW Rg.w d.params ++ ((d.given.length : Int) :: (fmW Rg.w d.given ++ (d.vars :: d.refs :: (d.arrays.length : Int) :: (fmW Ar.w d.arrays ++ (d.budget :: (d.body.length : Int) :: smW d.body))))))))
/-! ### Reading -/
abbrev Rdr (α : Type) := List Int → Option (α × List Int)
def many {α : Type} (f : Rdr α) : Nat → Rdr (List α)
  | 0, l => some ([], l)
  | n + 1, l => match f l with
    | none => none
    | some (x, l1) => match many f n l1 with
      | none => none
      | some (xs, l2) => some (x :: xs, l2)
def lst {α : Type} (f : Rdr α) : Rdr (List α)
  | [] => none
  | n :: l => if 0 ≤ n ∧ n ≤ (l.length : Int) then many f n.toNat l else none
def one : Rdr Int
  | [] => none
  | x :: l => some (x, l)
def rdEx : Nat → Rdr Ex
  | 0, _ => none
  | k + 1, l => match one l with
    | none => none
    | some (op, l) => match one l with
      | none => none
      | some (n, l) => match one l with
        | none => none
        | some (v, l) => match lst (rdEx k) l with
          | none => none
          | some (a, l) => some (.mk op n v a, l)
def rdCo : Nat → Rdr Co
  | 0, _ => none
  | k + 1, l => match one l with
    | none => none
    | some (op, l) => match lst (rdEx k) l with
      | none => none
      | some (a, l) => match lst (rdCo k) l with
        | none => none
        | some (c, l) => some (.mk op a c, l)
def rdSm : Nat → Rdr Sm
  | 0, _ => none
  | k + 1, l => match one l with
    | none => none
    | some (site, l) => match one l with
      | none => none
      | some (op, l) => match one l with
        | none => none
        | some (n, l) => match one l with
          | none => none
          | some (m, l) => match one l with
            | none => none
            | some (v, l) => match rdEx k l with
              | none => none
              | some (x, l) => match rdEx k l with
                | none => none
                | some (y, l) => match rdCo k l with
                  | none => none
                  | some (c, l) => match lst (rdEx k) l with
                    | none => none
                    | some (args, l) => match lst one l with
                      | none => none
                      | some (ptrs, l) => match lst (rdSm k) l with
                        | none => none
                        | some (body, l) => match lst (rdSm k) l with
                          | none => none
                          | some (els, l) => some (.mk site op n m v x y c args ptrs body els, l)
def rdRg : Rdr Rg := fun l => match one l with
  | none => none
  | some (a, l) => match one l with
    | none => none
    | some (b, l) => match one l with
      | none => none
      | some (c, l) => some (⟨a, b, c⟩, l)
def rdAr : Rdr Ar := fun l => match one l with
  | none => none
  | some (a, l) => match one l with
    | none => none
    | some (b, l) => some (⟨a, b⟩, l)
def rdLe : Rdr Int := fun l => match one l with
  | none => none
  | some (a, l) => if 0 ≤ a ∧ a ≤ 255 then some (a, l) else none
def rdDf (k : Nat) : Rdr Df := fun l => match one l with
  | none => none
  | some (kd, l) => if kd = 1 then (match one l with
    | none => none
    | some (id, l) => match one l with
      | none => none
      | some (site, l) => match lst rdLe l with
        | none => none
        | some (name, l) => match one l with
          | none => none
          | some (firm, l) => match one l with
            | none => none
            | some (part, l) => match lst rdRg l with
              | none => none
              | some (params, l) => match lst rdRg l with
                | none => none
                | some (given, l) => match one l with
                  | none => none
                  | some (vars, l) => match one l with
                    | none => none
                    | some (refs, l) => match lst rdAr l with
                      | none => none
                      | some (arrays, l) => match one l with
                        | none => none
                        | some (budget, l) => match lst (rdSm k) l with
                          | none => none
                          | some (body, l) => some (⟨id, site, name, firm, part, params, given, vars, refs, arrays, budget, body⟩, l)) else none
/-! ### Reading undoes writing, and what is read has these words -/
/-- f reads what w writes, with at most b words in all. -/
def Inv {α : Type} (f : Rdr α) (w : α → List Int) (ok : α → Prop) (b : Nat) : Prop := ∀ x r, ok x → (w x ++ r).length < b → f (w x ++ r) = some (x, r)
def Can {α : Type} (f : Rdr α) (w : α → List Int) (ok : α → Prop) : Prop := ∀ l x r, f l = some (x, r) → l = w x ++ r ∧ ok x
theorem one_inv (b : Nat) : Inv one (fun x => [x]) (fun _ => True) b := fun x r _ _ => rfl
theorem one_can : Can one (fun x => [x]) (fun _ => True) := fun l x r h => by
  cases l with
  | nil => cases h
  | cons y l => simp only [one, Option.some.injEq, Prod.mk.injEq] at h; obtain ⟨rfl, rfl⟩ := h; exact ⟨rfl, trivial⟩
theorem many_inv {α : Type} {f : Rdr α} {w : α → List Int} {ok : α → Prop} {b : Nat} (h : Inv f w ok b) : ∀ (xs : List α) (r : List Int), (∀ x, x ∈ xs → ok x) → (fmW w xs ++ r).length < b → many f xs.length (fmW w xs ++ r) = some (xs, r)
  | [], r, _, _ => rfl
  | x :: xs, r, h1, h2 => by
    simp only [fmW, List.length_cons, many, List.append_assoc]
    rw [h x (fmW w xs ++ r) (h1 x (by simp)) (by simpa [fmW, List.append_assoc] using h2)]
    simp only
    rw [many_inv h xs r (fun y hy => h1 y (by simp [hy])) (by simp only [fmW, List.append_assoc, List.length_append] at h2 ⊢; omega)]
theorem fmW_len {α : Type} {w : α → List Int} (hw : ∀ x, 1 ≤ (w x).length) : ∀ (xs : List α), xs.length ≤ (fmW w xs).length
  | [] => Nat.le_refl _
  | x :: xs => by have := fmW_len hw xs; have := hw x; simp only [fmW, List.length_append, List.length_cons]; omega
theorem lst_inv {α : Type} {f : Rdr α} {w : α → List Int} {ok : α → Prop} {b : Nat} (hw : ∀ x, 1 ≤ (w x).length) (h : Inv f w ok b) (xs : List α) (r : List Int) (h1 : ∀ x, x ∈ xs → ok x) (h2 : (fmW w xs ++ r).length < b) : lst f ((xs.length : Int) :: (fmW w xs ++ r)) = some (xs, r) := by
  have := fmW_len hw xs
  rw [lst, if_pos ⟨by omega, by rw [List.length_append]; omega⟩, Int.toNat_natCast]
  exact many_inv h xs r h1 h2
theorem many_can {α : Type} {f : Rdr α} {w : α → List Int} {ok : α → Prop} (h : Can f w ok) : ∀ (n : Nat) (l : List Int) (xs : List α) (r : List Int), many f n l = some (xs, r) → xs.length = n ∧ l = fmW w xs ++ r ∧ ∀ x, x ∈ xs → ok x
  | 0, l, xs, r, e => by
    simp only [many, Option.some.injEq, Prod.mk.injEq] at e
    obtain ⟨rfl, rfl⟩ := e
    exact ⟨rfl, rfl, fun x hx => by cases hx⟩
  | n + 1, l, xs, r, e => by
    simp only [many] at e
    split at e
    · cases e
    · rename_i x l1 h1
      split at e
      · cases e
      · rename_i ys l2 h2
        simp only [Option.some.injEq, Prod.mk.injEq] at e
        obtain ⟨rfl, rfl⟩ := e
        obtain ⟨e1, o1⟩ := h _ _ _ h1
        obtain ⟨e2, e3, o2⟩ := many_can h n _ _ _ h2
        refine ⟨by simp [e2], ?_, fun y hy => ?_⟩
        · rw [e1, e3]; simp [fmW]
        · rcases List.mem_cons.1 hy with rfl | hy
          · exact o1
          · exact o2 y hy
theorem lst_can {α : Type} {f : Rdr α} {w : α → List Int} {ok : α → Prop} (h : Can f w ok) {l : List Int} {xs : List α} {r : List Int} (e : lst f l = some (xs, r)) : l = (xs.length : Int) :: (fmW w xs ++ r) ∧ ∀ x, x ∈ xs → ok x := by
  cases l with
  | nil => cases e
  | cons n l =>
    simp only [lst] at e
    split at e
    · rename_i hn
      obtain ⟨e1, e2, o⟩ := many_can h _ _ _ _ e
      refine ⟨?_, o⟩
      rw [e2, e1, Int.toNat_of_nonneg hn.1]
    · cases e
theorem exW_eq : ∀ l, exW l = fmW Ex.w l
  | [] => by simp [exW, fmW]
  | x :: l => by rw [exW, fmW, exW_eq l]
theorem coW_eq : ∀ l, coW l = fmW Co.w l
  | [] => by simp [coW, fmW]
  | x :: l => by rw [coW, fmW, coW_eq l]
theorem smW_eq : ∀ l, smW l = fmW Sm.w l
  | [] => by simp [smW, fmW]
  | x :: l => by rw [smW, fmW, smW_eq l]
theorem Ex.w_pos : ∀ x : Ex, 1 ≤ x.w.length
  | .mk _ _ _ _ => by simp [Ex.w]
theorem Co.w_pos : ∀ x : Co, 1 ≤ x.w.length
  | .mk _ _ _ => by simp [Co.w]
theorem Sm.w_pos : ∀ x : Sm, 1 ≤ x.w.length
  | .mk _ _ _ _ _ _ _ _ _ _ _ _ => by simp [Sm.w]
theorem ex_inv : ∀ k, Inv (rdEx k) Ex.w (fun _ => True) k
  | 0 => fun x r _ h => by omega
  | k + 1 => fun x r _ h => by
    obtain ⟨op, n, v, a⟩ := x
    simp only [Ex.w, exW_eq, List.cons_append, List.length_cons, List.length_append] at h
    have := lst_inv Ex.w_pos (ex_inv k) a r (fun _ _ => trivial) (by rw [List.length_append]; omega)
    simp only [rdEx, Ex.w, one, exW_eq, List.cons_append]
    rw [this]
theorem ex_can : ∀ k, Can (rdEx k) Ex.w (fun _ => True)
  | 0 => fun l x r h => by cases h
  | k + 1 => fun l x r h => by
    simp only [rdEx] at h
    repeat' split at h
    all_goals first | (cases h; done) | skip
    rename_i h1 _ _ _ h2 _ _ _ h3 _ _ _ h4
    simp only [Option.some.injEq, Prod.mk.injEq] at h
    obtain ⟨rfl, rfl⟩ := h
    obtain ⟨e1, -⟩ := one_can _ _ _ h1
    obtain ⟨e2, -⟩ := one_can _ _ _ h2
    obtain ⟨e3, -⟩ := one_can _ _ _ h3
    obtain ⟨e4, -⟩ := lst_can (ex_can k) h4
    rw [e1, e2, e3, e4]
    exact ⟨by simp [Ex.w, exW_eq], trivial⟩
theorem co_inv : ∀ k, Inv (rdCo k) Co.w (fun _ => True) k
  | 0 => fun x r _ h => by omega
  | k + 1 => fun x r _ h => by
    obtain ⟨op, a, c⟩ := x
    simp only [Co.w, exW_eq, coW_eq, List.cons_append, List.append_assoc, List.length_cons, List.length_append] at h
    have h1 := lst_inv Ex.w_pos (ex_inv k) a ((c.length : Int) :: (fmW Co.w c ++ r)) (fun _ _ => trivial) (by simp only [List.length_append, List.length_cons]; omega)
    have h2 := lst_inv Co.w_pos (co_inv k) c r (fun _ _ => trivial) (by simp only [List.length_append]; omega)
    simp only [rdCo, Co.w, one, exW_eq, coW_eq, List.cons_append, List.append_assoc]
    rw [h1]; simp only
    rw [h2]
theorem co_can : ∀ k, Can (rdCo k) Co.w (fun _ => True)
  | 0 => fun l x r h => by cases h
  | k + 1 => fun l x r h => by
    simp only [rdCo] at h
    repeat' split at h
    all_goals first | (cases h; done) | skip
    rename_i h1 _ _ _ h2 _ _ _ h3
    simp only [Option.some.injEq, Prod.mk.injEq] at h
    obtain ⟨rfl, rfl⟩ := h
    obtain ⟨e1, -⟩ := one_can _ _ _ h1
    obtain ⟨e2, -⟩ := lst_can (ex_can k) h2
    obtain ⟨e3, -⟩ := lst_can (co_can k) h3
    rw [e1, e2, e3]
    exact ⟨by simp [Co.w, exW_eq, coW_eq], trivial⟩
theorem fm_one : ∀ l : List Int, fmW (fun x => [x]) l = l
  | [] => rfl
  | x :: l => by rw [fmW, fm_one l]; rfl
theorem sm_inv : ∀ k, Inv (rdSm k) Sm.w (fun _ => True) k
  | 0 => fun x r _ h => by omega
  | k + 1 => fun x r _ h => by
    obtain ⟨site, op, n, m, v, x, y, c, args, ptrs, body, els⟩ := x
    simp only [Sm.w, exW_eq, smW_eq, List.cons_append, List.append_assoc, List.length_cons, List.length_append] at h
    have h7 := lst_inv Sm.w_pos (sm_inv k) els r (fun _ _ => trivial) (by simp only [List.length_append, List.length_cons]; omega)
    have h6 := lst_inv Sm.w_pos (sm_inv k) body ((els.length : Int) :: (fmW Sm.w els ++ r)) (fun _ _ => trivial) (by simp only [List.length_append, List.length_cons]; omega)
    have h5 := lst_inv (w := fun x => [x]) (fun _ => Nat.le_refl _) (one_inv k) ptrs ((body.length : Int) :: (fmW Sm.w body ++ ((els.length : Int) :: (fmW Sm.w els ++ r)))) (fun _ _ => trivial) (by rw [fm_one]; simp only [List.length_append, List.length_cons]; omega)
    rw [fm_one] at h5
    have h4 := lst_inv Ex.w_pos (ex_inv k) args ((ptrs.length : Int) :: (ptrs ++ ((body.length : Int) :: (fmW Sm.w body ++ ((els.length : Int) :: (fmW Sm.w els ++ r)))))) (fun _ _ => trivial) (by simp only [List.length_append, List.length_cons]; omega)
    have h3 := co_inv k c ((args.length : Int) :: (fmW Ex.w args ++ ((ptrs.length : Int) :: (ptrs ++ ((body.length : Int) :: (fmW Sm.w body ++ ((els.length : Int) :: (fmW Sm.w els ++ r)))))))) trivial (by simp only [List.length_append, List.length_cons]; omega)
    have h2 := ex_inv k y (c.w ++ ((args.length : Int) :: (fmW Ex.w args ++ ((ptrs.length : Int) :: (ptrs ++ ((body.length : Int) :: (fmW Sm.w body ++ ((els.length : Int) :: (fmW Sm.w els ++ r))))))))) trivial (by simp only [List.length_append, List.length_cons]; omega)
    have h1 := ex_inv k x (y.w ++ (c.w ++ ((args.length : Int) :: (fmW Ex.w args ++ ((ptrs.length : Int) :: (ptrs ++ ((body.length : Int) :: (fmW Sm.w body ++ ((els.length : Int) :: (fmW Sm.w els ++ r)))))))))) trivial (by simp only [List.length_append, List.length_cons]; omega)
    simp only [rdSm, Sm.w, one, exW_eq, smW_eq, List.cons_append, List.append_assoc]
    rw [h1]; simp only
    rw [h2]; simp only
    rw [h3]; simp only
    rw [h4]; simp only
    rw [h5]; simp only
    rw [h6]; simp only
    rw [h7]
theorem sm_can : ∀ k, Can (rdSm k) Sm.w (fun _ => True)
  | 0 => fun l x r h => by cases h
  | k + 1 => fun l x r h => by
    simp only [rdSm] at h
    repeat' split at h
    all_goals first | (cases h; done) | skip
    rename_i h1 _ _ _ h2 _ _ _ h3 _ _ _ h4 _ _ _ h5 _ _ _ h6 _ _ _ h7 _ _ _ h8 _ _ _ h9 _ _ _ h10 _ _ _ h11 _ _ _ h12
    simp only [Option.some.injEq, Prod.mk.injEq] at h
    obtain ⟨rfl, rfl⟩ := h
    obtain ⟨e1, -⟩ := one_can _ _ _ h1
    obtain ⟨e2, -⟩ := one_can _ _ _ h2
    obtain ⟨e3, -⟩ := one_can _ _ _ h3
    obtain ⟨e4, -⟩ := one_can _ _ _ h4
    obtain ⟨e5, -⟩ := one_can _ _ _ h5
    obtain ⟨e6, -⟩ := ex_can k _ _ _ h6
    obtain ⟨e7, -⟩ := ex_can k _ _ _ h7
    obtain ⟨e8, -⟩ := co_can k _ _ _ h8
    obtain ⟨e9, -⟩ := lst_can (ex_can k) h9
    obtain ⟨e10, -⟩ := lst_can one_can h10
    obtain ⟨e11, -⟩ := lst_can (sm_can k) h11
    obtain ⟨e12, -⟩ := lst_can (sm_can k) h12
    rw [fm_one] at e10
    rw [e1, e2, e3, e4, e5, e6, e7, e8, e9, e10, e11, e12]
    exact ⟨by simp [Sm.w, exW_eq, smW_eq], trivial⟩
theorem rg_inv (b : Nat) : Inv rdRg Rg.w (fun _ => True) b := fun x r _ _ => rfl
theorem rg_can : Can rdRg Rg.w (fun _ => True) := fun l x r h => by
  simp only [rdRg] at h
  repeat' split at h
  all_goals first | (cases h; done) | skip
  rename_i h1 _ _ _ h2 _ _ _ h3
  simp only [Option.some.injEq, Prod.mk.injEq] at h
  obtain ⟨rfl, rfl⟩ := h
  obtain ⟨e1, -⟩ := one_can _ _ _ h1
  obtain ⟨e2, -⟩ := one_can _ _ _ h2
  obtain ⟨e3, -⟩ := one_can _ _ _ h3
  rw [e1, e2, e3]
  exact ⟨rfl, trivial⟩
theorem ar_inv (b : Nat) : Inv rdAr Ar.w (fun _ => True) b := fun x r _ _ => rfl
theorem ar_can : Can rdAr Ar.w (fun _ => True) := fun l x r h => by
  simp only [rdAr] at h
  repeat' split at h
  all_goals first | (cases h; done) | skip
  rename_i h1 _ _ _ h2
  simp only [Option.some.injEq, Prod.mk.injEq] at h
  obtain ⟨rfl, rfl⟩ := h
  obtain ⟨e1, -⟩ := one_can _ _ _ h1
  obtain ⟨e2, -⟩ := one_can _ _ _ h2
  rw [e1, e2]
  exact ⟨rfl, trivial⟩
def leOk (x : Int) : Prop := 0 ≤ x ∧ x ≤ 255
theorem le_inv (b : Nat) : Inv rdLe (fun x => [x]) leOk b := fun x r h _ => by simp only [rdLe, List.cons_append, List.nil_append, one]; rw [if_pos (show 0 ≤ x ∧ x ≤ 255 from h)]
theorem le_can : Can rdLe (fun x => [x]) leOk := fun l x r h => by
  simp only [rdLe] at h
  repeat' split at h
  all_goals first | (cases h; done) | skip
  rename_i h1 h2
  simp only [Option.some.injEq, Prod.mk.injEq] at h
  obtain ⟨rfl, rfl⟩ := h
  obtain ⟨e1, -⟩ := one_can _ _ _ h1
  rw [e1]
  exact ⟨rfl, h2⟩
def Df.ok (d : Df) : Prop := ∀ x, x ∈ d.name → leOk x
theorem df_inv (k : Nat) : Inv (rdDf k) Df.w Df.ok k := fun d r hd h => by
  obtain ⟨id, site, name, firm, part, params, given, vars, refs, arrays, budget, body⟩ := d
  simp only [Df.ok] at hd
  simp only [Df.w, smW_eq, List.cons_append, List.append_assoc, List.length_cons, List.length_append] at h
  have h5 := lst_inv Sm.w_pos (sm_inv k) body r (fun _ _ => trivial) (by simp only [List.length_append, List.length_cons]; omega)
  have h4 := lst_inv (w := Ar.w) (fun _ => by simp [Ar.w]) (ar_inv k) arrays (budget :: (body.length : Int) :: (fmW Sm.w body ++ r)) (fun _ _ => trivial) (by simp only [List.length_append, List.length_cons]; omega)
  have h3 := lst_inv (w := Rg.w) (fun _ => by simp [Rg.w]) (rg_inv k) given (vars :: refs :: (arrays.length : Int) :: (fmW Ar.w arrays ++ (budget :: (body.length : Int) :: (fmW Sm.w body ++ r)))) (fun _ _ => trivial) (by simp only [List.length_append, List.length_cons]; omega)
  have h2 := lst_inv (w := Rg.w) (fun _ => by simp [Rg.w]) (rg_inv k) params ((given.length : Int) :: (fmW Rg.w given ++ (vars :: refs :: (arrays.length : Int) :: (fmW Ar.w arrays ++ (budget :: (body.length : Int) :: (fmW Sm.w body ++ r)))))) (fun _ _ => trivial) (by simp only [List.length_append, List.length_cons]; omega)
  have h1 := lst_inv (w := fun x => [x]) (fun _ => Nat.le_refl _) (le_inv k) name (firm :: part :: (params.length : Int) :: (fmW Rg.w params ++ ((given.length : Int) :: (fmW Rg.w given ++ (vars :: refs :: (arrays.length : Int) :: (fmW Ar.w arrays ++ (budget :: (body.length : Int) :: (fmW Sm.w body ++ r)))))))) hd (by rw [fm_one]; simp only [List.length_append, List.length_cons]; omega)
  rw [fm_one] at h1
  simp only [rdDf, Df.w, one, smW_eq, List.cons_append, List.append_assoc, if_true]
  rw [h1]; simp only
  rw [h2]; simp only
  rw [h3]; simp only
  rw [h4]; simp only
  rw [h5]
theorem df_can (k : Nat) : Can (rdDf k) Df.w Df.ok := fun l x r h => by
  simp only [rdDf] at h
  repeat' split at h
  all_goals first | (cases h; done) | skip
  rename_i h1 h0 _ _ _ h2 _ _ _ h3 _ _ _ h4 _ _ _ h5 _ _ _ h6 _ _ _ h7 _ _ _ h8 _ _ _ h9 _ _ _ h10 _ _ _ h11 _ _ _ h12 _ _ _ h13
  simp only [Option.some.injEq, Prod.mk.injEq] at h
  obtain ⟨rfl, rfl⟩ := h
  obtain ⟨e1, -⟩ := one_can _ _ _ h1
  obtain ⟨e2, -⟩ := one_can _ _ _ h2
  obtain ⟨e3, -⟩ := one_can _ _ _ h3
  obtain ⟨e4, o4⟩ := lst_can le_can h4
  obtain ⟨e5, -⟩ := one_can _ _ _ h5
  obtain ⟨e6, -⟩ := one_can _ _ _ h6
  obtain ⟨e7, -⟩ := lst_can rg_can h7
  obtain ⟨e8, -⟩ := lst_can rg_can h8
  obtain ⟨e9, -⟩ := one_can _ _ _ h9
  obtain ⟨e10, -⟩ := one_can _ _ _ h10
  obtain ⟨e11, -⟩ := lst_can ar_can h11
  obtain ⟨e12, -⟩ := one_can _ _ _ h12
  obtain ⟨e13, -⟩ := lst_can (sm_can k) h13
  rw [fm_one] at e4
  rw [e1, e2, e3, e4, e5, e6, e7, e8, e9, e10, e11, e12, e13, h0]
  exact ⟨by simp [Df.w, smW_eq], o4⟩
end Go.Proofs.Ytmfccaidgaelcaa
