/- Definitions as trees, their words, and what is read of words. No program. -/
import Init.Data.List
set_option linter.unusedVariables false
set_option linter.unusedSimpArgs false
namespace Go.Proofs.YtifeioddiddnoaaGreatDoor
inductive Ex where
  | mk (op n v : Int) (a : List Ex)
inductive Co where
  | mk (op : Int) (a : List Ex) (c : List Co)
inductive Sm where
  | mk (site op n m v : Int) (x y : Ex) (c : Co) (args : List Ex) (ptrs : List Int) (body els : List Sm)
structure Rg where
  lo : Int
  hi : Int
  mask : Int
structure Ar where
  len : Int
  of : Int
structure Df where
  id : Int
  site : Int
  name : List Int
  firm : Int
  part : Int
  params : List Rg
  given : List Rg
  vars : Int
  refs : Int
  arrays : List Ar
  budget : Int
  body : List Sm
mutual
def Ex.w : Ex → List Int
  | .mk op n v a => op :: n :: v :: (a.length : Int) :: exW a
def exW : List Ex → List Int
  | [] => []
  | x :: l => x.w ++ exW l
end
mutual
def Co.w : Co → List Int
  | .mk op a c => op :: (a.length : Int) :: (exW a ++ (c.length : Int) :: coW c)
def coW : List Co → List Int
  | [] => []
  | x :: l => x.w ++ coW l
end
mutual
def Sm.w : Sm → List Int
  | .mk site op n m v x y c args ptrs body els => site :: op :: n :: m :: v :: (x.w ++ (y.w ++ (c.w ++ ((args.length : Int) :: (exW args ++ ((ptrs.length : Int) :: (ptrs ++ ((body.length : Int) :: (smW body ++ ((els.length : Int) :: smW els))))))))))
def smW : List Sm → List Int
  | [] => []
  | x :: l => x.w ++ smW l
end
def Rg.w (r : Rg) : List Int := [r.lo, r.hi, r.mask]
def Ar.w (r : Ar) : List Int := [r.len, r.of]
def fmW {α : Type} (f : α → List Int) : List α → List Int
  | [] => []
  | x :: l => f x ++ fmW f l
def Df.w (d : Df) : List Int :=
  1 :: d.id :: d.site :: (d.name.length : Int) :: (d.name ++ (d.firm :: d.part :: (d.params.length : Int) :: (fmW Rg.w d.params ++ ((d.given.length : Int) :: (fmW Rg.w d.given ++ (d.vars :: d.refs :: (d.arrays.length : Int) :: (fmW Ar.w d.arrays ++ (d.budget :: (d.body.length : Int) :: smW d.body))))))))
/-! ### Reading -/
abbrev Rdr (α : Type) := List Int → Option (α × List Int)
def many {α : Type} (f : Rdr α) : Nat → Rdr (List α)
  | 0, l => some ([], l)
  | n + 1, l => match f l with
    | none => none
    | some (x, l1) => match many f n l1 with
      | none => none
      | some (xs, l2) => some (x :: xs, l2)
def lst {α : Type} (f : Rdr α) : Rdr (List α)
  | [] => none
  | n :: l => if 0 ≤ n ∧ n ≤ (l.length : Int) then many f n.toNat l else none
def one : Rdr Int
  | [] => none
  | x :: l => some (x, l)
def rdEx : Nat → Rdr Ex
  | 0, _ => none
  | k + 1, l => match one l with
    | none => none
    | some (op, l) => match one l with
      | none => none
      | some (n, l) => match one l with
        | none => none
        | some (v, l) => match lst (rdEx k) l with
          | none => none
          | some (a, l) => some (.mk op n v a, l)
def rdCo : Nat → Rdr Co
  | 0, _ => none
  | k + 1, l => match one l with
    | none => none
    | some (op, l) => match lst (rdEx k) l with
      | none => none
      | some (a, l) => match lst (rdCo k) l with
        | none => none
        | some (c, l) => some (.mk op a c, l)
def rdSm : Nat → Rdr Sm
  | 0, _ => none
  | k + 1, l => match one l with
    | none => none
    | some (site, l) => match one l with
      | none => none
      | some (op, l) => match one l with
        | none => none
        | some (n, l) => match one l with
          | none => none
          | some (m, l) => match one l with
            | none => none
            | some (v, l) => match rdEx k l with
              | none => none
              | some (x, l) => match rdEx k l with
                | none => none
                | some (y, l) => match rdCo k l with
                  | none => none
                  | some (c, l) => match lst (rdEx k) l with
                    | none => none
                    | some (args, l) => match lst one l with
                      | none => none
                      | some (ptrs, l) => match lst (rdSm k) l with
                        | none => none
                        | some (body, l) => match lst (rdSm k) l with
                          | none => none
                          | some (els, l) => some (.mk site op n m v x y c args ptrs body els, l)
def rdRg : Rdr Rg := fun l => match one l with
  | none => none
  | some (a, l) => match one l with
    | none => none
    | some (b, l) => match one l with
      | none => none
      | some (c, l) => some (⟨a, b, c⟩, l)
def rdAr : Rdr Ar := fun l => match one l with
  | none => none
  | some (a, l) => match one l with
    | none => none
    | some (b, l) => some (⟨a, b⟩, l)
def rdLe : Rdr Int := fun l => match one l with
  | none => none
  | some (a, l) => if 0 ≤ a ∧ a ≤ 255 then some (a, l) else none
def rdDf (k : Nat) : Rdr Df := fun l => match one l with
  | none => none
  | some (kd, l) => if kd = 1 then (match one l with
    | none => none
    | some (id, l) => match one l with
      | none => none
      | some (site, l) => match lst rdLe l with
        | none => none
        | some (name, l) => match one l with
          | none => none
          | some (firm, l) => match one l with
            | none => none
            | some (part, l) => match lst rdRg l with
              | none => none
              | some (params, l) => match lst rdRg l with
                | none => none
                | some (given, l) => match one l with
                  | none => none
                  | some (vars, l) => match one l with
                    | none => none
                    | some (refs, l) => match lst rdAr l with
                      | none => none
                      | some (arrays, l) => match one l with
                        | none => none
                        | some (budget, l) => match lst (rdSm k) l with
                          | none => none
                          | some (body, l) => some (⟨id, site, name, firm, part, params, given, vars, refs, arrays, budget, body⟩, l)) else none
/-! ### Reading undoes writing, and what is read has these words -/
/-- f reads what w writes, with at most b words in all. -/
def Inv {α : Type} (f : Rdr α) (w : α → List Int) (ok : α → Prop) (b : Nat) : Prop := ∀ x r, ok x → (w x ++ r).length < b → f (w x ++ r) = some (x, r)
def Can {α : Type} (f : Rdr α) (w : α → List Int) (ok : α → Prop) : Prop := ∀ l x r, f l = some (x, r) → l = w x ++ r ∧ ok x
theorem one_inv (b : Nat) : Inv one (fun x => [x]) (fun _ => True) b := fun x r _ _ => rfl
theorem one_can : Can one (fun x => [x]) (fun _ => True) := fun l x r h => by
  cases l with
  | nil => cases h
  | cons y l => simp only [one, Option.some.injEq, Prod.mk.injEq] at h; obtain ⟨rfl, rfl⟩ := h; exact ⟨rfl, trivial⟩
theorem many_inv {α : Type} {f : Rdr α} {w : α → List Int} {ok : α → Prop} {b : Nat} (h : Inv f w ok b) : ∀ (xs : List α) (r : List Int), (∀ x, x ∈ xs → ok x) → (fmW w xs ++ r).length < b → many f xs.length (fmW w xs ++ r) = some (xs, r)
  | [], r, _, _ => rfl
  | x :: xs, r, h1, h2 => by
    simp only [fmW, List.length_cons, many, List.append_assoc]
    rw [h x (fmW w xs ++ r) (h1 x (by simp)) (by simpa [fmW, List.append_assoc] using h2)]
    simp only
    rw [many_inv h xs r (fun y hy => h1 y (by simp [hy])) (by simp only [fmW, List.append_assoc, List.length_append] at h2 ⊢; omega)]
theorem fmW_len {α : Type} {w : α → List Int} (hw : ∀ x, 1 ≤ (w x).length) : ∀ (xs : List α), xs.length ≤ (fmW w xs).length
  | [] => Nat.le_refl _
  | x :: xs => by have := fmW_len hw xs; have := hw x; simp only [fmW, List.length_append, List.length_cons]; omega
theorem lst_inv {α : Type} {f : Rdr α} {w : α → List Int} {ok : α → Prop} {b : Nat} (hw : ∀ x, 1 ≤ (w x).length) (h : Inv f w ok b) (xs : List α) (r : List Int) (h1 : ∀ x, x ∈ xs → ok x) (h2 : (fmW w xs ++ r).length < b) : lst f ((xs.length : Int) :: (fmW w xs ++ r)) = some (xs, r) := by
  have := fmW_len hw xs
  rw [lst, if_pos ⟨by omega, by rw [List.length_append]; omega⟩, Int.toNat_natCast]
  exact many_inv h xs r h1 h2
theorem many_can {α : Type} {f : Rdr α} {w : α → List Int} {ok : α → Prop} (h : Can f w ok) : ∀ (n : Nat) (l : List Int) (xs : List α) (r : List Int), many f n l = some (xs, r) → xs.length = n ∧ l = fmW w xs ++ r ∧ ∀ x, x ∈ xs → ok x
  | 0, l, xs, r, e => by
    simp only [many, Option.some.injEq, Prod.mk.injEq] at e
    obtain ⟨rfl, rfl⟩ := e
    exact ⟨rfl, rfl, fun x hx => by cases hx⟩
  | n + 1, l, xs, r, e => by
    simp only [many] at e
    split at e
    · cases e
    · rename_i x l1 h1
      split at e
      · cases e
      · rename_i ys l2 h2
        simp only [Option.some.injEq, Prod.mk.injEq] at e
        obtain ⟨rfl, rfl⟩ := e
        obtain ⟨e1, o1⟩ := h _ _ _ h1
        obtain ⟨e2, e3, o2⟩ := many_can h n _ _ _ h2
        refine ⟨by simp [e2], ?_, fun y hy => ?_⟩
        · rw [e1, e3]; simp [fmW]
        · rcases List.mem_cons.1 hy with rfl | hy
          · exact o1
          · exact o2 y hy
theorem lst_can {α : Type} {f : Rdr α} {w : α → List Int} {ok : α → Prop} (h : Can f w ok) {l : List Int} {xs : List α} {r : List Int} (e : lst f l = some (xs, r)) : l = (xs.length : Int) :: (fmW w xs ++ r) ∧ ∀ x, x ∈ xs → ok x := by
  cases l with
  | nil => cases e
  | cons n l =>
    simp only [lst] at e
    split at e
    · rename_i hn
      obtain ⟨e1, e2, o⟩ := many_can h _ _ _ _ e
      refine ⟨?_, o⟩
      rw [e2, e1, Int.toNat_of_nonneg hn.1]
    · cases e
theorem exW_eq : ∀ l, exW l = fmW Ex.w l
  | [] => by simp [exW, fmW]
  | x :: l => by rw [exW, fmW, exW_eq l]
theorem coW_eq : ∀ l, coW l = fmW Co.w l
  | [] => by simp [coW, fmW]
  | x :: l => by rw [coW, fmW, coW_eq l]
theorem smW_eq : ∀ l, smW l = fmW Sm.w l
  | [] => by simp [smW, fmW]
  | x :: l => by rw [smW, fmW, smW_eq l]
theorem Ex.w_pos : ∀ x : Ex, 1 ≤ x.w.length
  | .mk _ _ _ _ => by simp [Ex.w]
theorem Co.w_pos : ∀ x : Co, 1 ≤ x.w.length
  | .mk _ _ _ => by simp [Co.w]
theorem Sm.w_pos : ∀ x : Sm, 1 ≤ x.w.length
  | .mk _ _ _ _ _ _ _ _ _ _ _ _ => by simp [Sm.w]
theorem ex_inv : ∀ k, Inv (rdEx k) Ex.w (fun _ => True) k
  | 0 => fun x r _ h => by omega
  | k + 1 => fun x r _ h => by
    obtain ⟨op, n, v, a⟩ := x
    simp only [Ex.w, exW_eq, List.cons_append, List.length_cons, List.length_append] at h
    have := lst_inv Ex.w_pos (ex_inv k) a r (fun _ _ => trivial) (by rw [List.length_append]; omega)
    simp only [rdEx, Ex.w, one, exW_eq, List.cons_append]
    rw [this]
theorem ex_can : ∀ k, Can (rdEx k) Ex.w (fun _ => True)
  | 0 => fun l x r h => by cases h
  | k + 1 => fun l x r h => by
    simp only [rdEx] at h
    repeat' split at h
    all_goals first | (cases h; done) | skip
    rename_i h1 _ _ _ h2 _ _ _ h3 _ _ _ h4
    simp only [Option.some.injEq, Prod.mk.injEq] at h
    obtain ⟨rfl, rfl⟩ := h
    obtain ⟨e1, -⟩ := one_can _ _ _ h1
    obtain ⟨e2, -⟩ := one_can _ _ _ h2
    obtain ⟨e3, -⟩ := one_can _ _ _ h3
    obtain ⟨e4, -⟩ := lst_can (ex_can k) h4
    rw [e1, e2, e3, e4]
    exact ⟨by simp [Ex.w, exW_eq], trivial⟩
theorem co_inv : ∀ k, Inv (rdCo k) Co.w (fun _ => True) k
  | 0 => fun x r _ h => by omega
  | k + 1 => fun x r _ h => by
    obtain ⟨op, a, c⟩ := x
    simp only [Co.w, exW_eq, coW_eq, List.cons_append, List.append_assoc, List.length_cons, List.length_append] at h
    have h1 := lst_inv Ex.w_pos (ex_inv k) a ((c.length : Int) :: (fmW Co.w c ++ r)) (fun _ _ => trivial) (by simp only [List.length_append, List.length_cons]; omega)
    have h2 := lst_inv Co.w_pos (co_inv k) c r (fun _ _ => trivial) (by simp only [List.length_append]; omega)
    simp only [rdCo, Co.w, one, exW_eq, coW_eq, List.cons_append, List.append_assoc]
    rw [h1]; simp only
    rw [h2]
theorem co_can : ∀ k, Can (rdCo k) Co.w (fun _ => True)
  | 0 => fun l x r h => by cases h
  | k + 1 => fun l x r h => by
    simp only [rdCo] at h
    repeat' split at h
    all_goals first | (cases h; done) | skip
    rename_i h1 _ _ _ h2 _ _ _ h3
    simp only [Option.some.injEq, Prod.mk.injEq] at h
    obtain ⟨rfl, rfl⟩ := h
    obtain ⟨e1, -⟩ := one_can _ _ _ h1
    obtain ⟨e2, -⟩ := lst_can (ex_can k) h2
    obtain ⟨e3, -⟩ := lst_can (co_can k) h3
    rw [e1, e2, e3]
    exact ⟨by simp [Co.w, exW_eq, coW_eq], trivial⟩
theorem fm_one : ∀ l : List Int, fmW (fun x => [x]) l = l
  | [] => rfl
  | x :: l => by rw [fmW, fm_one l]; rfl
theorem sm_inv : ∀ k, Inv (rdSm k) Sm.w (fun _ => True) k
  | 0 => fun x r _ h => by omega
  | k + 1 => fun x r _ h => by
    obtain ⟨site, op, n, m, v, x, y, c, args, ptrs, body, els⟩ := x
    simp only [Sm.w, exW_eq, smW_eq, List.cons_append, List.append_assoc, List.length_cons, List.length_append] at h
    have h7 := lst_inv Sm.w_pos (sm_inv k) els r (fun _ _ => trivial) (by simp only [List.length_append, List.length_cons]; omega)
    have h6 := lst_inv Sm.w_pos (sm_inv k) body ((els.length : Int) :: (fmW Sm.w els ++ r)) (fun _ _ => trivial) (by simp only [List.length_append, List.length_cons]; omega)
    have h5 := lst_inv (w := fun x => [x]) (fun _ => Nat.le_refl _) (one_inv k) ptrs ((body.length : Int) :: (fmW Sm.w body ++ ((els.length : Int) :: (fmW Sm.w els ++ r)))) (fun _ _ => trivial) (by rw [fm_one]; simp only [List.length_append, List.length_cons]; omega)
    rw [fm_one] at h5
    have h4 := lst_inv Ex.w_pos (ex_inv k) args ((ptrs.length : Int) :: (ptrs ++ ((body.length : Int) :: (fmW Sm.w body ++ ((els.length : Int) :: (fmW Sm.w els ++ r)))))) (fun _ _ => trivial) (by simp only [List.length_append, List.length_cons]; omega)
    have h3 := co_inv k c ((args.length : Int) :: (fmW Ex.w args ++ ((ptrs.length : Int) :: (ptrs ++ ((body.length : Int) :: (fmW Sm.w body ++ ((els.length : Int) :: (fmW Sm.w els ++ r)))))))) trivial (by simp only [List.length_append, List.length_cons]; omega)
    have h2 := ex_inv k y (c.w ++ ((args.length : Int) :: (fmW Ex.w args ++ ((ptrs.length : Int) :: (ptrs ++ ((body.length : Int) :: (fmW Sm.w body ++ ((els.length : Int) :: (fmW Sm.w els ++ r))))))))) trivial (by simp only [List.length_append, List.length_cons]; omega)
    have h1 := ex_inv k x (y.w ++ (c.w ++ ((args.length : Int) :: (fmW Ex.w args ++ ((ptrs.length : Int) :: (ptrs ++ ((body.length : Int) :: (fmW Sm.w body ++ ((els.length : Int) :: (fmW Sm.w els ++ r)))))))))) trivial (by simp only [List.length_append, List.length_cons]; omega)
    simp only [rdSm, Sm.w, one, exW_eq, smW_eq, List.cons_append, List.append_assoc]
    rw [h1]; simp only
    rw [h2]; simp only
    rw [h3]; simp only
    rw [h4]; simp only
    rw [h5]; simp only
    rw [h6]; simp only
    rw [h7]
theorem sm_can : ∀ k, Can (rdSm k) Sm.w (fun _ => True)
  | 0 => fun l x r h => by cases h
  | k + 1 => fun l x r h => by
    simp only [rdSm] at h
    repeat' split at h
    all_goals first | (cases h; done) | skip
    rename_i h1 _ _ _ h2 _ _ _ h3 _ _ _ h4 _ _ _ h5 _ _ _ h6 _ _ _ h7 _ _ _ h8 _ _ _ h9 _ _ _ h10 _ _ _ h11 _ _ _ h12
    simp only [Option.some.injEq, Prod.mk.injEq] at h
    obtain ⟨rfl, rfl⟩ := h
    obtain ⟨e1, -⟩ := one_can _ _ _ h1
    obtain ⟨e2, -⟩ := one_can _ _ _ h2
    obtain ⟨e3, -⟩ := one_can _ _ _ h3
    obtain ⟨e4, -⟩ := one_can _ _ _ h4
    obtain ⟨e5, -⟩ := one_can _ _ _ h5
    obtain ⟨e6, -⟩ := ex_can k _ _ _ h6
    obtain ⟨e7, -⟩ := ex_can k _ _ _ h7
    obtain ⟨e8, -⟩ := co_can k _ _ _ h8
    obtain ⟨e9, -⟩ := lst_can (ex_can k) h9
    obtain ⟨e10, -⟩ := lst_can one_can h10
    obtain ⟨e11, -⟩ := lst_can (sm_can k) h11
    obtain ⟨e12, -⟩ := lst_can (sm_can k) h12
    rw [fm_one] at e10
    rw [e1, e2, e3, e4, e5, e6, e7, e8, e9, e10, e11, e12]
    exact ⟨by simp [Sm.w, exW_eq, smW_eq], trivial⟩
theorem rg_inv (b : Nat) : Inv rdRg Rg.w (fun _ => True) b := fun x r _ _ => rfl
theorem rg_can : Can rdRg Rg.w (fun _ => True) := fun l x r h => by
  simp only [rdRg] at h
  repeat' split at h
  all_goals first | (cases h; done) | skip
  rename_i h1 _ _ _ h2 _ _ _ h3
  simp only [Option.some.injEq, Prod.mk.injEq] at h
  obtain ⟨rfl, rfl⟩ := h
  obtain ⟨e1, -⟩ := one_can _ _ _ h1
  obtain ⟨e2, -⟩ := one_can _ _ _ h2
  obtain ⟨e3, -⟩ := one_can _ _ _ h3
  rw [e1, e2, e3]
  exact ⟨rfl, trivial⟩
theorem ar_inv (b : Nat) : Inv rdAr Ar.w (fun _ => True) b := fun x r _ _ => rfl
theorem ar_can : Can rdAr Ar.w (fun _ => True) := fun l x r h => by
  simp only [rdAr] at h
  repeat' split at h
  all_goals first | (cases h; done) | skip
  rename_i h1 _ _ _ h2
  simp only [Option.some.injEq, Prod.mk.injEq] at h
  obtain ⟨rfl, rfl⟩ := h
  obtain ⟨e1, -⟩ := one_can _ _ _ h1
  obtain ⟨e2, -⟩ := one_can _ _ _ h2
  rw [e1, e2]
  exact ⟨rfl, trivial⟩
def leOk (x : Int) : Prop := 0 ≤ x ∧ x ≤ 255
theorem le_inv (b : Nat) : Inv rdLe (fun x => [x]) leOk b := fun x r h _ => by simp only [rdLe, List.cons_append, List.nil_append, one]; rw [if_pos (show 0 ≤ x ∧ x ≤ 255 from h)]
theorem le_can : Can rdLe (fun x => [x]) leOk := fun l x r h => by
  simp only [rdLe] at h
  repeat' split at h
  all_goals first | (cases h; done) | skip
  rename_i h1 h2
  simp only [Option.some.injEq, Prod.mk.injEq] at h
  obtain ⟨rfl, rfl⟩ := h
  obtain ⟨e1, -⟩ := one_can _ _ _ h1
  rw [e1]
  exact ⟨rfl, h2⟩
def Df.ok (d : Df) : Prop := ∀ x, x ∈ d.name → leOk x
theorem df_inv (k : Nat) : Inv (rdDf k) Df.w Df.ok k := fun d r hd h => by
  obtain ⟨id, site, name, firm, part, params, given, vars, refs, arrays, budget, body⟩ := d
  simp only [Df.ok] at hd
  simp only [Df.w, smW_eq, List.cons_append, List.append_assoc, List.length_cons, List.length_append] at h
  have h5 := lst_inv Sm.w_pos (sm_inv k) body r (fun _ _ => trivial) (by simp only [List.length_append, List.length_cons]; omega)
  have h4 := lst_inv (w := Ar.w) (fun _ => by simp [Ar.w]) (ar_inv k) arrays (budget :: (body.length : Int) :: (fmW Sm.w body ++ r)) (fun _ _ => trivial) (by simp only [List.length_append, List.length_cons]; omega)
  have h3 := lst_inv (w := Rg.w) (fun _ => by simp [Rg.w]) (rg_inv k) given (vars :: refs :: (arrays.length : Int) :: (fmW Ar.w arrays ++ (budget :: (body.length : Int) :: (fmW Sm.w body ++ r)))) (fun _ _ => trivial) (by simp only [List.length_append, List.length_cons]; omega)
  have h2 := lst_inv (w := Rg.w) (fun _ => by simp [Rg.w]) (rg_inv k) params ((given.length : Int) :: (fmW Rg.w given ++ (vars :: refs :: (arrays.length : Int) :: (fmW Ar.w arrays ++ (budget :: (body.length : Int) :: (fmW Sm.w body ++ r)))))) (fun _ _ => trivial) (by simp only [List.length_append, List.length_cons]; omega)
  have h1 := lst_inv (w := fun x => [x]) (fun _ => Nat.le_refl _) (le_inv k) name (firm :: part :: (params.length : Int) :: (fmW Rg.w params ++ ((given.length : Int) :: (fmW Rg.w given ++ (vars :: refs :: (arrays.length : Int) :: (fmW Ar.w arrays ++ (budget :: (body.length : Int) :: (fmW Sm.w body ++ r)))))))) hd (by rw [fm_one]; simp only [List.length_append, List.length_cons]; omega)
  rw [fm_one] at h1
  simp only [rdDf, Df.w, one, smW_eq, List.cons_append, List.append_assoc, if_true]
  rw [h1]; simp only
  rw [h2]; simp only
  rw [h3]; simp only
  rw [h4]; simp only
  rw [h5]
theorem df_can (k : Nat) : Can (rdDf k) Df.w Df.ok := fun l x r h => by
  simp only [rdDf] at h
  repeat' split at h
  all_goals first | (cases h; done) | skip
  rename_i h1 h0 _ _ _ h2 _ _ _ h3 _ _ _ h4 _ _ _ h5 _ _ _ h6 _ _ _ h7 _ _ _ h8 _ _ _ h9 _ _ _ h10 _ _ _ h11 _ _ _ h12 _ _ _ h13
  simp only [Option.some.injEq, Prod.mk.injEq] at h
  obtain ⟨rfl, rfl⟩ := h
  obtain ⟨e1, -⟩ := one_can _ _ _ h1
  obtain ⟨e2, -⟩ := one_can _ _ _ h2
  obtain ⟨e3, -⟩ := one_can _ _ _ h3
  obtain ⟨e4, o4⟩ := lst_can le_can h4
  obtain ⟨e5, -⟩ := one_can _ _ _ h5
  obtain ⟨e6, -⟩ := one_can _ _ _ h6
  obtain ⟨e7, -⟩ := lst_can rg_can h7
  obtain ⟨e8, -⟩ := lst_can rg_can h8
  obtain ⟨e9, -⟩ := one_can _ _ _ h9
  obtain ⟨e10, -⟩ := one_can _ _ _ h10
  obtain ⟨e11, -⟩ := lst_can ar_can h11
  obtain ⟨e12, -⟩ := one_can _ _ _ h12
  obtain ⟨e13, -⟩ := lst_can (sm_can k) h13
  rw [fm_one] at e4
  rw [e1, e2, e3, e4, e5, e6, e7, e8, e9, e10, e11, e12, e13, h0]
  exact ⟨by simp [Df.w, smW_eq], o4⟩
end Go.Proofs.YtifeioddiddnoaaGreatDoor
namespace Go.Proofs.YtifeioddiddnoaaGreatDoor
/-- The k least bytes of a number, the least first. -/
def encN : Nat → Nat → List Nat
  | 0, _ => []
  | k + 1, n => n % 256 :: encN k (n / 256)
def decN : List Nat → Nat
  | [] => 0
  | b :: l => b + 256 * decN l
theorem encN_len : ∀ k n, (encN k n).length = k
  | 0, _ => rfl
  | k + 1, n => by rw [encN, List.length_cons, encN_len k]
theorem encN_lt : ∀ k n b, b ∈ encN k n → b < 256
  | 0, _, b, h => by cases h
  | k + 1, n, b, h => by
    rw [encN] at h
    rcases List.mem_cons.1 h with rfl | h
    · exact Nat.mod_lt _ (by decide)
    · exact encN_lt k _ b h
theorem decN_encN : ∀ k n, decN (encN k n) = n % 256 ^ k
  | 0, n => by rw [encN, decN, Nat.pow_zero, Nat.mod_one]
  | k + 1, n => by
    rw [encN, decN, decN_encN k, Nat.pow_succ, Nat.mul_comm (256 ^ k) 256, Nat.mod_mul]
theorem encN_decN : ∀ (l : List Nat), (∀ b, b ∈ l → b < 256) → encN l.length (decN l) = l
  | [], _ => rfl
  | b :: l, h => by
    have hb := h b (by simp)
    rw [List.length_cons, decN, encN, show (b + 256 * decN l) % 256 = b by omega, show (b + 256 * decN l) / 256 = decN l by omega, encN_decN l (fun x hx => h x (by simp [hx]))]
theorem decN_lt : ∀ (l : List Nat), (∀ b, b ∈ l → b < 256) → decN l < 256 ^ l.length
  | [], _ => by simp [decN]
  | b :: l, h => by
    have hb := h b (by simp)
    have := decN_lt l (fun x hx => h x (by simp [hx]))
    rw [List.length_cons, decN, Nat.pow_succ]
    omega
theorem decN_app : ∀ (l m : List Nat), decN (l ++ m) = decN l + 256 ^ l.length * decN m
  | [], m => by simp [decN]
  | b :: l, m => by
    rw [List.cons_append, decN, decN, decN_app l m, List.length_cons, Nat.pow_succ, Nat.mul_add, ← Nat.mul_assoc, Nat.mul_comm 256 (256 ^ l.length)]
    omega
theorem encN_get : ∀ (k n j : Nat), j < k → (encN k n)[j]? = some (n / 256 ^ j % 256)
  | 0, n, j, h => by omega
  | k + 1, n, 0, _ => by simp [encN]
  | k + 1, n, j + 1, h => by
    rw [encN, List.getElem?_cons_succ, encN_get k _ j (by omega), Nat.pow_succ, Nat.mul_comm (256 ^ j) 256, Nat.div_div_eq_div_mul]
theorem encN_take : ∀ (k n j : Nat), j < k → (encN k n).take (j + 1) = (encN k n).take j ++ [n / 256 ^ j % 256] := by
  intro k n j h
  rw [List.take_add_one, encN_get k n j h]; rfl
abbrev W64 : Int := 18446744073709551616
/-- A word without a sign. -/
def uns (x : Int) : Nat := (x % W64).toNat
/-- A word with a sign. -/
def sgnW (n : Nat) : Int := if n < 9223372036854775808 then (n : Int) else (n : Int) - W64
abbrev I64' (x : Int) : Prop := -9223372036854775808 ≤ x ∧ x ≤ 9223372036854775807
theorem uns_lt (x : Int) : uns x < 18446744073709551616 := by unfold uns W64; omega
theorem sgnW_uns (x : Int) (h : I64' x) : sgnW (uns x) = x := by unfold sgnW uns W64; unfold I64' at h; omega
theorem uns_sgnW (n : Nat) (h : n < 18446744073709551616) : uns (sgnW n) = n := by unfold sgnW uns W64; split <;> omega
theorem sgnW_i64 (n : Nat) (h : n < 18446744073709551616) : I64' (sgnW n) := by unfold sgnW I64' W64; split <;> omega
/-- The bytes of a word. -/
def byW (x : Int) : List Int := (encN 8 (uns x)).map fun n : Nat => (n : Int)
def bsL : List Int → List Int
  | [] => []
  | x :: l => byW x ++ bsL l
theorem byW_len (x : Int) : (byW x).length = 8 := by rw [byW, List.length_map, encN_len]
theorem byW_byte (x : Int) : ∀ b, b ∈ byW x → 0 ≤ b ∧ b ≤ 255 := by
  intro b hb
  obtain ⟨n, hn, rfl⟩ := List.mem_map.1 hb
  have := encN_lt _ _ n hn
  omega
theorem bsL_len : ∀ l, (bsL l).length = 8 * l.length
  | [] => rfl
  | x :: l => by rw [bsL, List.length_append, byW_len, bsL_len l, List.length_cons]; omega
theorem bsL_byte : ∀ l b, b ∈ bsL l → 0 ≤ b ∧ b ≤ 255
  | [], b, h => by cases h
  | x :: l, b, h => by
    rw [bsL] at h
    rcases List.mem_append.1 h with h | h
    · exact byW_byte x b h
    · exact bsL_byte l b h
theorem bsL_app : ∀ a b, bsL (a ++ b) = bsL a ++ bsL b
  | [], b => rfl
  | x :: a, b => by rw [List.cons_append, bsL, bsL, bsL_app a b, List.append_assoc]
/-- The word of bytes. -/
def wdB (l : List Int) : Int := sgnW (decN (l.map Int.toNat))
theorem wdB_byW (x : Int) (h : I64' x) : wdB (byW x) = x := by
  unfold wdB byW
  rw [List.map_map, show (Int.toNat ∘ fun n : Nat => (n : Int)) = id from funext fun n => Int.toNat_natCast n, List.map_id, decN_encN]
  rw [show (256 : Nat) ^ 8 = 18446744073709551616 from rfl, Nat.mod_eq_of_lt (uns_lt x), sgnW_uns x h]
theorem byW_wdB (l : List Int) (hl : l.length = 8) (hb : ∀ b, b ∈ l → 0 ≤ b ∧ b ≤ 255) : byW (wdB l) = l := by
  have h1 : ∀ b, b ∈ l.map Int.toNat → b < 256 := fun b hb' => by
    obtain ⟨x, hx, rfl⟩ := List.mem_map.1 hb'
    have := hb x hx
    omega
  have h2 := decN_lt _ h1
  have h3 := encN_decN _ h1
  rw [List.length_map, hl] at h2 h3
  unfold byW wdB
  rw [uns_sgnW _ h2, h3, List.map_map]
  conv => rhs; rw [← List.map_id l]
  apply List.map_congr_left
  intro x hx
  have := hb x hx
  simp only [Function.comp, id]
  omega
theorem wdB_i64 (l : List Int) (hl : l.length = 8) (hb : ∀ b, b ∈ l → 0 ≤ b ∧ b ≤ 255) : I64' (wdB l) := by
  have h1 : ∀ b, b ∈ l.map Int.toNat → b < 256 := fun b hb' => by
    obtain ⟨x, hx, rfl⟩ := List.mem_map.1 hb'
    have := hb x hx
    omega
  have h2 := decN_lt _ h1
  rw [List.length_map, hl] at h2
  exact sgnW_i64 _ h2
/-- All bytes are words, and less than a word behind them. -/
theorem split_words : ∀ (k : Nat) (b : List Int), b.length ≤ k → (∀ x, x ∈ b → 0 ≤ x ∧ x ≤ 255) → ∃ ws t, b = bsL ws ++ t ∧ t.length < 8 ∧ (∀ w, w ∈ ws → I64' w)
  | 0, b, h, _ => by
    obtain rfl := List.eq_nil_of_length_eq_zero (show b.length = 0 by omega)
    exact ⟨[], [], rfl, by decide, fun w hw => by cases hw⟩
  | k + 1, b, h, hb => by
    by_cases h8 : b.length < 8
    · exact ⟨[], b, rfl, h8, fun w hw => by cases hw⟩
    · obtain ⟨ws, t, e, h1, h2⟩ := split_words k (b.drop 8) (by rw [List.length_drop]; omega) (fun x hx => hb x (List.mem_of_mem_drop hx))
      have l8 : (b.take 8).length = 8 := by rw [List.length_take]; omega
      have b8 : ∀ x, x ∈ b.take 8 → 0 ≤ x ∧ x ≤ 255 := fun x hx => hb x (List.mem_of_mem_take hx)
      refine ⟨wdB (b.take 8) :: ws, t, ?_, h1, fun w hw => ?_⟩
      · rw [bsL, byW_wdB _ l8 b8, List.append_assoc, ← e, List.take_append_drop]
      · rcases List.mem_cons.1 hw with rfl | hw
        · exact wdB_i64 _ l8 b8
        · exact h2 w hw
theorem byW_inj {x y : Int} (hx : I64' x) (hy : I64' y) (h : byW x = byW y) : x = y := by rw [← wdB_byW x hx, h, wdB_byW y hy]
theorem bsL_inj : ∀ (a b : List Int), (∀ w, w ∈ a → I64' w) → (∀ w, w ∈ b → I64' w) → bsL a = bsL b → a = b
  | [], [], _, _, _ => rfl
  | [], y :: b, _, _, h => by have := congrArg List.length h; rw [bsL_len, bsL_len] at this; simp at this
  | x :: a, [], _, _, h => by have := congrArg List.length h; rw [bsL_len, bsL_len] at this; simp at this
  | x :: a, y :: b, ha, hb, h => by
    rw [bsL, bsL] at h
    obtain ⟨h1, h2⟩ := List.append_inj h (by rw [byW_len, byW_len])
    rw [byW_inj (ha x (by simp)) (hb y (by simp)) h1, bsL_inj a b (fun w hw => ha w (by simp [hw])) (fun w hw => hb w (by simp [hw])) h2]
/-- The j-th byte of a word. -/
theorem shr_byte (x : Int) (j : Nat) (hj : j < 8) : (x.fdiv (2 ^ (8 * j))) % 256 = ((uns x / 256 ^ j % 256 : Nat) : Int) := by
  unfold uns W64
  rw [Int.fdiv_eq_ediv_of_nonneg _ (Int.le_of_lt (Int.pow_pos (by decide)))]
  match j, hj with
  | 0, _ => simp; omega
  | 1, _ => simp; omega
  | 2, _ => simp; omega
  | 3, _ => simp; omega
  | 4, _ => simp; omega
  | 5, _ => simp; omega
  | 6, _ => simp; omega
  | 7, _ => simp; omega
end Go.Proofs.YtifeioddiddnoaaGreatDoor
namespace Go.Proofs.YtifeioddiddnoaaGreatDoor
/-- A head. -/
structure Hd where
  id : Int
  firm : Int
  part : Int
  params : List Rg
  given : List Rg
/-- The numbers of the maker. -/
structure Ms where
  a : Nat
  site : Nat
  left : Nat
  loop : Nat
  done : Nat
/-- What stays while statements are made. -/
structure Ev where
  L : List Int
  hs : List Hd
  ds : List Df
  D : Df
def Ms.t (s : Ms) : Nat := s.a + s.site
structure Ev.ok (E : Ev) : Prop where
  L : ∀ x, x ∈ E.L → 0 ≤ x ∧ x ≤ 255
  Ll : E.L.length ≤ 9223372036854775807
  vars : ((E.D.params.length + 2 : Nat) : Int) ≤ E.D.vars ∧ E.D.vars ≤ 100
  arr : 1 ≤ E.D.arrays.length ∧ E.D.arrays.length ≤ 100
  hs : ∀ h, h ∈ E.hs → h.params.length ≤ 2 ∧ h.given.length ≤ 1 ∧ -1000 ≤ h.id ∧ h.id ≤ 1000
  hsl : E.hs.length ≤ 100
section
variable (E : Ev)
def gN (n : Nat) (s : Ms) : Nat × Ms := (if s.a < E.L.length then (E.L.getD s.a 0).toNat % n else 0, { s with a := s.a + 1 })
def gS (s : Ms) : Nat × Ms := (s.site + 1, { s with site := s.site + 1 })
abbrev zE : Ex := .mk 0 0 0 []
abbrev zC : Co := .mk 0 [] []
abbrev numE (v : Int) : Ex := .mk 1 0 v []
def gE : Nat → Ms → Ex × Ms
  | 0, s =>
    let k := gN E 12 s
    let v := gN E 14 k.2
    (numE ((v.1 : Int) - 3), v.2)
  | d + 1, s =>
    let k := gN E 12 s
    if k.1 < 4 then
      let v := gN E 14 k.2
      (numE ((v.1 : Int) - 3), v.2)
    else if k.1 < 9 then
      let v := gN E E.D.vars.toNat k.2
      (.mk 2 v.1 0 [], v.2)
    else if k.1 = 9 then
      let v := gN E E.D.arrays.length k.2
      (.mk 3 v.1 0 [], v.2)
    else
      let o := gN E 7 k.2
      let a := gE d o.2
      let b := gE d a.2
      (.mk (4 + o.1) 0 0 [a.1, b.1], b.2)
/-- A test. -/
def gTest (k : Nat) (s : Ms) : Co × Ms :=
  let a := gE E 1 s
  let b := gE E 1 a.2
  (.mk (2 + (k % 3 : Nat)) [a.1, b.1] [], b.2)
def gC : Nat → Ms → Co × Ms
  | 0, s =>
    let k := gN E 8 s
    gTest E k.1 k.2
  | d + 1, s =>
    let k := gN E 8 s
    if k.1 < 6 then gTest E k.1 k.2
    else if k.1 = 6 then
      let c := gC d k.2
      (.mk 5 [] [c.1], c.2)
    else
      let a := gC d k.2
      let o := gN E 2 a.2
      let b := gC d o.2
      (.mk (6 + o.1) [] [a.1, b.1], b.2)
def gT (s : Ms) : Nat × Ms :=
  let v := gN E (E.D.vars.toNat - E.D.params.length) s
  (E.D.params.length + v.1, v.2)
abbrev stm (site op n m v : Int) (x y : Ex) (c : Co) : Sm := .mk site op n m v x y c [] [] [] []
def gSk (i : Nat) : Nat → Ms → List Sm × Ms
  | 0, s =>
    let n := gT E s
    let x := gN E 4 n.2
    ([stm i 2 n.1 0 0 (numE x.1) zE zC], x.2)
  | 1, s =>
    let x := gN E 4 s
    let y := gE E 2 x.2
    ([stm i 3 0 0 0 (numE x.1) y.1 zC], y.2)
  | 2, s =>
    let n := gT E s
    let m := gN E 2 n.2
    ([stm i 4 n.1 m.1 0 zE zE zC], m.2)
  | 3, s =>
    let n := gT E s
    let m := gN E 2 n.2
    ([stm i 20 n.1 m.1 0 zE zE zC], m.2)
  | 4, s =>
    let q := gN E 3 s
    let j := gS q.2
    let x := gN E 9 j.2
    let l := gS x.2
    ([stm i 16 0 q.1 0 zE zE zC, stm j.1 5 0 0 0 (numE x.1) zE zC, stm l.1 17 0 q.1 0 zE zE zC], l.2)
  | 5, s =>
    let j := gS s
    let x := gE E 1 j.2
    let l := gS x.2
    ([stm i 6 1 0 0 zE zE zC, stm j.1 9 1 0 0 x.1 zE zC, stm l.1 7 1 0 0 zE zE zC], l.2)
  | _ + 6, s =>
    let n := gT E s
    let x := gE E 2 n.2
    ([stm i 1 n.1 0 0 x.1 zE zC], x.2)
def gSimple (s : Ms) : List Sm × Ms :=
  let t := gS s
  let k := gN E 8 t.2
  gSk E t.1 k.1 k.2
/-- The element that two numbers choose of a list, in an array. -/
def gArr (i op : Nat) (s : Ms) : Sm × Ms :=
  let n := gT E s
  let m := gN E E.D.arrays.length n.2
  let x := gE E 1 m.2
  (stm i op n.1 m.1 0 x.1 zE zC, x.2)
def gRk (i : Nat) : Nat → Ms → Sm × Ms
  | 0, s => gArr E i 2 s
  | 1, s => gArr E i 2 s
  | 2, s =>
    let m := gN E E.D.arrays.length s
    let x := gE E 1 m.2
    let y := gE E 1 x.2
    (stm i 3 0 m.1 0 x.1 y.1 zC, y.2)
  | 3, s =>
    let m := gN E 2 s
    let x := gE E 1 m.2
    (stm i 5 0 m.1 0 x.1 zE zC, x.2)
  | 4, s =>
    let n := gN E 2 s
    (stm i 6 n.1 0 0 zE zE zC, n.2)
  | 5, s =>
    let n := gN E 2 s
    (stm i 7 n.1 0 0 zE zE zC, n.2)
  | 6, s =>
    let n := gN E 2 s
    let m := gN E 2 n.2
    (stm i 8 n.1 m.1 0 zE zE zC, m.2)
  | 7, s =>
    let n := gT E s
    let m := gN E 2 n.2
    (stm i 10 n.1 m.1 0 zE zE zC, m.2)
  | 8, s =>
    let o := gN E 2 s
    let m := gN E 3 o.2
    (stm i (16 + o.1) 0 m.1 0 zE zE zC, m.2)
  | 9, s =>
    let x := gE E 1 s
    (stm i 18 0 0 0 x.1 zE zC, x.2)
  | 10, s =>
    let n := gT E s
    (stm i 19 n.1 0 0 zE zE zC, n.2)
  | 11, s =>
    let m := gN E 3 s
    let x := gE E 1 m.2
    (stm i 21 0 m.1 0 x.1 zE zC, x.2)
  | 12, s =>
    let m := gN E 3 s
    (stm i 22 0 m.1 0 zE zE zC, m.2)
  | 13, s =>
    let c := gC E 1 s
    (stm i 23 0 0 0 zE zE c.1, c.2)
  | _ + 14, s =>
    let n := gN E 2 s
    let x := gE E 1 n.2
    (stm i 9 n.1 0 0 x.1 zE zC, x.2)
def gRisky (s : Ms) : Sm × Ms :=
  let t := gS s
  let k := gN E 15 t.2
  gRk E t.1 k.1 k.2
/-- f, n times more. -/
def gRep {α : Type} (f : Ms → α × Ms) : Nat → List α → Ms → List α × Ms
  | 0, xs, s => (xs, s)
  | n + 1, xs, s => gRep f n (xs ++ [(f s).1]) (f s).2
def zHd : Hd := ⟨0, 0, 0, [], []⟩
def gCall (s : Ms) : Sm × Ms :=
  let t := gS s
  let n := gT E t.2
  if E.hs.length = 0 ∨ 2 ≤ n.2.done then (stm t.1 1 n.1 0 0 (numE 1) zE zC, n.2)
  else
    let q := gN E E.hs.length n.2
    let h := E.hs.getD q.1 zHd
    let a := gRep (gE E 1) h.params.length [] { q.2 with done := q.2.done + 1 }
    let b := gRep (gN E 2) h.given.length [] a.2
    (.mk t.1 13 n.1 h.id 0 zE zE zC a.1 (b.1.map fun x : Nat => (x : Int)) [] [], b.2)
def gNes (f : Nat → Ms → List Sm × Ms) (k : Nat) (s : Ms) : Sm × Ms :=
  let t := gS s
  if k = 6 then
    let c := gC E 1 t.2
    let v := gN E 3 c.2
    let n := gN E 2 { v.2 with loop := v.2.loop + 1 }
    let b := f (1 + n.1) n.2
    (.mk t.1 12 0 0 (1 + v.1) zE zE c.1 [] [] b.1 [], { b.2 with loop := b.2.loop - 1 })
  else if k = 7 then
    let v := gT E t.2
    let n := gN E 2 v.2
    let b := f (1 + n.1) n.2
    let m := gN E 2 b.2
    let e := f m.1 m.2
    (.mk t.1 15 v.1 0 0 zE zE zC [] [] b.1 e.1, e.2)
  else
    let c := gC E 1 t.2
    let n := gN E 2 c.2
    let b := f (1 + n.1) n.2
    let m := gN E 2 b.2
    let e := f m.1 m.2
    (.mk t.1 11 0 0 0 zE zE c.1 [] [] b.1 e.1, e.2)
def gOther (k d : Nat) (s : Ms) : List Sm × Ms :=
  if 4 ≤ k ∧ k < 10 then
    let c := gCall E s
    ([c.1], c.2)
  else if k = 10 then
    let t := gS s
    let v := gN E 3 t.2
    ([stm t.1 14 0 0 (1 + v.1) zE zE zC], v.2)
  else if k = 11 ∧ d < 2 then
    let t := gS s
    let x := gE E 1 t.2
    ([stm t.1 24 0 0 0 x.1 zE zC], x.2)
  else if k < 4 then gSimple E s
  else
    let r := gRisky E s
    ([r.1], r.2)
def gLoop (one : Ms → List Sm × Ms) : Nat → List Sm → Ms → List Sm × Ms
  | 0, xs, s => (xs, s)
  | n + 1, xs, s => if s.left = 0 then (xs, s) else gLoop one n (xs ++ (one { s with left := s.left - 1 }).1) (one { s with left := s.left - 1 }).2
def gSts : Nat → Nat → Ms → List Sm × Ms
  | 0, n, s => gLoop (fun s =>
      let k := gN E 16 s
      gOther E k.1 0 k.2) n [] s
  | d + 1, n, s => gLoop (fun s =>
      let k := gN E 16 s
      if 4 ≤ k.1 ∧ k.1 ≤ 7 then
        let r := gNes E (gSts d) k.1 k.2
        ([r.1], r.2)
      else gOther E k.1 (d + 1) k.2) n [] s
end
/-! ### What they cost, and how great what they make is -/
/-- Small numbers. -/
def Sml (w : List Int) : Prop := ∀ x, x ∈ w → -2000000 ≤ x ∧ x ≤ 2000000
theorem Sml.nil : Sml [] := fun x h => by cases h
theorem Sml.cons {x : Int} {w : List Int} (h : -2000000 ≤ x ∧ x ≤ 2000000) (k : Sml w) : Sml (x :: w) := fun y hy => by
  rcases List.mem_cons.1 hy with rfl | hy
  · exact h
  · exact k y hy
theorem Sml.app {a b : List Int} (h : Sml a) (k : Sml b) : Sml (a ++ b) := fun y hy => by
  rcases List.mem_append.1 hy with hy | hy
  · exact h y hy
  · exact k y hy
theorem Sml.fm {α : Type} {w : α → List Int} : ∀ {l : List α}, (∀ x, x ∈ l → Sml (w x)) → Sml (fmW w l)
  | [], _ => Sml.nil
  | x :: l, h => (h x (by simp)).app (Sml.fm (fun y hy => h y (by simp [hy])))
/-- The other numbers stay, and the cost is at most c. -/
structure Ct1 (s s' : Ms) (c : Nat) : Prop where
  t : s'.t ≤ s.t + c
  site : s.site ≤ s'.site
  left : s'.left = s.left
  loop : s'.loop = s.loop
  done : s'.done = s.done
theorem Ct1.trans {a b c : Ms} {m n : Nat} (h : Ct1 a b m) (k : Ct1 b c n) : Ct1 a c (m + n) :=
  ⟨by have := h.t; have := k.t; omega, Nat.le_trans h.site k.site, k.left.trans h.left, k.loop.trans h.loop, k.done.trans h.done⟩
theorem Ct1.mono {a b : Ms} {m n : Nat} (h : Ct1 a b m) (k : m ≤ n) : Ct1 a b n := ⟨Nat.le_trans h.t (by omega), h.site, h.left, h.loop, h.done⟩
section
variable {E : Ev}
theorem gN_ct (n : Nat) (s : Ms) : Ct1 s (gN E n s).2 1 := ⟨by simp only [gN, Ms.t]; omega, Nat.le_refl _, rfl, rfl, rfl⟩
theorem gN_lt {n : Nat} (s : Ms) (h : 0 < n) : (gN E n s).1 < n := by
  unfold gN; dsimp only; split
  · exact Nat.mod_lt _ h
  · exact h
theorem gS_ct (s : Ms) : Ct1 s (gS s).2 1 := ⟨by simp only [gS, Ms.t]; omega, Nat.le_succ _, rfl, rfl, rfl⟩
theorem gT_ct (s : Ms) : Ct1 s (gT E s).2 1 := by unfold gT; dsimp only; exact gN_ct _ s
theorem gT_lt (ok : E.ok) (s : Ms) : (gT E s).1 < 100 := by
  have h1 := ok.vars
  have := gN_lt (E := E) (n := E.D.vars.toNat - E.D.params.length) s (by omega)
  unfold gT; dsimp only; omega
def eT : Nat → Nat
  | 0 => 2
  | d + 1 => 2 + 2 * eT d
theorem eT_ge : ∀ d, 2 ≤ eT d
  | 0 => Nat.le_refl _
  | d + 1 => by have := eT_ge d; simp only [eT]; omega
def eB : Nat → Nat
  | 0 => 4
  | d + 1 => 4 + 2 * eB d
theorem gE_ct : ∀ (d : Nat) (s : Ms), Ct1 s (gE E d s).2 (eT d)
  | 0, s => by unfold gE; dsimp only; exact (gN_ct 12 s).trans (gN_ct (E := E) 14 _)
  | d + 1, s => by
    have k := gN_ct (E := E) 12 s
    have h := eT_ge d
    unfold gE
    dsimp only
    split
    · have k2 := k.trans (gN_ct (E := E) 14 (gN E 12 s).2)
      exact k2.mono (by simp only [eT]; omega)
    · split
      · have k2 := k.trans (gN_ct (E := E) E.D.vars.toNat (gN E 12 s).2)
        exact k2.mono (by simp only [eT]; omega)
      · split
        · have k2 := k.trans (gN_ct (E := E) E.D.arrays.length (gN E 12 s).2)
          exact k2.mono (by simp only [eT]; omega)
        · have k2 := k.trans (gN_ct (E := E) 7 (gN E 12 s).2)
          have k3 := (k2.trans (gE_ct d _)).trans (gE_ct d _)
          exact k3.mono (by simp only [eT]; omega)
theorem sml_num {v : Int} (h : -1000 ≤ v ∧ v ≤ 1000) : Sml (numE v).w := by
  simp only [Ex.w, exW, List.length_nil]
  exact .cons (by omega) (.cons (by omega) (.cons (by omega) (.cons (by simp) .nil)))
theorem gE_w (ok : E.ok) : ∀ (d : Nat) (s : Ms), (gE E d s).1.w.length ≤ eB d ∧ Sml (gE E d s).1.w
  | 0, s => by
    have k := gN_lt (E := E) (n := 14) (gN E 12 s).2 (by decide)
    refine ⟨by simp [gE, Ex.w, exW, eB], ?_⟩
    unfold gE
    dsimp only
    exact sml_num (by omega)
  | d + 1, s => by
    unfold gE
    dsimp only
    split
    · have k := gN_lt (E := E) (n := 14) (gN E 12 s).2 (by decide)
      exact ⟨by simp [Ex.w, exW, eB], sml_num (by omega)⟩
    · split
      · have h1 := ok.vars
        have k := gN_lt (E := E) (n := E.D.vars.toNat) (gN E 12 s).2 (by omega)
        refine ⟨by simp [Ex.w, exW, eB], ?_⟩
        simp only [Ex.w, exW, List.length_nil]
        exact .cons (by omega) (.cons (by omega) (.cons (by omega) (.cons (by simp) .nil)))
      · split
        · have h1 := ok.arr
          have k := gN_lt (E := E) (n := E.D.arrays.length) (gN E 12 s).2 (by omega)
          refine ⟨by simp [Ex.w, exW, eB], ?_⟩
          simp only [Ex.w, exW, List.length_nil]
          exact .cons (by omega) (.cons (by omega) (.cons (by omega) (.cons (by simp) .nil)))
        · have k := gN_lt (E := E) (n := 7) (gN E 12 s).2 (by decide)
          obtain ⟨a1, a2⟩ := gE_w ok d (gN E 7 (gN E 12 s).2).2
          obtain ⟨b1, b2⟩ := gE_w ok d (gE E d (gN E 7 (gN E 12 s).2).2).2
          refine ⟨by simp only [Ex.w, exW, eB, List.length_cons, List.length_append, List.length_nil]; omega, ?_⟩
          simp only [Ex.w, exW, List.length_cons, List.length_nil, List.append_nil]
          exact .cons (by omega) (.cons (by omega) (.cons (by omega) (.cons (by simp) (a2.app b2))))
def cT : Nat → Nat
  | 0 => 13
  | d + 1 => 2 + 2 * cT d
def cB : Nat → Nat
  | 0 => 27
  | d + 1 => 3 + 2 * cB d
theorem cT_ge : ∀ d, 13 ≤ cT d
  | 0 => Nat.le_refl _
  | d + 1 => by have := cT_ge d; simp only [cT]; omega
theorem cB_ge : ∀ d, 27 ≤ cB d
  | 0 => Nat.le_refl _
  | d + 1 => by have := cB_ge d; simp only [cB]; omega
theorem gTest_ct (k : Nat) (s : Ms) : Ct1 s (gTest E k s).2 12 := by unfold gTest; dsimp only; exact Ct1.mono ((gE_ct 1 s).trans (gE_ct 1 _)) (by decide)
theorem gC_ct : ∀ (d : Nat) (s : Ms), Ct1 s (gC E d s).2 (cT d)
  | 0, s => by unfold gC; dsimp only; exact (gN_ct 8 s).trans (gTest_ct _ _)
  | d + 1, s => by
    have k := gN_ct (E := E) 8 s
    have h := cT_ge d
    unfold gC
    dsimp only
    split
    · exact Ct1.mono (k.trans (gTest_ct _ _)) (by simp only [cT]; omega)
    · split
      · exact Ct1.mono (k.trans (gC_ct d _)) (by simp only [cT]; omega)
      · exact Ct1.mono (((k.trans (gC_ct d _)).trans (gN_ct 2 _)).trans (gC_ct d _)) (by simp only [cT]; omega)
theorem gTest_w (ok : E.ok) (k : Nat) (s : Ms) : (gTest E k s).1.w.length ≤ 27 ∧ Sml (gTest E k s).1.w := by
  obtain ⟨a1, a2⟩ := gE_w ok 1 s
  obtain ⟨b1, b2⟩ := gE_w ok 1 (gE E 1 s).2
  have : eB 1 = 12 := rfl
  unfold gTest
  dsimp only
  refine ⟨by simp only [Co.w, exW, coW, List.length_cons, List.length_append, List.length_nil]; omega, ?_⟩
  simp only [Co.w, exW, coW, List.length_cons, List.length_nil, List.append_nil]
  exact .cons (by omega) (.cons (by simp) ((a2.app b2).app (.cons (by simp) .nil)))
theorem gC_w (ok : E.ok) : ∀ (d : Nat) (s : Ms), (gC E d s).1.w.length ≤ cB d ∧ Sml (gC E d s).1.w
  | 0, s => by unfold gC; dsimp only; exact gTest_w ok _ _
  | d + 1, s => by
    have h := cB_ge d
    unfold gC
    dsimp only
    split
    · obtain ⟨a1, a2⟩ := gTest_w ok (gN E 8 s).1 (gN E 8 s).2
      exact ⟨by simp only [cB]; omega, a2⟩
    · split
      · obtain ⟨a1, a2⟩ := gC_w ok d (gN E 8 s).2
        refine ⟨by simp only [Co.w, exW, coW, cB, List.length_cons, List.length_append, List.length_nil]; omega, ?_⟩
        simp only [Co.w, exW, coW, List.length_cons, List.length_nil, List.append_nil, List.nil_append]
        exact .cons (by omega) (.cons (by simp) (.cons (by simp) a2))
      · obtain ⟨a1, a2⟩ := gC_w ok d (gN E 8 s).2
        have k := gN_lt (E := E) (n := 2) (gC E d (gN E 8 s).2).2 (by decide)
        obtain ⟨b1, b2⟩ := gC_w ok d (gN E 2 (gC E d (gN E 8 s).2).2).2
        refine ⟨by simp only [Co.w, exW, coW, cB, List.length_cons, List.length_append, List.length_nil]; omega, ?_⟩
        simp only [Co.w, exW, coW, List.length_cons, List.length_nil, List.append_nil, List.nil_append]
        exact .cons (by omega) (.cons (by simp) (.cons (by simp) (a2.app b2)))
end
end Go.Proofs.YtifeioddiddnoaaGreatDoor
namespace Go.Proofs.YtifeioddiddnoaaGreatDoor
section
variable {E : Ev}
theorem zE_w : zE.w = [0, 0, 0, 0] := rfl
theorem zC_w : zC.w = [0, 0, 0] := rfl
/-- A statement's words, where it has no lists. -/
theorem stm_w (i op n m v : Int) (x y : Ex) (c : Co) : (stm i op n m v x y c).w = i :: op :: n :: m :: v :: (x.w ++ (y.w ++ (c.w ++ [0, 0, 0, 0]))) := by
  simp [Sm.w, exW, smW]
theorem stm_len (i op n m v : Int) (x y : Ex) (c : Co) : (stm i op n m v x y c).w.length = 9 + x.w.length + y.w.length + c.w.length := by
  rw [stm_w]; simp only [List.length_cons, List.length_append, List.length_nil]; omega
theorem stm_sml {i op n m v : Int} {x y : Ex} {c : Co} (hi : -2000000 ≤ i ∧ i ≤ 2000000) (ho : -2000000 ≤ op ∧ op ≤ 2000000) (hn : -2000000 ≤ n ∧ n ≤ 2000000) (hm : -2000000 ≤ m ∧ m ≤ 2000000) (hv : -2000000 ≤ v ∧ v ≤ 2000000) (hx : Sml x.w) (hy : Sml y.w) (hc : Sml c.w) :
    Sml (stm i op n m v x y c).w := by
  rw [stm_w]
  exact .cons hi (.cons ho (.cons hn (.cons hm (.cons hv (hx.app (hy.app (hc.app (.cons (by omega) (.cons (by omega) (.cons (by omega) (.cons (by omega) .nil)))))))))))
theorem zE_sml : Sml zE.w := .cons (by omega) (.cons (by omega) (.cons (by omega) (.cons (by simp) .nil)))
theorem zC_sml : Sml zC.w := .cons (by omega) (.cons (by simp) (.cons (by simp) .nil))
theorem num_sml (n : Nat) (h : n < 1000) : Sml (numE n).w := sml_num ⟨by omega, by omega⟩
theorem num_len (v : Int) : (numE v).w.length = 4 := by simp [Ex.w, exW]
theorem eB1 : eB 1 = 12 := rfl
theorem eB2 : eB 2 = 28 := rfl
theorem cB1 : cB 1 = 57 := rfl
/-- The words of statements. -/
def Wd (l : List Sm) (n : Nat) : Prop := (fmW Sm.w l).length ≤ n ∧ Sml (fmW Sm.w l)
theorem Wd.nil : Wd [] 0 := ⟨Nat.le_refl _, Sml.nil⟩
theorem Wd.one {s : Sm} {n : Nat} (h : s.w.length ≤ n) (k : Sml s.w) : Wd [s] n := by
  refine ⟨by simpa [fmW] using h, ?_⟩
  simpa [fmW] using k
theorem fmW_ap {α : Type} (f : α → List Int) : ∀ a b : List α, fmW f (a ++ b) = fmW f a ++ fmW f b
  | [], b => rfl
  | x :: a, b => by rw [List.cons_append, fmW, fmW, fmW_ap f a b, List.append_assoc]
theorem Wd.app {a b : List Sm} {m n : Nat} (h : Wd a m) (k : Wd b n) : Wd (a ++ b) (m + n) := by
  unfold Wd
  rw [fmW_ap]
  exact ⟨by rw [List.length_append]; have := h.1; have := k.1; omega, h.2.app k.2⟩
theorem Wd.mono {a : List Sm} {m n : Nat} (h : Wd a m) (k : m ≤ n) : Wd a n := ⟨Nat.le_trans h.1 k, h.2⟩
theorem Wd.three {a b c : Sm} {l m n : Nat} (h : Wd [a] l) (k : Wd [b] m) (j : Wd [c] n) : Wd [a, b, c] (l + (m + n)) := h.app (k.app j)
theorem one_stm {i op n m v : Int} {x y : Ex} {c : Co} {a b d : Nat} (hi : -2000000 ≤ i ∧ i ≤ 2000000) (ho : -2000000 ≤ op ∧ op ≤ 2000000) (hn : -2000000 ≤ n ∧ n ≤ 2000000) (hm : -2000000 ≤ m ∧ m ≤ 2000000) (hv : -2000000 ≤ v ∧ v ≤ 2000000)
    (hx : x.w.length ≤ a ∧ Sml x.w) (hy : y.w.length ≤ b ∧ Sml y.w) (hc : c.w.length ≤ d ∧ Sml c.w) : (stm i op n m v x y c).w.length ≤ 9 + a + b + d ∧ Sml (stm i op n m v x y c).w :=
  ⟨by rw [stm_len]; have := hx.1; have := hy.1; have := hc.1; omega, stm_sml hi ho hn hm hv hx.2 hy.2 hc.2⟩
theorem xz : zE.w.length ≤ 4 ∧ Sml zE.w := ⟨Nat.le_refl _, zE_sml⟩
theorem xc : zC.w.length ≤ 3 ∧ Sml zC.w := ⟨Nat.le_refl _, zC_sml⟩
theorem xn (n : Nat) (h : n < 1000) : (numE n).w.length ≤ 4 ∧ Sml (numE n).w := ⟨Nat.le_of_eq (num_len _), num_sml n h⟩
theorem gSk_ct : ∀ (i k : Nat) (s : Ms), Ct1 s (gSk E i k s).2 18
  | i, 0, s => by
    have h := (gT_ct (E := E) s).trans (gN_ct (E := E) 4 (gT E s).2)
    exact h.mono (by decide)
  | i, 1, s => by
    have h := (gN_ct (E := E) 4 s).trans (gE_ct (E := E) 2 (gN E 4 s).2)
    exact h.mono (by decide)
  | i, 2, s => by
    have h := (gT_ct (E := E) s).trans (gN_ct (E := E) 2 (gT E s).2)
    exact h.mono (by decide)
  | i, 3, s => by
    have h := (gT_ct (E := E) s).trans (gN_ct (E := E) 2 (gT E s).2)
    exact h.mono (by decide)
  | i, 4, s => by
    have h := (((gN_ct (E := E) 3 s).trans (gS_ct _)).trans (gN_ct (E := E) 9 _)).trans (gS_ct _)
    exact h.mono (by decide)
  | i, 5, s => by
    have h := ((gS_ct s).trans (gE_ct (E := E) 1 _)).trans (gS_ct _)
    exact h.mono (by decide)
  | i, k + 6, s => by
    have h := (gT_ct (E := E) s).trans (gE_ct (E := E) 2 (gT E s).2)
    exact h.mono (by decide)
theorem gSk_w (ok : E.ok) : ∀ (i k : Nat) (s : Ms), i ≤ 1100000 → s.t ≤ 1000000 → Wd (gSk E i k s).1 80
  | i, 0, s, hi, hs => by
    have h1 := gT_lt ok s
    have h2 := gN_lt (E := E) (n := 4) (gT E s).2 (by decide)
    have h := one_stm (i := i) (op := 2) (n := (gT E s).1) (m := 0) (v := 0) (by omega) (by omega) (by omega) (by omega) (by omega) (xn (gN E 4 (gT E s).2).1 (by omega)) xz xc
    exact (Wd.one h.1 h.2).mono (by decide)
  | i, 1, s, hi, hs => by
    have h2 := gN_lt (E := E) (n := 4) s (by decide)
    have h := one_stm (i := i) (op := 3) (n := 0) (m := 0) (v := 0) (by omega) (by omega) (by omega) (by omega) (by omega) (xn (gN E 4 s).1 (by omega)) (gE_w ok 2 (gN E 4 s).2) xc
    exact (Wd.one h.1 h.2).mono (by decide)
  | i, 2, s, hi, hs => by
    have h1 := gT_lt ok s
    have h2 := gN_lt (E := E) (n := 2) (gT E s).2 (by decide)
    have h := one_stm (i := i) (op := 4) (n := (gT E s).1) (m := (gN E 2 (gT E s).2).1) (v := 0) (by omega) (by omega) (by omega) (by omega) (by omega) xz xz xc
    exact (Wd.one h.1 h.2).mono (by decide)
  | i, 3, s, hi, hs => by
    have h1 := gT_lt ok s
    have h2 := gN_lt (E := E) (n := 2) (gT E s).2 (by decide)
    have h := one_stm (i := i) (op := 20) (n := (gT E s).1) (m := (gN E 2 (gT E s).2).1) (v := 0) (by omega) (by omega) (by omega) (by omega) (by omega) xz xz xc
    exact (Wd.one h.1 h.2).mono (by decide)
  | i, 4, s, hi, hs => by
    have h1 := gN_lt (E := E) (n := 3) s (by decide)
    have h2 := gN_lt (E := E) (n := 9) (gS (gN E 3 s).2).2 (by decide)
    have e1 := (gN_ct (E := E) 3 s).t
    have e2 := (gS_ct (gN E 3 s).2).t
    have e3 := (gN_ct (E := E) 9 (gS (gN E 3 s).2).2).t
    have f1 : (gS (gN E 3 s).2).1 ≤ 1000002 := by show (gN E 3 s).2.site + 1 ≤ _; unfold Ms.t at e1 hs; omega
    have f2 : (gS (gN E 9 (gS (gN E 3 s).2).2).2).1 ≤ 1000004 := by show (gN E 9 (gS (gN E 3 s).2).2).2.site + 1 ≤ _; unfold Ms.t at e1 e2 e3 hs; omega
    have a := one_stm (i := i) (op := 16) (n := 0) (m := (gN E 3 s).1) (v := 0) (by omega) (by omega) (by omega) (by omega) (by omega) xz xz xc
    have b := one_stm (i := (gS (gN E 3 s).2).1) (op := 5) (n := 0) (m := 0) (v := 0) (by omega) (by omega) (by omega) (by omega) (by omega) (xn (gN E 9 (gS (gN E 3 s).2).2).1 (by omega)) xz xc
    have c := one_stm (i := (gS (gN E 9 (gS (gN E 3 s).2).2).2).1) (op := 17) (n := 0) (m := (gN E 3 s).1) (v := 0) (by omega) (by omega) (by omega) (by omega) (by omega) xz xz xc
    exact (Wd.three (Wd.one a.1 a.2) (Wd.one b.1 b.2) (Wd.one c.1 c.2)).mono (by decide)
  | i, 5, s, hi, hs => by
    have e1 := (gS_ct s).t
    have e2 := (gE_ct (E := E) 1 (gS s).2).t
    have f1 : (gS s).1 ≤ 1000002 := by show s.site + 1 ≤ _; unfold Ms.t at hs; omega
    have f2 : (gS (gE E 1 (gS s).2).2).1 ≤ 1000020 := by show (gE E 1 (gS s).2).2.site + 1 ≤ _; have : eT 1 = 6 := rfl; unfold Ms.t at e1 e2 hs; omega
    have a := one_stm (i := i) (op := 6) (n := 1) (m := 0) (v := 0) (by omega) (by omega) (by omega) (by omega) (by omega) xz xz xc
    have b := one_stm (i := (gS s).1) (op := 9) (n := 1) (m := 0) (v := 0) (by omega) (by omega) (by omega) (by omega) (by omega) (gE_w ok 1 (gS s).2) xz xc
    have c := one_stm (i := (gS (gE E 1 (gS s).2).2).1) (op := 7) (n := 1) (m := 0) (v := 0) (by omega) (by omega) (by omega) (by omega) (by omega) xz xz xc
    exact (Wd.three (Wd.one a.1 a.2) (Wd.one b.1 b.2) (Wd.one c.1 c.2)).mono (by decide)
  | i, k + 6, s, hi, hs => by
    have h1 := gT_lt ok s
    have h := one_stm (i := i) (op := 1) (n := (gT E s).1) (m := 0) (v := 0) (by omega) (by omega) (by omega) (by omega) (by omega) (gE_w ok 2 (gT E s).2) xz xc
    exact (Wd.one h.1 h.2).mono (by decide)
theorem gSimple_ct (s : Ms) : Ct1 s (gSimple E s).2 20 := by
  have h := ((gS_ct s).trans (gN_ct (E := E) 8 (gS s).2)).trans (gSk_ct (E := E) (gS s).1 (gN E 8 (gS s).2).1 (gN E 8 (gS s).2).2)
  exact h.mono (by decide)
theorem gSimple_w (ok : E.ok) (s : Ms) (hs : s.t ≤ 900000) : Wd (gSimple E s).1 80 := by
  have e := ((gS_ct s).trans (gN_ct (E := E) 8 (gS s).2)).t
  exact gSk_w ok _ _ _ (by show s.site + 1 ≤ _; unfold Ms.t at hs; omega) (by omega)
theorem gArr_ct (i op : Nat) (s : Ms) : Ct1 s (gArr E i op s).2 30 := by
  have h := ((gT_ct (E := E) s).trans (gN_ct (E := E) E.D.arrays.length (gT E s).2)).trans (gE_ct (E := E) 1 _)
  exact h.mono (by decide)
theorem gArr_w (ok : E.ok) (i op : Nat) (s : Ms) (hi : i ≤ 1100000) (ho : op ≤ 100) : (gArr E i op s).1.w.length ≤ 80 ∧ Sml (gArr E i op s).1.w := by
  have h1 := gT_lt ok s
  have ha := ok.arr
  have h2 := gN_lt (E := E) (n := E.D.arrays.length) (gT E s).2 (by omega)
  have h := one_stm (i := i) (op := op) (n := (gT E s).1) (m := (gN E E.D.arrays.length (gT E s).2).1) (v := 0) (by omega) (by omega) (by omega) (by omega) (by omega) (gE_w ok 1 (gN E E.D.arrays.length (gT E s).2).2) xz xc
  exact ⟨Nat.le_trans h.1 (by decide), h.2⟩
theorem gRk_ct : ∀ (i k : Nat) (s : Ms), Ct1 s (gRk E i k s).2 30
  | i, 0, s => gArr_ct i 2 s
  | i, 1, s => gArr_ct i 2 s
  | i, 2, s => by
    have h := ((gN_ct (E := E) E.D.arrays.length s).trans (gE_ct (E := E) 1 _)).trans (gE_ct (E := E) 1 _)
    exact h.mono (by decide)
  | i, 3, s => by
    have h := (gN_ct (E := E) 2 s).trans (gE_ct (E := E) 1 _)
    exact h.mono (by decide)
  | i, 4, s => (gN_ct (E := E) 2 s).mono (by decide)
  | i, 5, s => (gN_ct (E := E) 2 s).mono (by decide)
  | i, 6, s => by
    have h := (gN_ct (E := E) 2 s).trans (gN_ct (E := E) 2 _)
    exact h.mono (by decide)
  | i, 7, s => by
    have h := (gT_ct (E := E) s).trans (gN_ct (E := E) 2 _)
    exact h.mono (by decide)
  | i, 8, s => by
    have h := (gN_ct (E := E) 2 s).trans (gN_ct (E := E) 3 _)
    exact h.mono (by decide)
  | i, 9, s => (gE_ct (E := E) 1 s).mono (by decide)
  | i, 10, s => (gT_ct (E := E) s).mono (by decide)
  | i, 11, s => by
    have h := (gN_ct (E := E) 3 s).trans (gE_ct (E := E) 1 _)
    exact h.mono (by decide)
  | i, 12, s => (gN_ct (E := E) 3 s).mono (by decide)
  | i, 13, s => (gC_ct (E := E) 1 s).mono (by decide)
  | i, k + 14, s => by
    have h := (gN_ct (E := E) 2 s).trans (gE_ct (E := E) 1 _)
    exact h.mono (by decide)
theorem gRk_w (ok : E.ok) : ∀ (i k : Nat) (s : Ms), i ≤ 1100000 → (gRk E i k s).1.w.length ≤ 80 ∧ Sml (gRk E i k s).1.w
  | i, 0, s, hi => gArr_w ok i 2 s hi (by decide)
  | i, 1, s, hi => gArr_w ok i 2 s hi (by decide)
  | i, 2, s, hi => by
    have ha := ok.arr
    have h2 := gN_lt (E := E) (n := E.D.arrays.length) s (by omega)
    have h := one_stm (i := i) (op := 3) (n := 0) (m := (gN E E.D.arrays.length s).1) (v := 0) (by omega) (by omega) (by omega) (by omega) (by omega) (gE_w ok 1 (gN E E.D.arrays.length s).2) (gE_w ok 1 (gE E 1 (gN E E.D.arrays.length s).2).2) xc
    exact ⟨Nat.le_trans h.1 (by decide), h.2⟩
  | i, 3, s, hi => by
    have h2 := gN_lt (E := E) (n := 2) s (by decide)
    have h := one_stm (i := i) (op := 5) (n := 0) (m := (gN E 2 s).1) (v := 0) (by omega) (by omega) (by omega) (by omega) (by omega) (gE_w ok 1 (gN E 2 s).2) xz xc
    exact ⟨Nat.le_trans h.1 (by decide), h.2⟩
  | i, 4, s, hi => by
    have h2 := gN_lt (E := E) (n := 2) s (by decide)
    have h := one_stm (i := i) (op := 6) (n := (gN E 2 s).1) (m := 0) (v := 0) (by omega) (by omega) (by omega) (by omega) (by omega) xz xz xc
    exact ⟨Nat.le_trans h.1 (by decide), h.2⟩
  | i, 5, s, hi => by
    have h2 := gN_lt (E := E) (n := 2) s (by decide)
    have h := one_stm (i := i) (op := 7) (n := (gN E 2 s).1) (m := 0) (v := 0) (by omega) (by omega) (by omega) (by omega) (by omega) xz xz xc
    exact ⟨Nat.le_trans h.1 (by decide), h.2⟩
  | i, 6, s, hi => by
    have h1 := gN_lt (E := E) (n := 2) s (by decide)
    have h2 := gN_lt (E := E) (n := 2) (gN E 2 s).2 (by decide)
    have h := one_stm (i := i) (op := 8) (n := (gN E 2 s).1) (m := (gN E 2 (gN E 2 s).2).1) (v := 0) (by omega) (by omega) (by omega) (by omega) (by omega) xz xz xc
    exact ⟨Nat.le_trans h.1 (by decide), h.2⟩
  | i, 7, s, hi => by
    have h1 := gT_lt ok s
    have h2 := gN_lt (E := E) (n := 2) (gT E s).2 (by decide)
    have h := one_stm (i := i) (op := 10) (n := (gT E s).1) (m := (gN E 2 (gT E s).2).1) (v := 0) (by omega) (by omega) (by omega) (by omega) (by omega) xz xz xc
    exact ⟨Nat.le_trans h.1 (by decide), h.2⟩
  | i, 8, s, hi => by
    have h1 := gN_lt (E := E) (n := 2) s (by decide)
    have h2 := gN_lt (E := E) (n := 3) (gN E 2 s).2 (by decide)
    have h := one_stm (i := i) (op := 16 + (gN E 2 s).1) (n := 0) (m := (gN E 3 (gN E 2 s).2).1) (v := 0) (by omega) (by omega) (by omega) (by omega) (by omega) xz xz xc
    exact ⟨Nat.le_trans h.1 (by decide), h.2⟩
  | i, 9, s, hi => by
    have h := one_stm (i := i) (op := 18) (n := 0) (m := 0) (v := 0) (by omega) (by omega) (by omega) (by omega) (by omega) (gE_w ok 1 s) xz xc
    exact ⟨Nat.le_trans h.1 (by decide), h.2⟩
  | i, 10, s, hi => by
    have h1 := gT_lt ok s
    have h := one_stm (i := i) (op := 19) (n := (gT E s).1) (m := 0) (v := 0) (by omega) (by omega) (by omega) (by omega) (by omega) xz xz xc
    exact ⟨Nat.le_trans h.1 (by decide), h.2⟩
  | i, 11, s, hi => by
    have h2 := gN_lt (E := E) (n := 3) s (by decide)
    have h := one_stm (i := i) (op := 21) (n := 0) (m := (gN E 3 s).1) (v := 0) (by omega) (by omega) (by omega) (by omega) (by omega) (gE_w ok 1 (gN E 3 s).2) xz xc
    exact ⟨Nat.le_trans h.1 (by decide), h.2⟩
  | i, 12, s, hi => by
    have h2 := gN_lt (E := E) (n := 3) s (by decide)
    have h := one_stm (i := i) (op := 22) (n := 0) (m := (gN E 3 s).1) (v := 0) (by omega) (by omega) (by omega) (by omega) (by omega) xz xz xc
    exact ⟨Nat.le_trans h.1 (by decide), h.2⟩
  | i, 13, s, hi => by
    have h := one_stm (i := i) (op := 23) (n := 0) (m := 0) (v := 0) (by omega) (by omega) (by omega) (by omega) (by omega) xz xz (gC_w ok 1 s)
    exact ⟨Nat.le_trans h.1 (by decide), h.2⟩
  | i, k + 14, s, hi => by
    have h2 := gN_lt (E := E) (n := 2) s (by decide)
    have h := one_stm (i := i) (op := 9) (n := (gN E 2 s).1) (m := 0) (v := 0) (by omega) (by omega) (by omega) (by omega) (by omega) (gE_w ok 1 (gN E 2 s).2) xz xc
    exact ⟨Nat.le_trans h.1 (by decide), h.2⟩
theorem gRisky_ct (s : Ms) : Ct1 s (gRisky E s).2 32 := by
  have h := ((gS_ct s).trans (gN_ct (E := E) 15 (gS s).2)).trans (gRk_ct (E := E) (gS s).1 (gN E 15 (gS s).2).1 (gN E 15 (gS s).2).2)
  exact h.mono (by decide)
theorem gRisky_w (ok : E.ok) (s : Ms) (hs : s.t ≤ 900000) : (gRisky E s).1.w.length ≤ 80 ∧ Sml (gRisky E s).1.w :=
  gRk_w ok _ _ _ (by show s.site + 1 ≤ _; unfold Ms.t at hs; omega)
end
end Go.Proofs.YtifeioddiddnoaaGreatDoor
