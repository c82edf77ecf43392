/- Cells of trees, and laws on them. No conditions. -/
import Derived.Test.YtifeioddiddnoaaGreatDoorTab
import Derived.Test.YtifeioddiddnoaaGreatDoorEpA
import Derived.Test.YtifeioddiddnoaaGreatDoorAbsD
import Derived.Test.YtifeioddiddnoaaGreatDoorAbsE
set_option linter.unusedVariables false
set_option linter.unusedSimpArgs false
namespace Go.Abs
open Go.RowKit
theorem SubHr.putR {σ : Nat → Nat} {k : Nat} {c c' : List A} {h h' : Nat → Reg} (h1 : h' (σ k) = .one c') (hc : renPL (fun k p => (σ k, p)) c = c') (h2 : SubHr σ h h') : SubHr σ (hput k (.one c) h) h' := by
  intro j p c0 hj
  by_cases hk : j = k
  · subst hk
    rw [hput_same] at hj
    rw [h1]
    have e : c0 = c := by
      cases p with
      | nil => simpa [Reg.get] using hj.symm
      | cons _ _ => simp [Reg.get] at hj
    rw [e] at hj ⊢
    cases p with
    | nil => simp only [Reg.get]; rw [hc]
    | cons _ _ => simp [Reg.get] at hj
  · rw [hput_ne _ _ hk] at hj; exact h2 j p c0 hj
end Go.Abs
namespace Go.Proofs.YtifeioddiddnoaaGreatDoor
open Go.Abs Go Go.RowKit
abbrev i64 (n : Int) : A := .val (.int .i64 n)
abbrev ge : GI := GI.none
abbrev rdi (xs : List Int) : A := .ro xs.length (ints .i64 xs)
abbrev BW : Nat := 1099511627776
mutual
def Ex.cl : Ex → List A
  | .mk op n v a => [i64 op, i64 n, i64 v, .ro a.length (exC a)]
def exC : List Ex → List A
  | [] => []
  | x :: l => x.cl ++ exC l
end
mutual
def Co.cl : Co → List A
  | .mk op a c => [i64 op, .ro a.length (exC a), .ro c.length (coC c)]
def coC : List Co → List A
  | [] => []
  | x :: l => x.cl ++ coC l
end
def Rg.cl (r : Rg) : List A := [i64 r.lo, i64 r.hi, i64 r.mask]
def Ar.cl (r : Ar) : List A := [i64 r.len, i64 r.of]
mutual
def Sm.cl : Sm → List A
  | .mk site op n m v x y c args ptrs body els => i64 site :: i64 op :: i64 n :: i64 m :: i64 v :: (x.cl ++ (y.cl ++ (c.cl ++ [.ro args.length (exC args), rdi ptrs, .ro body.length (smC body), .ro els.length (smC els)])))
def smC : List Sm → List A
  | [] => []
  | x :: l => x.cl ++ smC l
end
theorem exC_eq : ∀ l, exC l = flC Ex.cl l
  | [] => by simp [exC, flC]
  | x :: l => by rw [exC, flC, exC_eq l]
theorem coC_eq : ∀ l, coC l = flC Co.cl l
  | [] => by simp [coC, flC]
  | x :: l => by rw [coC, flC, coC_eq l]
theorem smC_eq : ∀ l, smC l = flC Sm.cl l
  | [] => by simp [smC, flC]
  | x :: l => by rw [smC, flC, smC_eq l]
theorem Ex.cl_len : ∀ x : Ex, x.cl.length = 4
  | .mk _ _ _ _ => by simp [Ex.cl]
theorem Co.cl_len : ∀ x : Co, x.cl.length = 3
  | .mk _ _ _ => by simp [Co.cl]
theorem Sm.cl_len : ∀ x : Sm, x.cl.length = 20
  | .mk _ _ _ _ _ x y c _ _ _ _ => by simp [Sm.cl, Ex.cl_len, Co.cl_len]
theorem Rg.cl_len (x : Rg) : x.cl.length = 3 := rfl
theorem Ar.cl_len (x : Ar) : x.cl.length = 2 := rfl
theorem Ex.cl_free : ∀ x : Ex, ltL 0 x.cl = true
  | .mk _ _ _ _ => by simp [Ex.cl, ltL, A.lt]
theorem Co.cl_free : ∀ x : Co, ltL 0 x.cl = true
  | .mk _ _ _ => by simp [Co.cl, ltL, A.lt]
theorem Sm.cl_free : ∀ x : Sm, ltL 0 x.cl = true
  | .mk _ _ _ _ _ x y c _ _ _ _ => by
    rw [Sm.cl]
    simp only [ltL, A.lt, Bool.true_and]
    exact ltL_append (Ex.cl_free x) (ltL_append (Ex.cl_free y) (ltL_append (Co.cl_free c) rfl))
theorem Ex.cl_cell : ∀ x : Ex, x.cl.all A.cell = true
  | .mk _ _ _ _ => by simp [Ex.cl, A.cell, Value.oneCell']
theorem Co.cl_cell : ∀ x : Co, x.cl.all A.cell = true
  | .mk _ _ _ => by simp [Co.cl, A.cell, Value.oneCell']
theorem Sm.cl_cell : ∀ x : Sm, x.cl.all A.cell = true
  | .mk _ _ _ _ _ x y c _ _ _ _ => by
    rw [Sm.cl]
    simp only [List.all_cons, List.all_append, Ex.cl_cell x, Ex.cl_cell y, Co.cl_cell c, A.cell, Value.oneCell', Bool.true_and, List.all_nil]
theorem ints_append (k : IntKind) (a b : List Int) : ints k (a ++ b) = ints k a ++ ints k b := by simp [ints]
theorem ints_take (k : IntKind) (a : List Int) (n : Nat) (h : n = a.length) : (ints k a).take (n * 1) = ints k a := by
  rw [Nat.mul_one, h, List.take_of_length_le (by rw [ints_length]; exact Nat.le_refl _)]
theorem fmW_take {α : Type} (w : α → List Int) (l : List α) (i : Nat) (x : α) (h : l[i]? = some x) : fmW w (l.take (i + 1)) = fmW w (l.take i) ++ w x := by
  induction l generalizing i with
  | nil => simp at h
  | cons y l ih =>
    cases i with
    | zero => simp only [List.getElem?_cons_zero, Option.some.injEq] at h; subst h; simp [fmW]
    | succ i =>
      simp only [List.take_succ_cons, fmW]
      rw [ih i (by simpa using h), List.append_assoc]
theorem fmW_app {α : Type} (w : α → List Int) : ∀ l m : List α, fmW w (l ++ m) = fmW w l ++ fmW w m
  | [], m => rfl
  | x :: l, m => by rw [List.cons_append, fmW, fmW, fmW_app w l m, List.append_assoc]
theorem fmW_le {α : Type} (w : α → List Int) (l : List α) (i : Nat) : (fmW w (l.take i)).length ≤ (fmW w l).length := by
  have h := congrArg (fun x => (fmW w x).length) (List.take_append_drop i l)
  simp only [fmW_app, List.length_append] at h
  omega
def iw (x : Int) : List Int := [x]
def icl (x : Int) : List A := [i64 x]
def bcl (x : Int) : List A := [.val (.int .u8 x)]
theorem byt_unb (xs : List Int) (h : ∀ x, x ∈ xs → 0 ≤ x ∧ x ≤ 255) : byt (unb xs) = xs := by
  unfold byt unb
  simp only [List.toList_toArray, List.map_map]
  conv => rhs; rw [← List.map_id xs]
  apply List.map_congr_left
  intro x hx
  have := h x hx
  simp only [Function.comp, id]
  rw [show (UInt8.ofNat x.toNat).toNat = x.toNat % 256 from rfl]
  omega
def strA (s : ByteArray) : A := .val (.string s)
def Df.cl (d : Df) : List A := [i64 d.id, i64 d.site, strA (unb d.name), i64 d.firm, i64 d.part, .ro d.params.length (flC Rg.cl d.params), .ro d.given.length (flC Rg.cl d.given), i64 d.vars, i64 d.refs, .ro d.arrays.length (flC Ar.cl d.arrays), i64 d.budget, .ro d.body.length (flC Sm.cl d.body)]
theorem bcl_eq : ∀ l : List Int, flC bcl l = ints .u8 l
  | [] => rfl
  | x :: l => by rw [flC, bcl_eq l]; rfl
theorem icl_eq : ∀ l : List Int, flC icl l = ints .i64 l
  | [] => rfl
  | x :: l => by rw [flC, icl_eq l]; rfl
theorem ints_cut (xs : List Int) (i : Nat) (x : Int) (h : xs[i]? = some x) (k : IntKind) : dropO (iNat (i : Int) * 1) (ints k xs) = some (.val (.int k x) :: ints k (xs.drop (i + 1))) := by
  have hi := (List.getElem?_eq_some_iff.1 h).1
  have := Go.Abs.ints_at (k := k) hi
  rw [List.getD_eq_getElem?_getD, h] at this
  exact this
end Go.Proofs.YtifeioddiddnoaaGreatDoor
