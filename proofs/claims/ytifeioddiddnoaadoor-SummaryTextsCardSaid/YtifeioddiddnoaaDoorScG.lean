/- Pairs in an own object: loads, stores, and the insertion sort. No conditions. -/
import Derived.Test.YtifeioddiddnoaaDoorScD
import Derived.Test.YtifeioddiddnoaaDoorAbsE
set_option linter.unusedVariables false
set_option linter.unusedSimpArgs false
namespace Go.Proofs.YtifeioddiddnoaaDoor
open Go.Abs Go Go.RowKit
set_option maxRecDepth 20000
theorem at_3 (n : Nat) : 0 + iNat (n : Int) * 3 = n * 3 := by show 0 + n * 3 = n * 3; omega
theorem at_31 (n : Nat) : 0 + iNat ((n : Int) + 1) * 3 = (n + 1) * 3 := by show 0 + (n + 1) * 3 = (n + 1) * 3; omega
theorem stO_app : ∀ (p : List A) (u v r : List A), u.length = v.length → stO (p ++ (u ++ r)) p.length v = some (p ++ (v ++ r))
  | [], [], [], r, _ => by simp [stO]
  | [], x :: u, y :: v, r, h => by
    have := stO_app [] u v r (by simpa using h)
    simp only [List.nil_append, List.length_nil] at this
    simp only [List.nil_append, List.cons_append, List.length_nil, stO, this]
  | [], [], y :: v, r, h => by simp at h
  | [], x :: u, [], r, h => by simp at h
  | a :: p, u, v, r, h => by
    have := stO_app p u v r h
    cases v with
    | nil => simp only [List.cons_append, List.length_cons, stO, this]
    | cons y v => simp only [List.cons_append, List.length_cons, stO, this]
theorem ldF {t : TypeId} {k3 : TK} {bs : Nat} {z : List A} (ht : Abs.look tyL t = some ⟨k3, 3, bs, true, z⟩) {h : Nat → Reg} {k off : Nat} {M p q : List Pr} {x : Pr} (hk : h k = .one (flC Pr.cl M)) (hM : M = p ++ x :: q) (ho : off = p.length * 3) : ldA tyL t (.ptr k [] off) h = some (.agg x.cl, [k]) := by
  subst ho
  have h1 : M[p.length]? = some x := by rw [hM]; simp
  have hd := flC_at Pr.cl_len M p.length x h1
  obtain ⟨a, b, c⟩ := x
  simp only [Pr.cl, List.cons_append, List.nil_append] at hd
  simp only [ldA, ht, hk, Reg.get, hd, ldO, packA]
  rfl
theorem stF {t : TypeId} {k3 : TK} {bs : Nat} {g : Bool} {z : List A} (ht : Abs.look tyL t = some ⟨k3, 3, bs, g, z⟩) {h : Nat → Reg} {k off : Nat} {M p q : List Pr} {x y : Pr} (hk : h k = .one (flC Pr.cl M)) (hM : M = p ++ x :: q) (ho : off = p.length * 3) : stA tyL t (.ptr k [] off) (.agg y.cl) h = some (k, [], flC Pr.cl (p ++ y :: q)) := by
  subst ho hM
  have hl : (flC Pr.cl p).length = p.length * 3 := flC_len Pr.cl_len p
  have h1 := stO_app (flC Pr.cl p) x.cl y.cl (flC Pr.cl q) rfl
  rw [hl] at h1
  have e : flC Pr.cl (p ++ x :: q) = flC Pr.cl p ++ (x.cl ++ flC Pr.cl q) := by rw [flP_app]; rfl
  have e2 : flC Pr.cl (p ++ y :: q) = flC Pr.cl p ++ (y.cl ++ flC Pr.cl q) := by rw [flP_app]; rfl
  rw [e2]
  have hc : cellsA (.agg y.cl) = some y.cl := rfl
  simp only [stA, ht, hc, hk, Reg.get, e, h1]
  rfl
theorem insR_len (x : Pr) : ∀ l : List Pr, (insR x l).length = l.length + 1
  | [] => rfl
  | y :: l => by
    unfold insR; split
    · rw [List.length_cons, insR_len x l, List.length_cons]
    · rfl
theorem insR_mem (x z : Pr) : ∀ l : List Pr, z ∈ insR x l → z = x ∨ z ∈ l
  | [], h => by simpa [insR] using h
  | y :: l, h => by
    unfold insR at h; split at h
    · rcases List.mem_cons.1 h with h | h
      · exact .inr (by simp [h])
      · rcases insR_mem x z l h with h | h
        · exact .inl h
        · exact .inr (by simp [h])
    · simpa using h
def sorted (l : List Pr) (i : Nat) : List Pr := (l.take i).foldl (fun acc x => insR x acc) []
theorem sorted_s {l : List Pr} {i : Nat} {x : Pr} (h : l[i]? = some x) : sorted l (i + 1) = insR x (sorted l i) := by
  unfold sorted
  rw [List.take_add_one, h, List.foldl_append]; rfl
theorem sorted_len (l : List Pr) : ∀ i, i ≤ l.length → (sorted l i).length = i
  | 0, _ => rfl
  | i + 1, h => by
    obtain ⟨x, hx⟩ : ∃ x, l[i]? = some x := ⟨_, List.getElem?_eq_getElem (by omega)⟩
    rw [sorted_s hx, insR_len, sorted_len l i (by omega)]
theorem sorted_mem (l : List Pr) (z : Pr) : ∀ i, i ≤ l.length → z ∈ sorted l i → z ∈ l
  | 0, _, h => by simp [sorted] at h
  | i + 1, hi, h => by
    obtain ⟨x, hx⟩ : ∃ x, l[i]? = some x := ⟨_, List.getElem?_eq_getElem (by omega)⟩
    rw [sorted_s hx] at h
    rcases insR_mem x z _ h with rfl | h
    · exact List.mem_of_getElem? hx
    · exact sorted_mem l z i (by omega) h
theorem sorted_1 (l : List Pr) : l = (sorted l 1).reverse ++ l.drop 1 := by cases l <;> rfl
theorem sorted_all (l : List Pr) : (sorted l l.length).reverse = isort l := by unfold sorted isort; rw [List.take_length]
end Go.Proofs.YtifeioddiddnoaaDoor
namespace Go.Proofs.YtifeioddiddnoaaDoor
open Go.Abs Go Go.RowKit
set_option maxRecDepth 20000
def cpR : Pr → List Pr → List Pr
  | _, [] => []
  | y, z :: l => if pcmp z y = 0 then cpR z l else z :: cpR z l
theorem pcmp_zero {x y : Pr} : pcmp x y = 0 ↔ x.a = y.a ∧ x.b = y.b := by
  unfold pcmp
  split
  · rename_i h; exact ⟨fun k => ⟨h, by omega⟩, fun k => by omega⟩
  · rename_i h; exact ⟨fun k => by omega, fun k => absurd k.1 h⟩
theorem cpR_congr {x y : Pr} (h : pcmp x y = 0) : ∀ l, cpR x l = cpR y l
  | [] => rfl
  | z :: l => by
    have e : pcmp z x = 0 ↔ pcmp z y = 0 := by
      rw [pcmp_zero] at h ⊢
      rw [pcmp_zero]
      rw [h.1, h.2]
    unfold cpR
    by_cases k : pcmp z x = 0
    · rw [if_pos k, if_pos (e.1 k)]
    · rw [if_neg k, if_neg (fun q => k (e.2 q))]
theorem cpG_eq : ∀ (l : List Pr) (x : Pr), cpG x l = x :: cpR x l
  | [], x => rfl
  | y :: l, x => by
    unfold cpG cpR
    by_cases k : pcmp y x = 0
    · rw [if_pos k, if_pos k, cpG_eq l x, cpR_congr k]
    · rw [if_neg k, if_neg k, cpG_eq l y]
theorem i64n {a : Int} {b : Nat} (h : a = (b : Int)) : some (i64 a) = some (i64 (b : Int)) := by rw [h]
end Go.Proofs.YtifeioddiddnoaaDoor
namespace Go.Proofs.YtifeioddiddnoaaDoor
open Go.Abs Go Go.RowKit
set_option maxRecDepth 20000
theorem Pr.cl_cell (x : Pr) : x.cl.all A.cell = true := rfl
end Go.Proofs.YtifeioddiddnoaaDoor
namespace Go.Proofs.YtifeioddiddnoaaDoor
open Go.Abs Go Go.RowKit
set_option maxRecDepth 20000
/-- What the program's sort and the like do to a list that is compacted: behind k elements there is what is left over. -/
def cpK (x : Pr) (l : List Pr) : List Pr := (cpG x l)
end Go.Proofs.YtifeioddiddnoaaDoor
