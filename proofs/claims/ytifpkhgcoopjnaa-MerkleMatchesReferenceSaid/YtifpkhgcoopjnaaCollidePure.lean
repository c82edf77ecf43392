/- Plain functions: the first two different pairs with one digest; two openings that are accepted. No conditions. -/
import Derived.Test.YtifpkhgcoopjnaaMerklePlain
namespace Go.Proofs.Ytifpkhgcoopjnaa
open Go.RowKit
namespace Mk
/-- The first place where two lists have different pairs with the same digest. -/
def firstHit : List (Int × Int) → List (Int × Int) → Option ((Int × Int) × (Int × Int))
  | p :: a, q :: b => if p ≠ q ∧ joinI p = joinI q then some (p, q) else firstHit a b
  | _, _ => none
theorem firstHit_spec : ∀ (a b : List (Int × Int)) (p q : Int × Int), firstHit a b = some (p, q) → p ≠ q ∧ joinI p = joinI q
  | x :: a, y :: b, p, q, h => by
    unfold firstHit at h
    split at h
    · rename_i hh; cases h; exact hh
    · exact firstHit_spec a b p q h
  | [], _, _, _, h => by simp [firstHit] at h
  | _ :: _, [], _, _, h => by simp [firstHit] at h
theorem firstHit_none (a : List (Int × Int)) : ∀ (b : List (Int × Int)), a.length = b.length → firstHit a b = none → ∀ k, k < a.length → joinI (a.getD k (0, 0)) = joinI (b.getD k (0, 0)) → a.getD k (0, 0) = b.getD k (0, 0) := by
  induction a with
  | nil => intro b _ _ k hk; simp at hk
  | cons x a ih =>
    intro b hl h k hk hj
    cases b with
    | nil => simp at hl
    | cons y b =>
      unfold firstHit at h
      split at h
      · cases h
      · rename_i hn
        cases k with
        | zero =>
          by_cases e : x = y
          · exact e
          · exact absurd ⟨e, hj⟩ hn
        | succ k =>
          rw [List.getD_cons_succ, List.getD_cons_succ] at hj ⊢
          exact ih b (by simpa using hl) h k (by simpa using hk) hj
theorem firstHit_self : ∀ (a : List (Int × Int)), firstHit a a = none
  | [] => rfl
  | x :: a => by
    unfold firstHit
    rw [if_neg (fun h => h.1 rfl)]
    exact firstHit_self a
theorem firstHit_drop (a b : List (Int × Int)) (k : Nat) (ha : k < a.length) (hb : k < b.length) : firstHit (a.drop k) (b.drop k) = if a.getD k (0, 0) ≠ b.getD k (0, 0) ∧ joinI (a.getD k (0, 0)) = joinI (b.getD k (0, 0)) then some (a.getD k (0, 0), b.getD k (0, 0)) else firstHit (a.drop (k + 1)) (b.drop (k + 1)) := by
  have h1 : a.drop k = a.getD k (0, 0) :: a.drop (k + 1) := by rw [List.drop_eq_getElem_cons ha]; simp [List.getD, ha]
  have h2 : b.drop k = b.getD k (0, 0) :: b.drop (k + 1) := by rw [List.drop_eq_getElem_cons hb]; simp [List.getD, hb]
  rw [h1, h2]
  rfl
def collideAt (n i : Nat) (l1 : Int) (ps1 : List Int) (l2 : Int) (ps2 : List Int) : Option ((Int × Int) × (Int × Int)) :=
  if ps1.length = (steps n i).length ∧ ps2.length = (steps n i).length then firstHit (pairs n i l1 ps1) (pairs n i l2 ps2) else none
def collide (n i l1 : Int) (ps1 : List Int) (l2 : Int) (ps2 : List Int) : Option ((Int × Int) × (Int × Int)) :=
  if place n i = 0 then collideAt n.toNat i.toNat l1 ps1 l2 ps2 else none
def hitV : Option ((Int × Int) × (Int × Int)) → Value
  | some (p, q) => .agg #[.int .u64 p.1, .int .u64 p.2, .int .u64 q.1, .int .u64 q.2]
  | none => .agg #[.int .u64 0, .int .u64 0, .int .u64 0, .int .u64 0]

theorem pairs_get (n i : Nat) (leaf : Int) (ps : List Int) (k : Nat) (hk : k < (steps n i).length) : (pairs n i leaf ps).getD (k + 1) (0, 0) = pairAt (steps n i) ps leaf k := by
  unfold pairs pairsTo
  rw [List.cons_append, List.getD_cons_succ, List.getD_eq_getElem?_getD, List.getElem?_append_left (by simpa using hk)]
  simp [hk]
theorem pairs_last (n i : Nat) (leaf : Int) (ps : List Int) : (pairs n i leaf ps).getD ((steps n i).length + 1) (0, 0) = ((n : Int), upAt (steps n i) ps leaf (steps n i).length) := by
  unfold pairs
  rw [List.getD_eq_getElem?_getD, List.getElem?_append_right (by rw [pairsTo_length]; exact Nat.le_refl _), pairsTo_length, Nat.sub_self]
  rfl
theorem pr_inj {s : Bool} {u u' p p' : Int} (h : pr s u p = pr s u' p') : u = u' ∧ p = p' := by
  cases s
  · exact ⟨(Prod.mk.injEq _ _ _ _ ▸ h : _ ∧ _).2, (Prod.mk.injEq _ _ _ _ ▸ h : _ ∧ _).1⟩
  · exact ⟨(Prod.mk.injEq _ _ _ _ ▸ h : _ ∧ _).1, (Prod.mk.injEq _ _ _ _ ▸ h : _ ∧ _).2⟩
/-- Two openings that are accepted for one root are equal, or there are two different pairs with one digest. -/
theorem binds {root : Int} {n i : Nat} {l1 l2 : Int} {ps1 ps2 : List Int} (h1 : checkAt root n i l1 ps1 = 0) (h2 : checkAt root n i l2 ps2 = 0) (hno : collideAt n i l1 ps1 l2 ps2 = none) : l1 = l2 ∧ ps1 = ps2 := by
  unfold checkAt at h1 h2
  split at h1
  · rename_i c1
    split at h2
    · rename_i c2
      unfold collideAt at hno
      rw [if_pos ⟨c1.1, c2.1⟩] at hno
      have key := firstHit_none _ _ (by rw [pairs_length, pairs_length]) hno
      have hlast := key ((steps n i).length + 1) (by rw [pairs_length]; omega)
      rw [pairs_last, pairs_last] at hlast
      have hup := (Prod.mk.inj (hlast (c1.2.trans c2.2.symm))).2
      have hdown : ∀ k, k ≤ (steps n i).length → upAt (steps n i) ps1 l1 ((steps n i).length - k) = upAt (steps n i) ps2 l2 ((steps n i).length - k) ∧ ∀ j, (steps n i).length - k ≤ j → j < (steps n i).length → ps1.getD j 0 = ps2.getD j 0 := by
        intro k
        induction k with
        | zero => intro _; exact ⟨hup, fun j h1 h2 => by omega⟩
        | succ k ih =>
          intro hk
          obtain ⟨hu, hp⟩ := ih (by omega)
          obtain ⟨m, hm⟩ : ∃ m, (steps n i).length - (k + 1) = m := ⟨_, rfl⟩
          have hm1 : (steps n i).length - k = m + 1 := by omega
          rw [hm1] at hu hp
          rw [hm]
          rw [upAt_succ, upAt_succ] at hu
          have hpair := key (m + 1) (by rw [pairs_length]; omega)
          rw [pairs_get _ _ _ _ _ (by omega), pairs_get _ _ _ _ _ (by omega)] at hpair
          have hpp := pr_inj (hpair hu)
          refine ⟨hpp.1, fun j hj1 hj2 => ?_⟩
          by_cases hj : j = m
          · subst hj; exact hpp.2
          · exact hp j (by omega) hj2
      obtain ⟨h0, hall⟩ := hdown (steps n i).length (Nat.le_refl _)
      rw [Nat.sub_self] at h0 hall
      have hfirst := key 0 (by rw [pairs_length]; omega)
      have hl := hfirst h0
      have hl' : ((0 : Int), l1) = (0, l2) := hl
      refine ⟨(Prod.mk.inj hl').2, ext_getD (c1.1.trans c2.1.symm) fun j hj => hall j (Nat.zero_le _) (by omega)⟩
    · cases h2
  · cases h1
theorem collide_self (n i l : Int) (ps : List Int) : collide n i l ps l ps = none := by
  unfold collide collideAt
  split
  · split
    · exact firstHit_self _
    · rfl
  · rfl
theorem collide_spec {n i l1 l2 : Int} {ps1 ps2 : List Int} {p q : Int × Int} (h : collide n i l1 ps1 l2 ps2 = some (p, q)) : p ≠ q ∧ joinI p = joinI q := by
  unfold collide collideAt at h
  split at h
  · split at h
    · exact firstHit_spec _ _ _ _ h
    · cases h
  · cases h
theorem collide_binds {root n i l1 l2 : Int} {ps1 ps2 : List Int} (h1 : check root n i l1 ps1 = 0) (h2 : check root n i l2 ps2 = 0) (hno : collide n i l1 ps1 l2 ps2 = none) : l1 = l2 ∧ ps1 = ps2 := by
  unfold check at h1 h2
  unfold collide at hno
  by_cases hp : place n i = 0
  · rw [if_pos hp] at h1 h2 hno
    exact binds h1 h2 hno
  · rw [if_neg hp] at h1
    exact absurd h1 hp
end Mk
end Go.Proofs.Ytifpkhgcoopjnaa
