/- Plain facts: lists, and bytes, that differ at one place have different digests. No conditions. -/
import Derived.Test.YtifpkhgcoopjnaaDigestLists
namespace Go.Proofs.Ytifpkhgcoopjnaa.Dg
open Go.RowKit

def fold (h : BitVec 64) (l : List Int) : BitVec 64 := l.foldl (fun h x => step h (B x)) h
theorem words_fold (l : List Int) : words l = fold (step 2611923443488327891#64 (B l.length)) l := rfl
theorem fold_append (h : BitVec 64) (l r : List Int) : fold h (l ++ r) = fold (fold h l) r := by simp [fold, List.foldl_append]
theorem fold_inj : ∀ (l : List Int) (h h' : BitVec 64), fold h l = fold h' l → h = h' := by
  intro l
  induction l with
  | nil => intro h h' e; exact e
  | cons x l ih => intro h h' e; exact step_inj' (ih _ _ e)
theorem split_at (l : List Int) (k : Nat) (hk : k < l.length) : l = l.take k ++ l.getD k 0 :: l.drop (k + 1) := by
  have h : l.getD k 0 = l[k] := by simp [List.getD, hk]
  rw [h, List.getElem_cons_drop, List.take_append_drop]
theorem set_split (l : List Int) (k : Nat) (v : Int) (hk : k < l.length) : l.set k v = l.take k ++ v :: l.drop (k + 1) := by
  rw [List.set_eq_take_append_cons_drop, if_pos hk]
theorem words_set (l : List Int) (k : Nat) (v : Int) (hk : k < l.length) : words l = words (l.set k v) ↔ B (l.getD k 0) = B v := by
  rw [words_fold, words_fold, List.length_set]
  generalize step 2611923443488327891#64 (B l.length) = s
  rw [set_split l k v hk]
  conv => lhs; lhs; rw [split_at l k hk]
  rw [fold_append, fold_append]
  constructor
  · intro h
    exact step_inj (fold_inj _ _ _ h)
  · intro h
    show fold (step _ (B (l.getD k 0))) _ = fold (step _ (B v)) _
    rw [h]
theorem set_last (l : List Int) (v : Int) (hk : 0 < l.length) : l.take (l.length - 1) ++ [v] = l.set (l.length - 1) v := by
  rw [set_split l _ v (by omega), List.drop_eq_nil_of_le (by omega)]
theorem B_inj64 {x y : Int} (hx : -9223372036854775808 ≤ x) (hx' : x < 9223372036854775808) (hy : -9223372036854775808 ≤ y) (hy' : y < 9223372036854775808) (h : B x = B y) : x = y := by
  unfold B at h
  have := congrArg BitVec.toInt h
  rw [BitVec.toInt_ofInt, BitVec.toInt_ofInt] at this
  simp only [Int.bmod] at this
  omega
end Go.Proofs.Ytifpkhgcoopjnaa.Dg
