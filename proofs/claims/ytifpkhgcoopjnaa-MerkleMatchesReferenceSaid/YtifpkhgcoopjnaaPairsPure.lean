/- Plain functions: the pairs on the way from a leaf up. No conditions. -/
import Derived.Test.YtifpkhgcoopjnaaSidesPure
namespace Go.Proofs.Ytifpkhgcoopjnaa.Mk
open Go.RowKit
/-- The digest of a pair of words. -/
def joinI (p : Int × Int) : Int := I (Dg.join (B p.1) (B p.2))
/-- The pair of what came up and of what lies beside it. -/
def pr (s : Bool) (u p : Int) : Int × Int := if s = true then (u, p) else (p, u)
/-- What has come up behind k steps. -/
def upAt (ss : List Bool) (ps : List Int) (leaf : Int) : Nat → Int
  | 0 => joinI (0, leaf)
  | k + 1 => joinI (pr (ss.getD k false) (upAt ss ps leaf k) (ps.getD k 0))
/-- The pair of step k. -/
def pairAt (ss : List Bool) (ps : List Int) (leaf : Int) (k : Nat) : Int × Int := pr (ss.getD k false) (upAt ss ps leaf k) (ps.getD k 0)
theorem upAt_succ (ss : List Bool) (ps : List Int) (leaf : Int) (k : Nat) : upAt ss ps leaf (k + 1) = joinI (pairAt ss ps leaf k) := rfl
/-- The pairs of the leaf and of the first k steps. -/
def pairsTo (ss : List Bool) (ps : List Int) (leaf : Int) (k : Nat) : List (Int × Int) := (0, leaf) :: (List.range k).map (pairAt ss ps leaf)
theorem pairsTo_length (ss : List Bool) (ps : List Int) (leaf : Int) (k : Nat) : (pairsTo ss ps leaf k).length = k + 1 := by simp [pairsTo]
theorem pairsTo_succ (ss : List Bool) (ps : List Int) (leaf : Int) (k : Nat) : pairsTo ss ps leaf (k + 1) = pairsTo ss ps leaf k ++ [pairAt ss ps leaf k] := by
  simp [pairsTo, List.range_succ]
/-- All pairs: with the number of leaves at the end. -/
def pairs (n i : Nat) (leaf : Int) (ps : List Int) : List (Int × Int) := pairsTo (steps n i) ps leaf (steps n i).length ++ [((n : Int), upAt (steps n i) ps leaf (steps n i).length)]
theorem pairs_length (n i : Nat) (leaf : Int) (ps : List Int) : (pairs n i leaf ps).length = (steps n i).length + 2 := by simp [pairs, pairsTo_length]
theorem steps_length {n i : Nat} (h : i < n) : (steps n i).length < n := by unfold steps; rw [List.length_reverse]; exact sides_length n n i (Nat.le_refl _) h
end Go.Proofs.Ytifpkhgcoopjnaa.Mk
