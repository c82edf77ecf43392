/- Summaries that are not right. No program. -/
import Derived.Test.YtifeioddiddnoaaGreatDoorSl27p
set_option linter.unusedVariables false
set_option linter.unusedSimpArgs false
namespace Go.Proofs.YtifeioddiddnoaaGreatDoor
open Go.Abs Go Go.RowKit
theorem inM_bit {a b : Nat} (h : inM (a : Int) (b : Int) = true) (i : Nat) (hi : i < 64) (ha : a.testBit i = true) : b.testBit i = true := by
  rw [inM_iff, ofInt_nat, ofInt_nat] at h
  have h1 := congrArg (fun v : BitVec 64 => v.getLsbD i) h
  simp only [BitVec.getLsbD_and, BitVec.getLsbD_not, BitVec.getLsbD_ofNat, hi, decide_true, Bool.true_and, BitVec.getLsbD_zero, ha] at h1
  cases h2 : b.testBit i <;> simp_all
theorem bits_not {a b : Nat} (i : Nat) (hi : i < 64) (ha : a.testBit i = true) (hb : b.testBit i = false) : bitsB (a : Int) (b : Int) = false := by
  cases h : bitsB (a : Int) (b : Int)
  · rfl
  · unfold bitsB at h
    rw [Bool.and_eq_true] at h
    have := inM_bit h.2 i hi ha
    rw [hb] at this; cases this
theorem or_bit {a b : Nat} (i : Nat) (hb : b.testBit i = true) : (a ||| b).testBit i = true := by rw [Nat.testBit_or, hb, Bool.or_true]
theorem right_front {l : List Hd} {s : Sy} (h : frontB (headF l s.id).isSome s = false) : rightB l s = false := by
  unfold rightB; rw [h, pairsB_false]
theorem pairs_app : ∀ (l : List Pr) (b : Bool) (prev : Option Pr) (x : Pr), prOkB x = false → pairsB b prev (l ++ [x]) = false
  | [], b, prev, x, h => by
    show prGo b x prev = false
    unfold prGo; rw [h, Bool.and_false, Bool.false_and]
  | y :: l, b, prev, x, h => by
    show pairsB _ _ (l ++ [x]) = false
    exact pairs_app l _ _ x h
def twiceAll : Bool := (List.range 64).all fun k => decide (pairsB true none (if (prOf k).length = 0 then [⟨1, 0, 0⟩, ⟨0, 1, 0⟩] else prOf k ++ prOf k) = false)
theorem twiceAll_true : twiceAll = true := by kernel_rfl
def twP (l : List Pr) : List Pr := if l.length = 0 then [⟨1, 0, 0⟩, ⟨0, 1, 0⟩] else l ++ l
theorem pairs_twice {k : Nat} (hk : k < 64) (b : Bool) : pairsB b none (twP (prOf k)) = false := by
  cases b
  · exact pairsB_false _ _
  · have h := twiceAll_true
    unfold twiceAll at h
    exact of_decide_eq_true (List.all_eq_true.1 h k (List.mem_range.2 hk))
theorem front_thr {is : Bool} {s : Sy} (h : bitsB s.throws 4294967294 = false) : frontB is s = false := by unfold frontB; rw [h]; simp only [Bool.and_false, Bool.false_and]
theorem front_loc {is : Bool} {s : Sy} (h : bitsB s.locks 7 = false) : frontB is s = false := by unfold frontB; rw [h]; simp only [Bool.and_false, Bool.false_and]
theorem front_loa {is : Bool} {s : Sy} (h : bitsB s.loads 7 = false) : frontB is s = false := by unfold frontB; rw [h]; simp only [Bool.and_false, Bool.false_and]
theorem front_c0 {is : Bool} {s : Sy} (h : ¬ 0 ≤ s.cost) : frontB is s = false := by unfold frontB; rw [decide_eq_false h]; simp only [Bool.and_false, Bool.false_and]
theorem front_c1 {is : Bool} {s : Sy} (h : ¬ s.cost ≤ 1099511627776) : frontB is s = false := by unfold frontB; rw [decide_eq_false h]; simp only [Bool.and_false, Bool.false_and]
/-- The changed summary, by the number of the change. -/
def badS (s : Sy) (n : Nat) : Sy := match n with
  | 0 => { s with throws := IntKind.i64.wrap ((BitVec.ofInt 64 s.throws ||| BitVec.ofInt 64 1).toNat : Nat) }
  | 1 => { s with throws := IntKind.i64.wrap ((BitVec.ofInt 64 s.throws ||| BitVec.ofInt 64 4294967296).toNat : Nat) }
  | 2 => { s with locks := IntKind.i64.wrap ((BitVec.ofInt 64 s.locks ||| BitVec.ofInt 64 8).toNat : Nat) }
  | 3 => { s with loads := IntKind.i64.wrap ((BitVec.ofInt 64 s.loads ||| BitVec.ofInt 64 8).toNat : Nat) }
  | 4 => { s with cost := -1 }
  | 5 => { s with cost := 1099511627777 }
  | 6 => { s with pairs := s.pairs ++ [⟨2, 2, 0⟩] }
  | 7 => { s with pairs := twP s.pairs }
  | _ => { s with id := 99 }
theorem orN {a b : Nat} (ha : a < 4611686018427387904) (hb : b < 4611686018427387904) : IntKind.i64.wrap ((BitVec.ofInt 64 (a : Int) ||| BitVec.ofInt 64 (b : Int)).toNat : Nat) = ((a ||| b : Nat) : Int) := by
  rw [or_i64 ⟨by omega, by omega⟩ ⟨by omega, by omega⟩, ior_nat]
theorem bad_not {m : Nm} (hm : m.ok) (l : List Hd) (h99 : headF l 99 = none) (n : Nat) : rightB l (badS m.sy n) = false := by
  have hT := and_lt (b := 4611686018427387904) hm.T (by decide)
  have hL := and_lt (b := 4611686018427387904) hm.L (by decide)
  have hO := and_lt (b := 4611686018427387904) hm.O (by decide)
  unfold badS
  split
  · refine right_front (front_thr ?_)
    show bitsB (IntKind.i64.wrap ((BitVec.ofInt 64 (m.T : Int) ||| BitVec.ofInt 64 ((1 : Nat) : Int)).toNat : Nat)) 4294967294 = false
    rw [orN hT (by decide)]
    exact bits_not (b := 4294967294) 0 (by decide) (or_bit 0 (by decide)) (by decide)
  · refine right_front (front_thr ?_)
    show bitsB (IntKind.i64.wrap ((BitVec.ofInt 64 (m.T : Int) ||| BitVec.ofInt 64 ((4294967296 : Nat) : Int)).toNat : Nat)) 4294967294 = false
    rw [orN hT (by decide)]
    exact bits_not (b := 4294967294) 32 (by decide) (or_bit 32 (by decide)) (by decide)
  · refine right_front (front_loc ?_)
    show bitsB (IntKind.i64.wrap ((BitVec.ofInt 64 (m.L : Int) ||| BitVec.ofInt 64 ((8 : Nat) : Int)).toNat : Nat)) 7 = false
    rw [orN hL (by decide)]
    exact bits_not (b := 7) 3 (by decide) (or_bit 3 (by decide)) (by decide)
  · refine right_front (front_loa ?_)
    show bitsB (IntKind.i64.wrap ((BitVec.ofInt 64 (m.O : Int) ||| BitVec.ofInt 64 ((8 : Nat) : Int)).toNat : Nat)) 7 = false
    rw [orN hO (by decide)]
    exact bits_not (b := 7) 3 (by decide) (or_bit 3 (by decide)) (by decide)
  · exact right_front (front_c0 (by show ¬ (0 : Int) ≤ -1; decide))
  · exact right_front (front_c1 (by show ¬ (1099511627777 : Int) ≤ 1099511627776; decide))
  · exact pairs_app (prOf m.k) _ none ⟨2, 2, 0⟩ (by decide)
  · exact pairs_twice hm.k _
  · refine right_front ?_
    show frontB (headF l 99).isSome _ = false
    rw [h99]
    unfold frontB
    simp only [Option.isSome_none, Bool.false_and]
end Go.Proofs.YtifeioddiddnoaaGreatDoor
