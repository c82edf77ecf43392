/- What the program's Parse reads, step by step. No conditions. -/
import Derived.Test.YtifeioddiddnoaaGreatDoorSqB
import Derived.Test.YtifeioddiddnoaaGreatDoorScF
set_option linter.unusedVariables false
set_option linter.unusedSimpArgs false
namespace Go.Proofs.YtifeioddiddnoaaGreatDoor
open Go.Abs Go Go.RowKit
set_option maxRecDepth 20000
theorem tail_len {ws : List BA} {m : Nat} (h : ws.length ≤ m) : ws.tail.length ≤ m := by rw [List.length_tail]; omega
theorem tail_mem {ws : List BA} {m : Nat} (h : ∀ w, w ∈ ws → w.size ≤ m) : ∀ w, w ∈ ws.tail → w.size ≤ m := fun w hw => h w (List.mem_of_mem_tail hw)
theorem words_len (s : BA) : (wordsB s).length ≤ s.size + 1 := by
  unfold wordsB
  rw [List.length_map]
  show _ ≤ s.data.size + 1
  rw [← Array.length_toList]
  generalize s.data.toList = l
  induction l with
  | nil => simp [splitSp]
  | cons c l ih =>
    unfold splitSp
    split
    · simp only [List.length_cons]; omega
    · cases h : splitSp l with
      | nil => simp
      | cons w ws => rw [h] at ih; simp only [List.length_cons] at ih ⊢; omega
theorem splitSp_size (l : List UInt8) : ∀ w, w ∈ splitSp l → w.length ≤ l.length := by
  induction l with
  | nil => intro w hw; simp [splitSp] at hw; subst hw; simp
  | cons c l ih =>
    intro w hw
    unfold splitSp at hw
    split at hw
    · rcases List.mem_cons.1 hw with rfl | hw
      · simp
      · have := ih w hw; simp only [List.length_cons]; omega
    · cases h : splitSp l with
      | nil => exact absurd h (splitSp_ne l)
      | cons v ws =>
        rw [h] at hw ih
        rcases List.mem_cons.1 hw with rfl | hw
        · have := ih v (by simp); simp only [List.length_cons]; omega
        · have := ih w (by simp [hw]); simp only [List.length_cons]; omega
theorem words_size (s : BA) : ∀ w, w ∈ wordsB s → w.size ≤ s.size := by
  intro w hw
  unfold wordsB at hw
  obtain ⟨l, hl, rfl⟩ := List.mem_map.1 hw
  have := splitSp_size _ l hl
  show l.toArray.size ≤ s.data.size
  rw [List.size_toArray, ← Array.length_toList]
  exact this
/-- The contracts of the 18 steps. -/
structure ParC (u : Nat → List BA) (b : Nat → Bool) (n : Nat → Int) : Prop where
  c1 : FC Tryz.prog gs 89 [wA ⟨#[115, 117, 109, 109, 97, 114, 121]⟩, .ptr 0 [] 0, .ptr 1 [] 0] [.one [.val (.bool (b 0))], .one [wsA (u 0)]] (.tup []) [.one [.val (.bool (b 1))], .one [wsA (u 1)]] NoP
  c2 : FC Tryz.prog gs 90 [.ptr 0 [] 0, .ptr 1 [] 0] [.one [wsA (u 1)], .one [.val (.bool (b 1))]] (i64 (n 1)) [.one [wsA (u 2)], .one [.val (.bool (b 2))]] NoP
  c3 : FC Tryz.prog gs 89 [wA ⟨#[114, 101, 115]⟩, .ptr 0 [] 0, .ptr 1 [] 0] [.one [.val (.bool (b 2))], .one [wsA (u 2)]] (.tup []) [.one [.val (.bool (b 3))], .one [wsA (u 3)]] NoP
  c4 : FC Tryz.prog gs 90 [.ptr 0 [] 0, .ptr 1 [] 0] [.one [wsA (u 3)], .one [.val (.bool (b 3))]] (i64 (n 2)) [.one [wsA (u 4)], .one [.val (.bool (b 4))]] NoP
  c5 : FC Tryz.prog gs 90 [.ptr 0 [] 0, .ptr 1 [] 0] [.one [wsA (u 4)], .one [.val (.bool (b 4))]] (i64 (n 3)) [.one [wsA (u 5)], .one [.val (.bool (b 5))]] NoP
  c6 : FC Tryz.prog gs 89 [wA ⟨#[109, 111, 100]⟩, .ptr 0 [] 0, .ptr 1 [] 0] [.one [.val (.bool (b 5))], .one [wsA (u 5)]] (.tup []) [.one [.val (.bool (b 6))], .one [wsA (u 6)]] NoP
  c7 : FC Tryz.prog gs 90 [.ptr 0 [] 0, .ptr 1 [] 0] [.one [wsA (u 6)], .one [.val (.bool (b 6))]] (i64 (n 4)) [.one [wsA (u 7)], .one [.val (.bool (b 7))]] NoP
  c8 : FC Tryz.prog gs 90 [.ptr 0 [] 0, .ptr 1 [] 0] [.one [wsA (u 7)], .one [.val (.bool (b 7))]] (i64 (n 5)) [.one [wsA (u 8)], .one [.val (.bool (b 8))]] NoP
  c9 : FC Tryz.prog gs 89 [wA ⟨#[109, 97, 115, 107]⟩, .ptr 0 [] 0, .ptr 1 [] 0] [.one [.val (.bool (b 8))], .one [wsA (u 8)]] (.tup []) [.one [.val (.bool (b 9))], .one [wsA (u 9)]] NoP
  c10 : FC Tryz.prog gs 90 [.ptr 0 [] 0, .ptr 1 [] 0] [.one [wsA (u 9)], .one [.val (.bool (b 9))]] (i64 (n 6)) [.one [wsA (u 10)], .one [.val (.bool (b 10))]] NoP
  c11 : FC Tryz.prog gs 89 [wA ⟨#[116, 104, 114, 111, 119, 115]⟩, .ptr 0 [] 0, .ptr 1 [] 0] [.one [.val (.bool (b 10))], .one [wsA (u 10)]] (.tup []) [.one [.val (.bool (b 11))], .one [wsA (u 11)]] NoP
  c12 : FC Tryz.prog gs 90 [.ptr 0 [] 0, .ptr 1 [] 0] [.one [wsA (u 11)], .one [.val (.bool (b 11))]] (i64 (n 7)) [.one [wsA (u 12)], .one [.val (.bool (b 12))]] NoP
  c13 : FC Tryz.prog gs 89 [wA ⟨#[108, 111, 99, 107, 115]⟩, .ptr 0 [] 0, .ptr 1 [] 0] [.one [.val (.bool (b 12))], .one [wsA (u 12)]] (.tup []) [.one [.val (.bool (b 13))], .one [wsA (u 13)]] NoP
  c14 : FC Tryz.prog gs 90 [.ptr 0 [] 0, .ptr 1 [] 0] [.one [wsA (u 13)], .one [.val (.bool (b 13))]] (i64 (n 8)) [.one [wsA (u 14)], .one [.val (.bool (b 14))]] NoP
  c15 : FC Tryz.prog gs 89 [wA ⟨#[108, 111, 97, 100, 115]⟩, .ptr 0 [] 0, .ptr 1 [] 0] [.one [.val (.bool (b 14))], .one [wsA (u 14)]] (.tup []) [.one [.val (.bool (b 15))], .one [wsA (u 15)]] NoP
  c16 : FC Tryz.prog gs 90 [.ptr 0 [] 0, .ptr 1 [] 0] [.one [wsA (u 15)], .one [.val (.bool (b 15))]] (i64 (n 9)) [.one [wsA (u 16)], .one [.val (.bool (b 16))]] NoP
  c17 : FC Tryz.prog gs 89 [wA ⟨#[99, 111, 115, 116]⟩, .ptr 0 [] 0, .ptr 1 [] 0] [.one [.val (.bool (b 16))], .one [wsA (u 16)]] (.tup []) [.one [.val (.bool (b 17))], .one [wsA (u 17)]] NoP
  c18 : FC Tryz.prog gs 90 [.ptr 0 [] 0, .ptr 1 [] 0] [.one [wsA (u 17)], .one [.val (.bool (b 17))]] (i64 (n 10)) [.one [wsA (u 18)], .one [.val (.bool (b 18))]] NoP
def uS (ws : List BA) : Nat → List BA
  | 0 => ws
  | i + 1 => (uS ws i).tail
theorem uS_len {ws : List BA} {m : Nat} (h : ws.length ≤ m) : ∀ i, (uS ws i).length ≤ m
  | 0 => h
  | i + 1 => tail_len (uS_len h i)
theorem uS_size {ws : List BA} {m : Nat} (h : ∀ w, w ∈ ws → w.size ≤ m) : ∀ i, ∀ w, w ∈ uS ws i → w.size ≤ m
  | 0 => h
  | i + 1 => tail_mem (uS_size h i)
def stB : List Tk → Nat → Bool → List BA → Bool
  | _, 0, b, _ => b
  | [], _ + 1, b, _ => b
  | .name w :: f, i + 1, b, ws => stB f i (wB w b ws) ws.tail
  | .num :: f, i + 1, b, ws => stB f i (nB b ws) ws.tail
def stN : List Tk → Nat → List BA → Int
  | [], _, _ => 0
  | .name _ :: f, i, ws => stN f i ws.tail
  | .num :: _, 0, ws => nN ws
  | .num :: f, i + 1, ws => stN f i ws.tail
def bS (ws : List BA) (i : Nat) : Bool := stB fmtH i true ws
def nS (ws : List BA) (i : Nat) : Int := stN fmtH (i - 1) ws
theorem parC (ws : List BA) (hl : ws.length ≤ 200000) (hz : ∀ w, w ∈ ws → w.size ≤ 200000) : ParC (uS ws) (bS ws) (nS ws) where
  c1 := pword_fc _ _ _ (uS_len hl 0)
  c2 := pnum_fc _ _ (uS_len hl 1) (uS_size hz 1)
  c3 := pword_fc _ _ _ (uS_len hl 2)
  c4 := pnum_fc _ _ (uS_len hl 3) (uS_size hz 3)
  c5 := pnum_fc _ _ (uS_len hl 4) (uS_size hz 4)
  c6 := pword_fc _ _ _ (uS_len hl 5)
  c7 := pnum_fc _ _ (uS_len hl 6) (uS_size hz 6)
  c8 := pnum_fc _ _ (uS_len hl 7) (uS_size hz 7)
  c9 := pword_fc _ _ _ (uS_len hl 8)
  c10 := pnum_fc _ _ (uS_len hl 9) (uS_size hz 9)
  c11 := pword_fc _ _ _ (uS_len hl 10)
  c12 := pnum_fc _ _ (uS_len hl 11) (uS_size hz 11)
  c13 := pword_fc _ _ _ (uS_len hl 12)
  c14 := pnum_fc _ _ (uS_len hl 13) (uS_size hz 13)
  c15 := pword_fc _ _ _ (uS_len hl 14)
  c16 := pnum_fc _ _ (uS_len hl 15) (uS_size hz 15)
  c17 := pword_fc _ _ _ (uS_len hl 16)
  c18 := pnum_fc _ _ (uS_len hl 17) (uS_size hz 17)
theorem runB_bS (ws : List BA) : runB fmtH true ws = bS ws 18 := rfl
theorem runN_nS (ws : List BA) : runN fmtH ws = [nS ws 1, nS ws 2, nS ws 3, nS ws 4, nS ws 5, nS ws 6, nS ws 7, nS ws 8, nS ws 9, nS ws 10] := rfl
theorem runW_uS (ws : List BA) : runW fmtH ws = uS ws 18 := rfl
end Go.Proofs.YtifeioddiddnoaaGreatDoor
