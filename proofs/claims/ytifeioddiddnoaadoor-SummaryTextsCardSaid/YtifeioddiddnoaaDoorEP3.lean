/- The digest on words of 64 bits. No program. -/
import Init.Data.BitVec
set_option linter.unusedVariables false
set_option linter.unusedSimpArgs false
namespace Go.Proofs.YtifeioddiddnoaaDoor.Dg
def B (n : Int) : BitVec 64 := BitVec.ofInt 64 n
def mulA : BitVec 64 := 11400714819323198485#64
def mulB : BitVec 64 := 13787848793156543929#64
def invA : BitVec 64 := 17428512612931826493#64
def invB : BitVec 64 := 10866858139205878377#64

def step (h w : BitVec 64) : BitVec 64 :=
  let x := (h ^^^ w) * mulA
  let y := (x ^^^ x >>> 29) * mulB
  y ^^^ y >>> 32
def inverse (a : BitVec 64) : BitVec 64 :=
  let r := fun x => x * (2#64 - a * x)
  r (r (r (r (r a))))
/-- The inverse behind k rounds. -/
def invTo (a : BitVec 64) : Nat → BitVec 64
  | 0 => a
  | k + 1 => invTo a k * (2#64 - a * invTo a k)
def back (h x : BitVec 64) : BitVec 64 :=
  let y := (x ^^^ x >>> 32) * inverse mulB
  let z := y ^^^ (y >>> 29 ^^^ y >>> 58)
  z * inverse mulA ^^^ h
theorem invB_mul : mulB * inverse mulB = 1#64 := by decide +kernel
theorem invA_mul : mulA * inverse mulA = 1#64 := by decide +kernel

theorem unmul (a i x : BitVec 64) (h : a * i = 1#64) : x * a * i = x := by rw [BitVec.mul_assoc, h, BitVec.mul_one]
theorem unmul' (a i x : BitVec 64) (h : a * i = 1#64) : x * i * a = x := by rw [BitVec.mul_assoc, BitVec.mul_comm i a, h, BitVec.mul_one]

theorem sh_xor (x y : BitVec 64) (k : Nat) : (x ^^^ y) >>> k = x >>> k ^^^ y >>> k := BitVec.ushiftRight_xor_distrib x y k
theorem sh_sh (x : BitVec 64) (a b : Nat) : x >>> a >>> b = x >>> (a + b) := (BitVec.shiftRight_add x a b).symm
theorem sh_zero (x : BitVec 64) (k : Nat) (h : 64 ≤ k) : x >>> k = 0#64 := by
  apply BitVec.eq_of_toNat_eq
  rw [BitVec.toNat_ushiftRight, Nat.shiftRight_eq_div_pow]
  have := x.isLt
  have h2 : 2 ^ 64 ≤ 2 ^ k := Nat.pow_le_pow_right (by omega) h
  simp; omega
theorem xor_self (x : BitVec 64) : x ^^^ x = 0#64 := BitVec.xor_self
theorem xor_zero (x : BitVec 64) : x ^^^ 0#64 = x := BitVec.xor_zero
theorem xor_cancel (x y : BitVec 64) : x ^^^ (x ^^^ y) = y := by rw [← BitVec.xor_assoc, xor_self, BitVec.zero_xor]
theorem xor_cancel' (x y : BitVec 64) : x ^^^ y ^^^ y = x := by rw [BitVec.xor_assoc, xor_self, xor_zero]

theorem un32 (x : BitVec 64) : (x ^^^ x >>> 32) ^^^ (x ^^^ x >>> 32) >>> 32 = x := by
  rw [sh_xor, sh_sh, sh_zero x (32 + 32) (by omega), xor_zero, xor_cancel']
theorem un29 (x : BitVec 64) : (x ^^^ x >>> 29) ^^^ ((x ^^^ x >>> 29) >>> 29 ^^^ (x ^^^ x >>> 29) >>> 58) = x := by
  rw [sh_xor, sh_xor, sh_sh, sh_sh, sh_zero x (29 + 58) (by omega), xor_zero]
  rw [show (29 + 29) = 58 from rfl, BitVec.xor_assoc (x >>> 29), xor_self, xor_zero, xor_cancel']
theorem un29' (x : BitVec 64) : (x ^^^ (x >>> 29 ^^^ x >>> 58)) ^^^ (x ^^^ (x >>> 29 ^^^ x >>> 58)) >>> 29 = x := by
  rw [sh_xor, sh_xor, sh_sh, sh_sh, sh_zero x (58 + 29) (by omega), xor_zero]
  rw [show (29 + 29) = 58 from rfl, BitVec.xor_assoc, xor_self, xor_zero]

theorem back_step (h w : BitVec 64) : back h (step h w) = w := by
  unfold back step
  simp only [un32, unmul _ _ _ invB_mul, un29, unmul _ _ _ invA_mul]
  rw [BitVec.xor_comm h w, xor_cancel']
theorem step_back (h x : BitVec 64) : step h (back h x) = x := by
  unfold back step
  simp only []
  rw [BitVec.xor_comm _ h, xor_cancel]
  simp only [unmul' _ _ _ invA_mul, un29', unmul' _ _ _ invB_mul, un32]
theorem step_comm (h w : BitVec 64) : step h w = step w h := by unfold step; rw [BitVec.xor_comm h w]
theorem step_inj {h v w : BitVec 64} (e : step h v = step h w) : v = w := by rw [← back_step h v, e, back_step]
theorem step_inj' {h v w : BitVec 64} (e : step v h = step w h) : v = w := by rw [step_comm v, step_comm w] at e; exact step_inj e

def words (l : List Int) : BitVec 64 := l.foldl (fun h x => step h (B x)) (step 2611923443488327891#64 (B l.length))
def fold (h : BitVec 64) (l : List Int) : BitVec 64 := l.foldl (fun h x => step h (B x)) h
theorem words_fold (l : List Int) : words l = fold (step 2611923443488327891#64 (B l.length)) l := rfl
theorem fold_append (h : BitVec 64) (l r : List Int) : fold h (l ++ r) = fold (fold h l) r := by simp [fold, List.foldl_append]
theorem fold_inj : ∀ (l : List Int) (h h' : BitVec 64), fold h l = fold h' l → h = h' := by
  intro l
  induction l with
  | nil => intro h h' e; exact e
  | cons x l ih => intro h h' e; exact step_inj' (ih _ _ e)
theorem split_at (l : List Int) (k : Nat) (hk : k < l.length) : l = l.take k ++ l.getD k 0 :: l.drop (k + 1) := by
  have h : l.getD k 0 = l[k] := by simp [List.getD, hk]
  rw [h, List.getElem_cons_drop, List.take_append_drop]
theorem set_split (l : List Int) (k : Nat) (v : Int) (hk : k < l.length) : l.set k v = l.take k ++ v :: l.drop (k + 1) := by
  rw [List.set_eq_take_append_cons_drop, if_pos hk]
theorem words_set (l : List Int) (k : Nat) (v : Int) (hk : k < l.length) : words l = words (l.set k v) ↔ B (l.getD k 0) = B v := by
  rw [words_fold, words_fold, List.length_set]
  generalize step 2611923443488327891#64 (B l.length) = s
  rw [set_split l k v hk]
  conv => lhs; lhs; rw [split_at l k hk]
  rw [fold_append, fold_append]
  constructor
  · intro h
    exact step_inj (fold_inj _ _ _ h)
  · intro h
    show fold (step _ (B (l.getD k 0))) _ = fold (step _ (B v)) _
    rw [h]
theorem B_inj64 {x y : Int} (hx : -9223372036854775808 ≤ x) (hx' : x < 9223372036854775808) (hy : -9223372036854775808 ≤ y) (hy' : y < 9223372036854775808) (h : B x = B y) : x = y := by
  unfold B at h
  have := congrArg BitVec.toInt h
  rw [BitVec.toInt_ofInt, BitVec.toInt_ofInt] at this
  simp only [Int.bmod] at this
  omega
theorem words_pair (a b : List Int) (x y : Int) : words (a ++ x :: b) = words (a ++ y :: b) ↔ B x = B y := by
  have h := words_set (a ++ x :: b) a.length y (by simp)
  have e1 : (a ++ x :: b).set a.length y = a ++ y :: b := by simp
  have e2 : (a ++ x :: b).getD a.length 0 = x := by simp
  rw [e1, e2] at h
  exact h
end Go.Proofs.YtifeioddiddnoaaDoor.Dg
