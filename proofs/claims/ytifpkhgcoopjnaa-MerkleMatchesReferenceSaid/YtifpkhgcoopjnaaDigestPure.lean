/- Plain functions of the digest on 64 bit words, and plain facts on them: a step can be undone. No conditions. -/
import Derived.Test.YtifpkhgcoopjnaaU64
namespace Go.Proofs.Ytifpkhgcoopjnaa.Dg

def mulA : BitVec 64 := 11400714819323198485#64
def mulB : BitVec 64 := 13787848793156543929#64
def invA : BitVec 64 := 17428512612931826493#64
def invB : BitVec 64 := 10866858139205878377#64

def step (h w : BitVec 64) : BitVec 64 :=
  let x := (h ^^^ w) * mulA
  let y := (x ^^^ x >>> 29) * mulB
  y ^^^ y >>> 32
def inverse (a : BitVec 64) : BitVec 64 :=
  let r := fun x => x * (2#64 - a * x)
  r (r (r (r (r a))))
/-- The inverse behind k rounds. -/
def invTo (a : BitVec 64) : Nat → BitVec 64
  | 0 => a
  | k + 1 => invTo a k * (2#64 - a * invTo a k)
def back (h x : BitVec 64) : BitVec 64 :=
  let y := (x ^^^ x >>> 32) * inverse mulB
  let z := y ^^^ (y >>> 29 ^^^ y >>> 58)
  z * inverse mulA ^^^ h
def join (a b : BitVec 64) : BitVec 64 := step (step 11820040416388919760#64 a) b

/-- A digit. -/
def isDigit (c : Int) : Bool := decide (48 ≤ c ∧ c ≤ 57 ∨ 97 ≤ c ∧ c ≤ 102)
/-- The value of a byte that is a digit, else 0. -/
def value (c : Int) : Int := if 48 ≤ c ∧ c ≤ 57 then c - 48 else if 97 ≤ c ∧ c ≤ 102 then c - 87 else 0

/-- The number of digits. -/
def number (l : List UInt8) : BitVec 64 := l.foldl (fun x c => x <<< 4 ||| B (value (c.toNat : Int))) 0#64
def digits (l : List UInt8) : Bool := l.all fun c => isDigit (c.toNat : Int)
def parse (l : List UInt8) : BitVec 64 × Int :=
  if l.length = 16 then (if digits l then (number l, 0) else (0#64, 3)) else (0#64, 3)

theorem number_snoc (l : List UInt8) (c : UInt8) : number (l ++ [c]) = number l <<< 4 ||| B (value (c.toNat : Int)) := by
  simp [number, List.foldl_append]
theorem digits_snoc (l : List UInt8) (c : UInt8) : digits (l ++ [c]) = (digits l && isDigit (c.toNat : Int)) := by
  simp [digits]
theorem parse_good {l : List UInt8} (h : l.length = 16) (hd : digits l = true) : parse l = (number l, 0) := by
  unfold parse; rw [if_pos h, if_pos hd]
theorem parse_bad {l : List UInt8} {c : UInt8} (h : l.length = 16) (hc : c ∈ l) (hd : isDigit (c.toNat : Int) = false) : parse l = (0#64, 3) := by
  unfold parse; rw [if_pos h, if_neg]
  intro h2
  have := List.all_eq_true.1 h2 c hc
  rw [hd] at this; cases this

/-- The byte of a digit. -/
def digit (n : BitVec 64) : UInt8 := ([48, 49, 50, 51, 52, 53, 54, 55, 56, 57, 97, 98, 99, 100, 101, 102] : List UInt8).getD n.toNat 0
/-- Digit i of a number, from the left. -/
def digitAt (x : BitVec 64) (i : Nat) : UInt8 := digit (x >>> (60 - 4 * i) &&& 15#64)
def text (x : BitVec 64) : List UInt8 := (List.range 16).map (digitAt x)

theorem text_length (x : BitVec 64) : (text x).length = 16 := by simp [text]
theorem text_get (x : BitVec 64) (j : Nat) (h : j < (text x).length) : (text x)[j] = digitAt x j := by simp [text]

theorem invB_mul : mulB * inverse mulB = 1#64 := by decide +kernel
theorem invA_mul : mulA * inverse mulA = 1#64 := by decide +kernel

theorem unmul (a i x : BitVec 64) (h : a * i = 1#64) : x * a * i = x := by rw [BitVec.mul_assoc, h, BitVec.mul_one]
theorem unmul' (a i x : BitVec 64) (h : a * i = 1#64) : x * i * a = x := by rw [BitVec.mul_assoc, BitVec.mul_comm i a, h, BitVec.mul_one]

theorem sh_xor (x y : BitVec 64) (k : Nat) : (x ^^^ y) >>> k = x >>> k ^^^ y >>> k := BitVec.ushiftRight_xor_distrib x y k
theorem sh_sh (x : BitVec 64) (a b : Nat) : x >>> a >>> b = x >>> (a + b) := (BitVec.shiftRight_add x a b).symm
theorem sh_zero (x : BitVec 64) (k : Nat) (h : 64 ≤ k) : x >>> k = 0#64 := by
  apply BitVec.eq_of_toNat_eq
  rw [BitVec.toNat_ushiftRight, Nat.shiftRight_eq_div_pow]
  have := x.isLt
  have h2 : 2 ^ 64 ≤ 2 ^ k := Nat.pow_le_pow_right (by omega) h
  simp; omega
theorem xor_self (x : BitVec 64) : x ^^^ x = 0#64 := BitVec.xor_self
theorem xor_zero (x : BitVec 64) : x ^^^ 0#64 = x := BitVec.xor_zero
theorem xor_cancel (x y : BitVec 64) : x ^^^ (x ^^^ y) = y := by rw [← BitVec.xor_assoc, xor_self, BitVec.zero_xor]
theorem xor_cancel' (x y : BitVec 64) : x ^^^ y ^^^ y = x := by rw [BitVec.xor_assoc, xor_self, xor_zero]

theorem un32 (x : BitVec 64) : (x ^^^ x >>> 32) ^^^ (x ^^^ x >>> 32) >>> 32 = x := by
  rw [sh_xor, sh_sh, sh_zero x (32 + 32) (by omega), xor_zero, xor_cancel']
theorem un29 (x : BitVec 64) : (x ^^^ x >>> 29) ^^^ ((x ^^^ x >>> 29) >>> 29 ^^^ (x ^^^ x >>> 29) >>> 58) = x := by
  rw [sh_xor, sh_xor, sh_sh, sh_sh, sh_zero x (29 + 58) (by omega), xor_zero]
  rw [show (29 + 29) = 58 from rfl, BitVec.xor_assoc (x >>> 29), xor_self, xor_zero, xor_cancel']
theorem un29' (x : BitVec 64) : (x ^^^ (x >>> 29 ^^^ x >>> 58)) ^^^ (x ^^^ (x >>> 29 ^^^ x >>> 58)) >>> 29 = x := by
  rw [sh_xor, sh_xor, sh_sh, sh_sh, sh_zero x (58 + 29) (by omega), xor_zero]
  rw [show (29 + 29) = 58 from rfl, BitVec.xor_assoc, xor_self, xor_zero]

theorem back_step (h w : BitVec 64) : back h (step h w) = w := by
  unfold back step
  simp only [un32, unmul _ _ _ invB_mul, un29, unmul _ _ _ invA_mul]
  rw [BitVec.xor_comm h w, xor_cancel']
theorem step_back (h x : BitVec 64) : step h (back h x) = x := by
  unfold back step
  simp only []
  rw [BitVec.xor_comm _ h, xor_cancel]
  simp only [unmul' _ _ _ invA_mul, un29', unmul' _ _ _ invB_mul, un32]
theorem step_comm (h w : BitVec 64) : step h w = step w h := by unfold step; rw [BitVec.xor_comm h w]
theorem step_inj {h v w : BitVec 64} (e : step h v = step h w) : v = w := by rw [← back_step h v, e, back_step]
theorem step_inj' {h v w : BitVec 64} (e : step v h = step w h) : v = w := by rw [step_comm v, step_comm w] at e; exact step_inj e

end Go.Proofs.Ytifpkhgcoopjnaa.Dg
