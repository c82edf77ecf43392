/- Plain facts on uint64 in the walk's spelling: a number of kind u64 is I x for a 64 bit word x. No conditions. -/
import Derived.WalkKit
import Derived.OpenShut
set_option linter.unusedVariables false
set_option linter.unusedSimpArgs false
namespace Go.Proofs.Ytajlmkokfgbjdaa
open Go.RowKit Go.OpenShut

/-- A fact that is kept from the walk. -/
theorem hid {p : Prop} (h : p) : Hid p := h
theorem seqB {a b c : World} (h : Below a.heap.size a b) (k : Below b.heap.size b c) : Below a.heap.size a c := h.trans (k.mono h.size)
theorem aB (w : World) (o : Obj) : Below w.heap.size w (w.alloc o) := (Below.refl _ _).alloc (Nat.le_refl _) o
theorem dB (w : World) : Below w.heap.size w w.drew := (Below.refl _ _).drew
/-- The number of a word. -/
def I (x : BitVec 64) : Int := (x.toNat : Int)
/-- The word of a number. -/
def B (n : Int) : BitVec 64 := BitVec.ofInt 64 n
/-- A number of kind u64. -/
def U (n : Int) : Prop := ∃ x, n = I x

theorem I_nonneg (x : BitVec 64) : 0 ≤ I x := by unfold I; omega
theorem I_lt (x : BitVec 64) : I x < 18446744073709551616 := by
  unfold I; have := x.isLt; omega
theorem B_I (x : BitVec 64) : B (I x) = x := by
  unfold B I; rw [BitVec.ofInt_natCast, BitVec.ofNat_toNat, BitVec.setWidth_eq]
theorem I_inj {x y : BitVec 64} (h : I x = I y) : x = y := by rw [← B_I x, ← B_I y, h]
theorem I_B (n : Int) (h : 0 ≤ n) (h' : n < 18446744073709551616) : I (B n) = n := by
  unfold B I
  rw [BitVec.toNat_ofInt]
  rw [Int.emod_eq_of_lt h (by simpa using h')]
  exact Int.toNat_of_nonneg h
theorem U_of_wf {n : Int} (h : (Lit.int .u64 n).wf = true) : U n := by
  have := bounds_u64 h
  exact ⟨B n, (I_B n (by omega) (by omega)).symm⟩
theorem U.I_B {n : Int} (h : U n) : I (B n) = n := by obtain ⟨x, rfl⟩ := h; rw [Proofs.Ytajlmkokfgbjdaa.B_I]
theorem U_I (x : BitVec 64) : U (I x) := ⟨x, rfl⟩
theorem wf_I (x : BitVec 64) : (Lit.int .u64 (I x)).wf = true := by
  have h := I_nonneg x; have h' := I_lt x
  simp [Lit.wf, IntKind.min, IntKind.max, IntKind.signed, IntKind.bits]; omega

theorem U_of (n : Int) (h : 0 ≤ n ∧ n < 18446744073709551616) : U n := ⟨B n, (I_B n h.1 h.2).symm⟩

theorem wrap_u64 (n : Int) : IntKind.u64.wrap n = I (B n) := by
  unfold B I
  rw [BitVec.toNat_ofInt, IntKind.wrap_u64]
  have : 0 ≤ n % 18446744073709551616 := Int.emod_nonneg _ (by omega)
  simp; omega
theorem bits_u64 (op : BinOp) (x y : Int) : bits op .u64 x y = I (match op with | .and => B x &&& B y | .or => B x ||| B y | .xor => B x ^^^ B y | _ => B x &&& ~~~ B y) := by
  unfold bits
  rw [wrap_u64]
  exact congrArg I (B_I _)
theorem xor_u64 (x y : Int) : bits .xor .u64 x y = I (B x ^^^ B y) := bits_u64 _ _ _
theorem and_u64 (x y : Int) : bits .and .u64 x y = I (B x &&& B y) := bits_u64 _ _ _
theorem or_u64 (x y : Int) : bits .or .u64 x y = I (B x ||| B y) := bits_u64 _ _ _
theorem B_add (x y : Int) : B (x + y) = B x + B y := by unfold B; rw [BitVec.ofInt_add]
theorem B_mul (x y : Int) : B (x * y) = B x * B y := by unfold B; rw [BitVec.ofInt_mul]
theorem B_sub (x y : Int) : B (x - y) = B x - B y := by
  rw [Int.sub_eq_add_neg, B_add, BitVec.sub_eq_add_neg]; congr 1; unfold B; rw [BitVec.ofInt_neg]
theorem B_wrap64 (n : Int) : B (IntKind.i64.wrap n) = B n := by
  unfold B
  apply BitVec.eq_of_toNat_eq
  rw [BitVec.toNat_ofInt, BitVec.toNat_ofInt, IntKind.wrap_i64]
  congr 1
  simp
theorem B_wrap64' (n : Int) : B (wrap64 n) = B n := by rw [← B_wrap64 n, IntKind.wrap_i64]; unfold wrap64; rfl
theorem I_div (x : BitVec 64) (k : Nat) : I x / ((2 ^ k : Nat) : Int) = I (x >>> k) := by
  unfold I
  rw [BitVec.toNat_ushiftRight, Nat.shiftRight_eq_div_pow]
  simp
theorem I_beq (x y : BitVec 64) : (I x == I y) = (x == y) := by
  rw [Bool.eq_iff_iff, beq_iff_eq, beq_iff_eq]; exact ⟨I_inj, fun h => by rw [h]⟩
theorem I_bne (x y : BitVec 64) : (I x != I y) = (x != y) := by unfold bne; rw [I_beq]

end Go.Proofs.Ytajlmkokfgbjdaa
