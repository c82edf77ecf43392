/- The digest on words of 64 bits. No program. -/
import Init.Data.BitVec
import Derived.Test.YtifeioddiddnoaaGreatDoorScD
set_option linter.unusedVariables false
set_option linter.unusedSimpArgs false
namespace Go.Proofs.YtifeioddiddnoaaGreatDoor.Dg
def B (n : Int) : BitVec 64 := BitVec.ofInt 64 n
def mulA : BitVec 64 := 11400714819323198485#64
def mulB : BitVec 64 := 13787848793156543929#64
def invA : BitVec 64 := 17428512612931826493#64
def invB : BitVec 64 := 10866858139205878377#64

def step (h w : BitVec 64) : BitVec 64 :=
  let x := (h ^^^ w) * mulA
  let y := (x ^^^ x >>> 29) * mulB
  y ^^^ y >>> 32
def inverse (a : BitVec 64) : BitVec 64 :=
  let r := fun x => x * (2#64 - a * x)
  r (r (r (r (r a))))
/-- The inverse behind k rounds. -/
def invTo (a : BitVec 64) : Nat → BitVec 64
  | 0 => a
  | k + 1 => invTo a k * (2#64 - a * invTo a k)
def back (h x : BitVec 64) : BitVec 64 :=
  let y := (x ^^^ x >>> 32) * inverse mulB
  let z := y ^^^ (y >>> 29 ^^^ y >>> 58)
  z * inverse mulA ^^^ h
theorem invB_mul : mulB * inverse mulB = 1#64 := by decide +kernel
theorem invA_mul : mulA * inverse mulA = 1#64 := by decide +kernel

theorem unmul (a i x : BitVec 64) (h : a * i = 1#64) : x * a * i = x := by rw [BitVec.mul_assoc, h, BitVec.mul_one]
theorem unmul' (a i x : BitVec 64) (h : a * i = 1#64) : x * i * a = x := by rw [BitVec.mul_assoc, BitVec.mul_comm i a, h, BitVec.mul_one]

theorem sh_xor (x y : BitVec 64) (k : Nat) : (x ^^^ y) >>> k = x >>> k ^^^ y >>> k := BitVec.ushiftRight_xor_distrib x y k
theorem sh_sh (x : BitVec 64) (a b : Nat) : x >>> a >>> b = x >>> (a + b) := (BitVec.shiftRight_add x a b).symm
theorem sh_zero (x : BitVec 64) (k : Nat) (h : 64 ≤ k) : x >>> k = 0#64 := by
  apply BitVec.eq_of_toNat_eq
  rw [BitVec.toNat_ushiftRight, Nat.shiftRight_eq_div_pow]
  have := x.isLt
  have h2 : 2 ^ 64 ≤ 2 ^ k := Nat.pow_le_pow_right (by omega) h
  simp; omega
theorem xor_self (x : BitVec 64) : x ^^^ x = 0#64 := BitVec.xor_self
theorem xor_zero (x : BitVec 64) : x ^^^ 0#64 = x := BitVec.xor_zero
theorem xor_cancel (x y : BitVec 64) : x ^^^ (x ^^^ y) = y := by rw [← BitVec.xor_assoc, xor_self, BitVec.zero_xor]
theorem xor_cancel' (x y : BitVec 64) : x ^^^ y ^^^ y = x := by rw [BitVec.xor_assoc, xor_self, xor_zero]

theorem un32 (x : BitVec 64) : (x ^^^ x >>> 32) ^^^ (x ^^^ x >>> 32) >>> 32 = x := by
  rw [sh_xor, sh_sh, sh_zero x (32 + 32) (by omega), xor_zero, xor_cancel']
theorem un29 (x : BitVec 64) : (x ^^^ x >>> 29) ^^^ ((x ^^^ x >>> 29) >>> 29 ^^^ (x ^^^ x >>> 29) >>> 58) = x := by
  rw [sh_xor, sh_xor, sh_sh, sh_sh, sh_zero x (29 + 58) (by omega), xor_zero]
  rw [show (29 + 29) = 58 from rfl, BitVec.xor_assoc (x >>> 29), xor_self, xor_zero, xor_cancel']
theorem un29' (x : BitVec 64) : (x ^^^ (x >>> 29 ^^^ x >>> 58)) ^^^ (x ^^^ (x >>> 29 ^^^ x >>> 58)) >>> 29 = x := by
  rw [sh_xor, sh_xor, sh_sh, sh_sh, sh_zero x (58 + 29) (by omega), xor_zero]
  rw [show (29 + 29) = 58 from rfl, BitVec.xor_assoc, xor_self, xor_zero]

theorem back_step (h w : BitVec 64) : back h (step h w) = w := by
  unfold back step
  simp only [un32, unmul _ _ _ invB_mul, un29, unmul _ _ _ invA_mul]
  rw [BitVec.xor_comm h w, xor_cancel']
theorem step_back (h x : BitVec 64) : step h (back h x) = x := by
  unfold back step
  simp only []
  rw [BitVec.xor_comm _ h, xor_cancel]
  simp only [unmul' _ _ _ invA_mul, un29', unmul' _ _ _ invB_mul, un32]
theorem step_comm (h w : BitVec 64) : step h w = step w h := by unfold step; rw [BitVec.xor_comm h w]
theorem step_inj {h v w : BitVec 64} (e : step h v = step h w) : v = w := by rw [← back_step h v, e, back_step]
theorem step_inj' {h v w : BitVec 64} (e : step v h = step w h) : v = w := by rw [step_comm v, step_comm w] at e; exact step_inj e

def words (l : List Int) : BitVec 64 := l.foldl (fun h x => step h (B x)) (step 2611923443488327891#64 (B l.length))
def fold (h : BitVec 64) (l : List Int) : BitVec 64 := l.foldl (fun h x => step h (B x)) h
theorem words_fold (l : List Int) : words l = fold (step 2611923443488327891#64 (B l.length)) l := rfl
theorem fold_append (h : BitVec 64) (l r : List Int) : fold h (l ++ r) = fold (fold h l) r := by simp [fold, List.foldl_append]
theorem fold_inj : ∀ (l : List Int) (h h' : BitVec 64), fold h l = fold h' l → h = h' := by
  intro l
  induction l with
  | nil => intro h h' e; exact e
  | cons x l ih => intro h h' e; exact step_inj' (ih _ _ e)
theorem split_at (l : List Int) (k : Nat) (hk : k < l.length) : l = l.take k ++ l.getD k 0 :: l.drop (k + 1) := by
  have h : l.getD k 0 = l[k] := by simp [List.getD, hk]
  rw [h, List.getElem_cons_drop, List.take_append_drop]
theorem set_split (l : List Int) (k : Nat) (v : Int) (hk : k < l.length) : l.set k v = l.take k ++ v :: l.drop (k + 1) := by
  rw [List.set_eq_take_append_cons_drop, if_pos hk]
theorem words_set (l : List Int) (k : Nat) (v : Int) (hk : k < l.length) : words l = words (l.set k v) ↔ B (l.getD k 0) = B v := by
  rw [words_fold, words_fold, List.length_set]
  generalize step 2611923443488327891#64 (B l.length) = s
  rw [set_split l k v hk]
  conv => lhs; lhs; rw [split_at l k hk]
  rw [fold_append, fold_append]
  constructor
  · intro h
    exact step_inj (fold_inj _ _ _ h)
  · intro h
    show fold (step _ (B (l.getD k 0))) _ = fold (step _ (B v)) _
    rw [h]
theorem B_inj64 {x y : Int} (hx : -9223372036854775808 ≤ x) (hx' : x < 9223372036854775808) (hy : -9223372036854775808 ≤ y) (hy' : y < 9223372036854775808) (h : B x = B y) : x = y := by
  unfold B at h
  have := congrArg BitVec.toInt h
  rw [BitVec.toInt_ofInt, BitVec.toInt_ofInt] at this
  simp only [Int.bmod] at this
  omega
theorem words_pair (a b : List Int) (x y : Int) : words (a ++ x :: b) = words (a ++ y :: b) ↔ B x = B y := by
  have h := words_set (a ++ x :: b) a.length y (by simp)
  have e1 : (a ++ x :: b).set a.length y = a ++ y :: b := by simp
  have e2 : (a ++ x :: b).getD a.length 0 = x := by simp
  rw [e1, e2] at h
  exact h
end Go.Proofs.YtifeioddiddnoaaGreatDoor.Dg
namespace Go.Proofs.YtifeioddiddnoaaGreatDoor
open Go.Abs Go Go.RowKit
set_option maxRecDepth 20000
def dgx (k : Nat) : Nat := if k = 0 then 0 else if k = 1 then 4 else k + 3
theorem dgx_inj : ∀ a b, dgx a = dgx b → a = b := by intro a b h; unfold dgx at h; repeat' split at h
                                                     all_goals omega
theorem dgx_hi (a : Nat) (ha : 2 ≤ a) : 5 ≤ dgx a := by unfold dgx; repeat' split
                                                        all_goals omega
def uA (x : BitVec 64) : A := .val (.int .u64 (x.toNat : Int))
theorem wrap_bv (x : BitVec 64) : IntKind.u64.wrap (x.toNat : Int) = (x.toNat : Int) := by
  have := x.isLt
  exact wrap_u64 ⟨by omega, by omega⟩
theorem xorE (x y : BitVec 64) : some (A.val (.int .u64 (IntKind.u64.wrap ((BitVec.ofInt 64 (x.toNat : Int) ^^^ BitVec.ofInt 64 (y.toNat : Int)).toNat : Nat)))) = some (uA (x ^^^ y)) := by
  rw [show BitVec.ofInt 64 (x.toNat : Int) = x by rw [BitVec.ofInt_natCast]; simp, show BitVec.ofInt 64 (y.toNat : Int) = y by rw [BitVec.ofInt_natCast]; simp, wrap_bv]; rfl
theorem mulE (x c : BitVec 64) (n : Int) (hc : (c.toNat : Int) = n) : some (A.val (.int .u64 (IntKind.u64.wrap ((x.toNat : Int) * n)))) = some (uA (x * c)) := by
  subst hc
  unfold uA
  rw [BitVec.toNat_mul, IntKind.wrap_u64]
  simp
theorem shrE (x : BitVec 64) (k : Nat) (hk : k < 64) : some (A.val (.int .u64 ((x.toNat : Int).fdiv (2 ^ min ((k : Nat) : Int).toNat 64)))) = some (uA (x >>> k)) := by
  rw [Int.toNat_natCast, Nat.min_eq_left (by omega), Int.fdiv_eq_ediv_of_nonneg _ (Int.le_of_lt (Int.pow_pos (by decide)))]
  unfold uA
  rw [BitVec.toNat_ushiftRight, Nat.shiftRight_eq_div_pow]
  simp
theorem cvE (x : Int) : some (A.val (.int .u64 (IntKind.u64.wrap x))) = some (uA (Dg.B x)) := by
  unfold uA Dg.B
  rw [IntKind.wrap_u64, BitVec.toNat_ofInt]
  congr 3
  omega
theorem step_fc (h w : BitVec 64) : FC Tryz.prog ge 84 [uA h, uA w] [] (uA (Dg.step h w)) [] NoP := by
  refine FC.of_AW tok Tryz.func84 (by kernel_rfl) rfl Tryz.ntmps84 [] rfl rfl rfl ?_; intro w0 X0 Y f0 hI0 hX0
  refine S1 ?_; (repeat (first | refine K4 ?_ | refine RG.d ?_ | refine S2 ?_))
  refine S1 ?_
  refine S2 ?_
  (first | refine K4 ?_)
  (first | refine K4 ?_)
  refine RG.val tok rfl rfl rfl trivial rfl (xorE h w) ?_
  refine RG.val tok rfl rfl rfl trivial rfl (mulE (h ^^^ w) Dg.mulA 11400714819323198485 rfl) ?_
  obtain ⟨x, hx⟩ : ∃ x, x = (h ^^^ w) * Dg.mulA := ⟨_, rfl⟩
  rw [show Dg.step h w = (x ^^^ x >>> 29) * Dg.mulB ^^^ ((x ^^^ x >>> 29) * Dg.mulB) >>> 32 by rw [hx]; rfl, ← hx]
  (repeat (first | refine K4 ?_ | refine RG.d ?_))
  refine S1 ?_
  refine S2 ?_
  (first | refine K4 ?_)
  (first | refine K4 ?_)
  refine RG.val tok rfl rfl rfl (show (0 : Int) ≤ 29 by decide) rfl (shrE x 29 (by decide)) ?_
  refine RG.val tok rfl rfl rfl trivial rfl (xorE x (x >>> 29)) ?_
  refine RG.val tok rfl rfl rfl trivial rfl (mulE (x ^^^ x >>> 29) Dg.mulB 13787848793156543929 rfl) ?_
  obtain ⟨y, hy⟩ : ∃ y, y = (x ^^^ x >>> 29) * Dg.mulB := ⟨_, rfl⟩
  rw [← hy]
  (repeat (first | refine K4 ?_ | refine RG.d ?_))
  refine S1 ?_
  refine S2 ?_
  (first | refine K4 ?_)
  (first | refine K4 ?_)
  refine RG.val tok rfl rfl rfl (show (0 : Int) ≤ 32 by decide) rfl (shrE y 32 (by decide)) ?_
  refine RG.val tok rfl rfl rfl trivial rfl (xorE y (y >>> 32)) ?_
  (repeat (first | refine K4 ?_ | refine RG.d ?_ | refine S6 ?_))
  exact ⟨⟨_, rfl, rfl⟩, rfl, .nil _⟩
theorem words_fc (l : List Int) (hl : l.length ≤ 100000) : FC Tryz.prog ge 56 [rdi l] [] (uA (Dg.words l)) [] NoP := by
  have c0 := step_fc 2611923443488327891#64 (Dg.B l.length)
  obtain ⟨W, hW⟩ : ∃ W, W = Dg.words l := ⟨_, rfl⟩
  rw [← hW]
  refine FC.of_AW tok Tryz.func56 (by kernel_rfl) rfl Tryz.ntmps56 [] rfl rfl rfl ?_; intro w0 X0 Y f0 hI0 hX0
  refine S1 ?_; (repeat (first | refine K4 ?_ | refine RG.d ?_ | refine S2 ?_))
  refine S1 ?_
  refine S2 ?_
  (first | refine K4 ?_)
  (first | refine K4 ?_)
  refine RG.val tok rfl rfl rfl trivial rfl (cvE (l.length : Int)) ?_
  refine RG.call rfl rfl rfl rfl (c0) [] rfl rfl rfl rfl (.nil _) (.nil _) (fun _ h => False.elim h) rfl (A.ren_free _ _ rfl) rfl ?_
  (repeat (first | refine K4 ?_ | refine RG.d ?_))
  refine AW.seqJ (fun _ : Unit => ⟨put 3 (some (uA W)) noE, noH, 0⟩) (fun _ => True) ?_ ?_
  · refine S1 ?_; (repeat (first | refine K4 ?_ | refine RG.d ?_ | refine S2 ?_ | refine S4 ?_))
    refine AW.loopS (fun i : Nat => ⟨put 3 (some (uA (Dg.fold (Dg.step 2611923443488327891#64 (Dg.B l.length)) (l.take i)))) (put 10 (some (rdi l)) (put 11 (some (i64 (l.length : Int))) (put 12 (some (i64 (i : Int))) noE))), noH, 0⟩)
      (fun i => i ≤ l.length) (fun i => l.length - i) 0 (Nat.zero_le _) (Sub.of (by repeat (first | exact SubE.no _ | refine SubE.put rfl ?_)) (by repeat (first | exact SubH.no _ | refine SubH.put rfl ?_)) rfl) ?_
    intro i hi
    (repeat (first | refine K4 ?_ | refine RG.d ?_ | refine S1 ?_ | refine S2 ?_))
    refine AW.condD rfl (fun k => ?_) (fun k => ?_)
    rotate_left
    · have hi2 : i = l.length := by
        have : ¬ (i : Int) < (l.length : Int) := k
        omega
      rw [hi2, List.take_length, ← Dg.words_fold, ← hW]
      (repeat (first | refine S5 ?_))
      exact ⟨(), trivial, Sub.of (by repeat (first | exact SubE.no _ | refine SubE.put rfl ?_)) (by repeat (first | exact SubH.no _ | refine SubH.put rfl ?_)) rfl⟩
    have hi2 : i < l.length := by
      have : (i : Int) < (l.length : Int) := k
      omega
    obtain ⟨x, hx⟩ : ∃ x, l[i]? = some x := ⟨_, List.getElem?_eq_getElem hi2⟩
    have hat := ints_cut l i x hx .i64
    have cx := step_fc (Dg.fold (Dg.step 2611923443488327891#64 (Dg.B l.length)) (l.take i)) (Dg.B x)
    rw [show Dg.step (Dg.fold (Dg.step 2611923443488327891#64 (Dg.B l.length)) (l.take i)) (Dg.B x) = Dg.fold (Dg.step 2611923443488327891#64 (Dg.B l.length)) (l.take (i + 1)) by rw [take_snoc l i x hx, Dg.fold_append]; rfl] at cx
    refine S3 ?_
    refine S1 ?_; (repeat (first | refine S4 ?_))
    refine S1 ?_
    refine S2 ?_
    refine RG.idx tok rfl rfl rfl rfl rfl rfl hat ⟨by omega, by omega⟩ rfl ?_
    (first | refine L1 ?_)
    (first | refine K4 ?_)
    (first | refine RG.d ?_ | refine RG.dd ?_)
    refine S2 ?_
    (first | refine K4 ?_)
    (first | refine K4 ?_)
    refine RG.val tok rfl rfl rfl trivial rfl (cvE x) ?_
    refine RG.call rfl rfl rfl rfl (cx) [] rfl rfl rfl rfl (.nil _) (.nil _) (fun _ h => False.elim h) rfl (A.ren_free _ _ rfl) rfl ?_
    (repeat (first | refine K2 ?_ | refine K4 ?_ | refine RG.d ?_ | refine S2 ?_))
    exact ⟨i + 1, by show i + 1 ≤ l.length; omega, by show l.length - (i + 1) < l.length - i; omega, Sub.of (by repeat (first | exact SubE.no _ | refine SubE.put rfl ?_)) (by repeat (first | exact SubH.no _ | refine SubH.put rfl ?_)) rfl⟩
  intro _ _
  (repeat (first | refine K4 ?_ | refine RG.d ?_ | refine S1 ?_ | refine S2 ?_ | refine S6 ?_))
  exact ⟨⟨_, rfl, rfl⟩, rfl, .nil _⟩
theorem dstepR_fc (h w : BitVec 64) : FC Tryz.prog ge 85 [uA h, uA w] [] (uA (Dg.step h w)) [] NoP := by
  refine FC.of_AW tok Tryz.func85 (by kernel_rfl) rfl Tryz.ntmps85 [] rfl rfl rfl ?_; intro w0 X0 Y f0 hI0 hX0
  refine S1 ?_; (repeat (first | refine K4 ?_ | refine RG.d ?_ | refine S2 ?_))
  refine S1 ?_
  refine S2 ?_
  (first | refine K4 ?_)
  (first | refine K4 ?_)
  refine RG.val tok rfl rfl rfl trivial rfl (xorE h w) ?_
  (repeat (first | refine K4 ?_ | refine RG.d ?_))
  refine S1 ?_
  refine S2 ?_
  (first | refine K4 ?_)
  refine RG.val tok rfl rfl rfl trivial rfl (mulE (h ^^^ w) Dg.mulA 11400714819323198485 rfl) ?_
  obtain ⟨x, hx⟩ : ∃ x, x = (h ^^^ w) * Dg.mulA := ⟨_, rfl⟩
  rw [show Dg.step h w = (x ^^^ x >>> 29) * Dg.mulB ^^^ ((x ^^^ x >>> 29) * Dg.mulB) >>> 32 by rw [hx]; rfl, ← hx]
  (repeat (first | refine K4 ?_ | refine RG.d ?_))
  refine S1 ?_
  refine S2 ?_
  (first | refine K4 ?_)
  (first | refine K4 ?_)
  refine RG.val tok rfl rfl rfl (show (0 : Int) ≤ 29 by decide) rfl (shrE x 29 (by decide)) ?_
  refine RG.val tok rfl rfl rfl trivial rfl (xorE x (x >>> 29)) ?_
  (repeat (first | refine K4 ?_ | refine RG.d ?_))
  refine S1 ?_
  refine S2 ?_
  (first | refine K4 ?_)
  refine RG.val tok rfl rfl rfl trivial rfl (mulE (x ^^^ x >>> 29) Dg.mulB 13787848793156543929 rfl) ?_
  obtain ⟨y, hy⟩ : ∃ y, y = (x ^^^ x >>> 29) * Dg.mulB := ⟨_, rfl⟩
  rw [← hy]
  (repeat (first | refine K4 ?_ | refine RG.d ?_))
  refine S1 ?_
  refine S2 ?_
  (first | refine K4 ?_)
  (first | refine K4 ?_)
  refine RG.val tok rfl rfl rfl (show (0 : Int) ≤ 32 by decide) rfl (shrE y 32 (by decide)) ?_
  refine RG.val tok rfl rfl rfl trivial rfl (xorE y (y >>> 32)) ?_
  (repeat (first | refine K4 ?_ | refine RG.d ?_ | refine S6 ?_))
  exact ⟨⟨_, rfl, rfl⟩, rfl, .nil _⟩
theorem rwordsD_fc (l : List Int) (hl : l.length ≤ 100000) : FC Tryz.prog ge 57 [rdi l] [] (uA (Dg.words l)) [] NoP := by
  have c0 := dstepR_fc 2611923443488327891#64 (Dg.B l.length)
  obtain ⟨W, hW⟩ : ∃ W, W = Dg.words l := ⟨_, rfl⟩
  rw [← hW]
  refine FC.of_AW tok Tryz.func57 (by kernel_rfl) rfl Tryz.ntmps57 [] rfl rfl rfl ?_; intro w0 X0 Y f0 hI0 hX0
  refine S1 ?_; (repeat (first | refine K4 ?_ | refine RG.d ?_ | refine S2 ?_))
  refine S1 ?_
  refine S2 ?_
  (first | refine K4 ?_)
  (first | refine K4 ?_)
  refine RG.val tok rfl rfl rfl trivial rfl (cvE (l.length : Int)) ?_
  refine RG.call rfl rfl rfl rfl (c0) [] rfl rfl rfl rfl (.nil _) (.nil _) (fun _ h => False.elim h) rfl (A.ren_free _ _ rfl) rfl ?_
  (repeat (first | refine K4 ?_ | refine RG.d ?_))
  refine AW.seqJ (fun _ : Unit => ⟨put 3 (some (uA W)) noE, noH, 0⟩) (fun _ => True) ?_ ?_
  · refine S1 ?_; (repeat (first | refine K4 ?_ | refine RG.d ?_ | refine S2 ?_ | refine S4 ?_))
    refine AW.loopS (fun i : Nat => ⟨put 0 (some (rdi l)) (put 3 (some (uA (Dg.fold (Dg.step 2611923443488327891#64 (Dg.B l.length)) (l.take i)))) (put 4 (some (i64 (i : Int))) noE)), noH, 0⟩)
      (fun i => i ≤ l.length) (fun i => l.length - i) 0 (Nat.zero_le _) (Sub.of (by repeat (first | exact SubE.no _ | refine SubE.put rfl ?_)) (by repeat (first | exact SubH.no _ | refine SubH.put rfl ?_)) rfl) ?_
    intro i hi
    (repeat (first | refine K4 ?_ | refine RG.d ?_ | refine S1 ?_ | refine S2 ?_))
    refine AW.condD rfl (fun k => ?_) (fun k => ?_)
    rotate_left
    · have hi2 : i = l.length := by
        have : ¬ (i : Int) < (l.length : Int) := k
        omega
      rw [hi2, List.take_length, ← Dg.words_fold, ← hW]
      (repeat (first | refine S5 ?_))
      exact ⟨(), trivial, Sub.of (by repeat (first | exact SubE.no _ | refine SubE.put rfl ?_)) (by repeat (first | exact SubH.no _ | refine SubH.put rfl ?_)) rfl⟩
    have hi2 : i < l.length := by
      have : (i : Int) < (l.length : Int) := k
      omega
    obtain ⟨x, hx⟩ : ∃ x, l[i]? = some x := ⟨_, List.getElem?_eq_getElem hi2⟩
    have hat := ints_cut l i x hx .i64
    have cx := dstepR_fc (Dg.fold (Dg.step 2611923443488327891#64 (Dg.B l.length)) (l.take i)) (Dg.B x)
    rw [show Dg.step (Dg.fold (Dg.step 2611923443488327891#64 (Dg.B l.length)) (l.take i)) (Dg.B x) = Dg.fold (Dg.step 2611923443488327891#64 (Dg.B l.length)) (l.take (i + 1)) by rw [take_snoc l i x hx, Dg.fold_append]; rfl] at cx
    refine S3 ?_
    repeat (first | refine S1 ?_ | refine S4 ?_)
    refine S2 ?_
    (first | refine K4 ?_)
    (first | refine K4 ?_)
    (first | refine K4 ?_)
    refine RG.idx tok rfl rfl rfl rfl rfl rfl hat ⟨by omega, by omega⟩ rfl ?_
    (first | refine L1 ?_)
    refine RG.val tok rfl rfl rfl trivial rfl (cvE x) ?_
    refine RG.call rfl rfl rfl rfl (cx) [] rfl rfl rfl rfl (.nil _) (.nil _) (fun _ h => False.elim h) rfl (A.ren_free _ _ rfl) rfl ?_
    (repeat (first | refine K2 ?_ | refine K4 ?_ | refine RG.d ?_ | refine S2 ?_))
    exact ⟨i + 1, by show i + 1 ≤ l.length; omega, by show l.length - (i + 1) < l.length - i; omega, Sub.of (by repeat (first | exact SubE.no _ | refine SubE.put rfl ?_)) (by repeat (first | exact SubH.no _ | refine SubH.put rfl ?_)) rfl⟩
  intro _ _
  (repeat (first | refine K4 ?_ | refine RG.d ?_ | refine S1 ?_ | refine S2 ?_ | refine S6 ?_))
  exact ⟨⟨_, rfl, rfl⟩, rfl, .nil _⟩
theorem Sy.w_len (s : Sy) : s.w.length = 10 + 2 * s.pairs.length := by
  unfold Sy.w
  rw [List.length_append, prW_len]; rfl
theorem rdigest_fc (s : Sy) (hl : s.pairs.length ≤ 1000) : FC Tryz.prog ge 26 [.agg s.cl] [] (uA (Dg.words s.w)) [] NoP := by
  have c1 := rwords_fc s hl
  have c2 := rwordsD_fc s.w (by rw [Sy.w_len]; omega)
  obtain ⟨x1, ⟨x2, x3, x4, x5, x6⟩, x7, x8, x9, l, x11⟩ := s
  simp only [Sy.cl, List.cons_append, List.nil_append] at c1 c2 ⊢
  refine FC.of_AW tok Tryz.func26 (by kernel_rfl) rfl Tryz.ntmps26 [] rfl rfl rfl ?_; intro w0 X0 Y f0 hI0 hX0
  (repeat (first | refine K4 ?_ | refine L1 ?_ | refine L2 ?_ | refine RG.d ?_ | refine S1 ?_ | refine S2 ?_))
  refine RG.call rfl rfl rfl rfl (c1) [] rfl rfl rfl rfl (.nil _) (.nil _) (fun _ h => False.elim h) rfl (A.ren_free _ _ rfl) rfl ?_
  refine RG.call rfl rfl rfl rfl (c2) [] rfl rfl rfl rfl (.nil _) (.nil _) (fun _ h => False.elim h) rfl (A.ren_free _ _ rfl) rfl ?_
  (repeat (first | refine K4 ?_ | refine RG.d ?_ | refine S6 ?_))
  exact ⟨⟨_, rfl, rfl⟩, rfl, .nil _⟩
set_option maxHeartbeats 8000000 in
theorem digest_fc (s : Sy) (hl : s.pairs.length ≤ 1000) : FC Tryz.prog ge 25 [.agg s.cl] [] (uA (Dg.words s.w)) [] NoP := by
  have cw := words_fc s.w (by rw [Sy.w_len]; omega)
  obtain ⟨W, hW⟩ : ∃ W, W = s.w := ⟨_, rfl⟩
  rw [← hW] at cw ⊢
  obtain ⟨x1, ⟨x2, x3, x4, x5, x6⟩, x7, x8, x9, l, x11⟩ := s
  dsimp only at hl
  simp only [Sy.w] at hW
  simp only [Sy.cl]
  refine FC.of_AW tok Tryz.func25 (by kernel_rfl) rfl Tryz.ntmps25 [] rfl rfl rfl ?_; intro w0 X0 Y f0 hI0 hX0
  (repeat (first | refine K4 ?_ | refine L1 ?_ | refine L2 ?_ | refine RG.d ?_ | refine S1 ?_ | refine S2 ?_ | refine S4 ?_))
  refine AW.loopS (fun p : Nat × List Int => ⟨put 1 (some (.ptr 0 [] 0)) (put 3 (some (.sl 1 [] 1 0 p.2.length)) (put 33 (some (rdP l)) (put 34 (some (i64 (l.length : Int))) (put 35 (some (i64 (p.1 : Int))) noE)))), hput 0 (.one ([i64 x1, i64 x2, i64 x3, i64 x4, i64 x5, i64 x6, i64 x7, i64 x8, i64 x9, rdP l, i64 x11])) (hput 1 (.one (ints .i64 p.2)) noH), 2⟩) (fun p => p.1 ≤ l.length ∧ p.2.length = 10 + 2 * p.1 ∧ W = p.2 ++ prW (l.drop p.1)) (fun p => l.length - p.1) (0, [x1, x2, x3, x4, x5, x6, x7, x8, x9, x11]) ⟨Nat.zero_le _, rfl, hW⟩ (Sub.of (by repeat (first | exact SubE.no _ | refine SubE.put rfl ?_)) (by repeat (first | exact SubH.no _ | refine SubH.put rfl ?_)) rfl) ?_
  rintro ⟨i, U⟩ ⟨hi, hU, h1⟩
  dsimp only at hi hU h1
  have lU := Go.Abs.ints_length .i64 U
  (repeat (first | refine K4 ?_ | refine RG.d ?_ | refine S1 ?_ | refine S2 ?_))
  refine AW.condD rfl (fun k => ?_) (fun k => ?_)
  rotate_left
  · have k : ¬ (i : Int) < (l.length : Int) := k
    rw [List.drop_eq_nil_of_le (by omega)] at h1
    have h1 : U = W := by rw [h1]; exact (List.append_nil U).symm
    subst h1
    refine AW.sub (Sub.frz (ks := [1]) 3 rfl (frzI rfl (.head _) rfl)) ?_
    (repeat (first | refine K4 ?_ | refine S1 ?_ | refine S2 ?_ | refine S5 ?_))
    refine RG.call rfl rfl rfl rfl (cw) [] rfl rfl rfl rfl (.nil _) (.nil _) (fun _ h => False.elim h) rfl (A.ren_free _ _ rfl) rfl ?_
    (repeat (first | refine K4 ?_ | refine RG.d ?_ | refine S6 ?_))
    exact ⟨⟨_, rfl, rfl⟩, rfl, .nil _⟩
  have k : (i : Int) < (l.length : Int) := k
  obtain ⟨y, hy⟩ : ∃ y, l[i]? = some y := ⟨_, List.getElem?_eq_getElem (by omega)⟩
  have hat := flC_at Pr.cl_len l i y hy
  rw [drop_cons hy] at h1
  obtain ⟨y1, y2, y3⟩ := y
  simp only [Pr.cl, List.cons_append, List.nil_append] at hat
  obtain ⟨Z, hZ⟩ : ∃ Z, Z = U ++ [y1, y2] := ⟨_, rfl⟩
  have h2 : W = Z ++ prW (l.drop (i + 1)) := by rw [h1, hZ, List.append_assoc]; rfl
  have lZ : Z.length = U.length + 2 := by rw [hZ, List.length_append]; rfl
  refine S3 ?_
  repeat (first | refine S1 ?_ | refine S4 ?_)
  refine S2 ?_
  refine RG.idx tok rfl rfl rfl rfl rfl rfl hat ⟨by omega, by omega⟩ rfl ?_
  (repeat (first | refine K4 ?_ | refine L1 ?_ | refine L2 ?_ | refine L3 ?_ | refine RG.d ?_ | refine S2 ?_))
  refine RG.append tok rfl rfl rfl rfl rfl rfl rfl rfl (n1 := U.length) (c := ints .i64 U) (ks := [1]) rfl (m := 2) (ks' := [3]) rfl rfl (by omega) rfl (by omega) (by omega) rfl (c' := ints .i64 Z) (by rw [List.take_of_length_le (by omega), hZ, ints_append]; rfl) ?_
  rw [show U.length + 2 = Z.length by omega]
  (repeat (first | refine K2 ?_ | refine K4 ?_ | refine RG.d ?_ | refine S2 ?_))
  exact ⟨(i + 1, Z), ⟨by dsimp only; omega, by show Z.length = 10 + 2 * (i + 1); omega, h2⟩, by dsimp only; omega, Sub.renB dgx (by repeat (first | exact SubEr.no _ _ | refine SubEr.put rfl ?_)) (SubHr.put rfl rfl (SubHr.put rfl (ints_free _ _ _) (SubHr.no _ _))) dgx_inj (fun a ha => dgx_hi a ha) (fun a ha => absurd ha (Nat.not_lt_zero _))⟩
end Go.Proofs.YtifeioddiddnoaaGreatDoor
