/- What every result without an error is. No conditions. -/
import Derived.Test.YtbhahgbdkgjliaaDoorFc15a
set_option linter.unusedVariables false
set_option linter.unusedSimpArgs false
namespace Go.Proofs.YtbhahgbdkgjliaaDoor
open Go.Abs Go Go.RowKit
namespace Rt
/-- A result is valid if it has no error, and nothing if it has one. -/
structure Good (r : R) : Prop where
  n : I64 r.n
  d : I64 r.d
  v : validB r.n r.d = decide (r.e = 0)
  z : r.e ≠ 0 → r.n = 0 ∧ r.d = 0
theorem good_ok {q : Rat} (h : Fit q) : Good (ok q) := by
  have hn := h.num
  have hd := h.den
  have hp := q.den_pos
  refine ⟨⟨by show _ ≤ q.num; omega, by show q.num ≤ _; omega⟩, ⟨by show _ ≤ (q.den : Int); omega, by show (q.den : Int) ≤ _; omega⟩, ?_, fun k => absurd rfl k⟩
  have hr : Nat.gcd q.num.natAbs (q.den : Int).natAbs = 1 := by rw [Int.natAbs_natCast]; exact q.reduced
  show validB q.num (q.den : Int) = true
  unfold validB
  rw [decide_eq_true (show (1 : Int) ≤ (q.den : Int) by omega), decide_eq_true (show (q.den : Int) ≤ 4611686018427387904 by omega), decide_eq_true hn.1, decide_eq_true hn.2, decide_eq_true hr]
  rfl
theorem good_big : Good big := ⟨⟨by decide, by decide⟩, ⟨by decide, by decide⟩, rfl, fun _ => ⟨rfl, rfl⟩⟩
theorem good_zro : Good zro := ⟨⟨by decide, by decide⟩, ⟨by decide, by decide⟩, rfl, fun _ => ⟨rfl, rfl⟩⟩
theorem good_res (q : Rat) : Good (res q) := by
  unfold res
  split
  · rename_i h; exact good_ok h
  · exact good_big
theorem good_dv (a b : Rat) : Good (dv a b) := by
  unfold dv
  split
  · exact good_zro
  · exact good_res _
theorem good_nw (n d : Int) : Good (nw n d) := by
  unfold nw
  split
  · exact good_zro
  · exact good_res _
theorem good_sum : ∀ (l : List Rat) (s : Rat), Fit s → Good (sumF s l)
  | [], s, h => good_ok h
  | x :: l, s, _ => by
    unfold sumF
    split
    · rename_i k; exact good_sum l _ k
    · exact good_big
theorem mn_fit {a b : Rat} (ha : Fit a) (hb : Fit b) : Fit (mn a b) := by
  unfold mn
  split
  · exact hb
  · exact ha
end Rt
def resL : List Rt.R → List A
  | [] => []
  | r :: l => i64 r.n :: i64 r.d :: i64 r.e :: resL l
theorem resL_at : ∀ (l : List Rt.R) (i : Nat), i < l.length → dropO (i * 3) (resL l) = some (i64 (l.getD i Rt.big).n :: i64 (l.getD i Rt.big).d :: i64 (l.getD i Rt.big).e :: resL (l.drop (i + 1)))
  | [], i, h => by simp at h
  | q :: l, 0, _ => by simp [dropO, resL]
  | q :: l, i + 1, h => by
    have := resL_at l i (by simpa using h)
    rw [show (i + 1) * 3 = i * 3 + 1 + 1 + 1 by omega]
    simpa [dropO, resL] using this
/-- The second half, in plain numbers. -/
theorem low_plain (n d k : Int) (hn : n.natAbs < 1073741824) (hd : d.natAbs < 1073741824) (hd0 : d ≠ 0) (hk : k ≠ 0) :
    Rt.Fit (Rat.divInt n d) ∧ Rt.nw n d = Rt.ok (Rat.divInt n d) ∧ Rt.nw (n * k) (d * k) = Rt.ok (Rat.divInt n d) ∧ (Rat.divInt n d).num.natAbs ≤ n.natAbs ∧ (Rat.divInt n d).den ≤ d.natAbs ∧ (Rat.divInt n d).num * d = ((Rat.divInt n d).den : Int) * n := by
  have e1 : (Rat.divInt n d).num.natAbs ≤ n.natAbs := by rw [Rt.new_num n d hd0, Rt.val_abs]; exact Nat.div_le_self _ _
  have e2 : (Rat.divInt n d).den ≤ d.natAbs := by rw [Rt.new_den n d hd0]; exact Nat.div_le_self _ _
  have hf : Rt.Fit (Rat.divInt n d) := ⟨by unfold Rt.M; omega, by unfold Rt.M; omega⟩
  refine ⟨hf, by unfold Rt.nw; rw [if_neg hd0, Rt.res_fit hf], ?_, e1, e2, ?_⟩
  · unfold Rt.nw
    rw [if_neg (Int.mul_ne_zero hd0 hk), Rat.divInt_mul_right hk, Rt.res_fit hf]
  · have h1 : Rat.divInt (Rat.divInt n d).num ((Rat.divInt n d).den : Int) = Rat.divInt n d := Rat.num_divInt_den _
    have h2 := (Rat.divInt_eq_divInt_iff (by have := (Rat.divInt n d).den_pos; omega) hd0).1 h1
    rw [Int.mul_comm ((Rat.divInt n d).den : Int)]
    exact h2
end Go.Proofs.YtbhahgbdkgjliaaDoor
