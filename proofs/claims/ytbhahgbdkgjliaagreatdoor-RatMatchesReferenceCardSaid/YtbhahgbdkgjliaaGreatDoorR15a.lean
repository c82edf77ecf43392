/- Comparing what is the same. No conditions. -/
import Derived.Test.YtbhahgbdkgjliaaGreatDoorR14
import Derived.Test.YtbhahgbdkgjliaaGreatDoorR12
import Derived.Test.YtbhahgbdkgjliaaGreatDoorRZ
set_option linter.unusedVariables false
set_option linter.unusedSimpArgs false
namespace Go.Proofs.YtbhahgbdkgjliaaGreatDoor
open Go.Abs Go Go.RowKit
section
variable {P : Program} {L : List (Nat × TI)} {C : Ctx} {ops : Array Oper} {draw : Bool} {Q : AQ} {s0 : St} {tr : List TE} {e : Nat → Option A} {h : Nat → Reg} {n : Nat}
def noS : List TK → Bool
  | [] => true
  | .int _ :: l => noS l
  | .bool :: l => noS l
  | _ :: _ => false
theorem veqL_refl : ∀ {ks : List TK} {xs : List Value}, noS ks = true → fitL ks xs = true → veqL xs xs = true
  | [], xs, _, h => by rw [fit_nil h]; rfl
  | k :: ks, xs, hn, h => by
    obtain ⟨v, us, rfl, h1, h2⟩ := fit_cons h
    have e2 := veqL_refl (ks := ks) (by cases k <;> simp_all [noS]) h2
    have e1 : veq v v = true := by
      cases k with
      | int k => obtain ⟨b, rfl⟩ := fit_int h1; simp [veq]
      | bool => obtain ⟨b, rfl⟩ := fit_bool h1; simp [veq]
      | _ => simp [noS] at hn
    cases us with
    | nil => simpa [veqL] using e1
    | cons u us => simp [veqL, e1, e2]
theorem RG.eqS {E : List (Nat × List TK)} (hE : EOk P E) {d : Option Tmp} {op : BinOp} {t t2 : TypeId} {x y : Operand} {ty : TypeId} {pos : String} {af : Array Edge} {g : Option (Nat × Bool)} {l : List A} {xs : List Value} {ks : List TK} {r r' : A}
    (ho : ops[tr.length]? = some ⟨d, .binOp op t x y t2, ty, pos, af, g⟩) (hg : wantA ops g e = some true)
    (hx : evE e x = some (.agg l)) (hy : evE e y = some (.agg l)) (h1 : valsO l = some xs) (hk : lookE E t = some ks) (hf1 : fitL ks xs = true) (hn : noS ks = true)
    (hb : eqR op true = some (r, True)) (hd : dOk C d = true) (hr' : r = r')
    (hr : RG P C ops draw Q s0 (⟨fpOf ops ⟨d, .binOp op t x y t2, ty, pos, af, g⟩ [], d, ⟨some r', [], 0⟩, n⟩ :: tr) ⟨putd d (some r') e, h, n⟩) : RG P C ops draw Q s0 tr ⟨e, h, n⟩ :=
  RG.eqA hE ho hg hx hy h1 h1 hk hf1 hf1 (by rw [veqL_refl hn hf1]; exact hb) hd hr' hr
end
theorem Rt.res_fit {q : Rat} (h : Rt.Fit q) : Rt.res q = Rt.ok q := by unfold Rt.res; rw [if_pos h]
theorem Rt.res_not {q : Rat} (h : ¬ Rt.Fit q) : Rt.res q = Rt.big := by unfold Rt.res; rw [if_neg h]
end Go.Proofs.YtbhahgbdkgjliaaGreatDoor
