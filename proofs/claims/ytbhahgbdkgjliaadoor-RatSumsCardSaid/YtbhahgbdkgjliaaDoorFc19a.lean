/- States under other numbers; slices of pairs. No conditions. -/
import Derived.Test.YtbhahgbdkgjliaaDoorFc17a
import Derived.Test.YtbhahgbdkgjliaaDoorFp7
set_option linter.unusedVariables false
set_option linter.unusedSimpArgs false
namespace Go.Abs
open Go.RowKit
section
variable {C : Ctx} {s t : St}
def SubEr (σ : Nat → Nat) (e e' : Nat → Option A) : Prop := ∀ i v, e i = some v → e' i = some (v.renP (fun k p => (σ k, p)))
def SubHr (σ : Nat → Nat) (h h' : Nat → Reg) : Prop := ∀ k p c, (h k).get p = some c → (h' (σ k)).get p = some (renPL (fun k p => (σ k, p)) c)
theorem SubEr.no (σ : Nat → Nat) (e' : Nat → Option A) : SubEr σ noE e' := fun i v h => by cases h
theorem SubEr.put {σ : Nat → Nat} {d : Nat} {v : A} {e e' : Nat → Option A} (h1 : e' d = some (v.renP (fun k p => (σ k, p)))) (h2 : SubEr σ e e') : SubEr σ (Go.Abs.put d (some v) e) e' := by
  intro i u hu
  by_cases hi : i = d
  · subst hi; rw [put_same] at hu; cases hu; exact h1
  · rw [put_ne _ _ hi] at hu; exact h2 i u hu
theorem SubHr.no (σ : Nat → Nat) (h' : Nat → Reg) : SubHr σ noH h' := fun k p c h => by simp [noH, Reg.get] at h
theorem SubHr.put {σ : Nat → Nat} {k : Nat} {c : List A} {h h' : Nat → Reg} (h1 : h' (σ k) = .one c) (hc : ltL 0 c = true) (h2 : SubHr σ h h') : SubHr σ (hput k (.one c) h) h' := by
  intro j p c' hj
  by_cases hk : j = k
  · subst hk
    rw [hput_same] at hj
    rw [h1]
    have e : c' = c := by
      cases p with
      | nil => simpa [Reg.get] using hj.symm
      | cons _ _ => simp [Reg.get] at hj
    rw [e] at hj ⊢
    rw [hj, renPL_free _ c hc]
  · rw [hput_ne _ _ hk] at hj; exact h2 j p c' hj
/-- Under other numbers. -/
theorem Sub.renB (σ : Nat → Nat) (he : SubEr σ t.e s.e) (hh : SubHr σ t.h s.h) (hinj : ∀ k k', σ k = σ k' → k = k') (hfr : ∀ k, t.n ≤ k → s.n ≤ σ k) (hq : ∀ k, k < C.q → σ k = k) : Sub C s t :=
  Sub.ren (fun k p => (σ k, p)) he hh (fun k p k' p' _ _ h => ⟨hinj k k' (congrArg Prod.fst h), congrArg Prod.snd h⟩) (fun k _ h => hfr k h) (fun k p h => by rw [hq k h])
end
section
variable {P : Program} {L : List (Nat × TI)} {C : Ctx} {ops : Array Oper} {draw : Bool} {Q : AQ} {s0 : St} {tr : List TE} {e : Nat → Option A} {h : Nat → Reg} {n : Nat}
/-- The place of an element of an array that is only read. -/
theorem RG.idxRp (hT : TOk P L) {d : Option Tmp} {t : TypeId} {x i : Operand} {ty : TypeId} {pos : String} {af : Array Edge} {g : Option (Nat × Bool)} {n1 : Nat} {l l' : List A} {kk : IntKind} {j : Int} {el a1 b1 st b2 : Nat} {c1 c2 : Bool} {z1 z2 : List A} {k2 : TK}
    (ho : ops[tr.length]? = some ⟨d, .indexAddr t x i, ty, pos, af, g⟩) (hg : wantA ops g e = some true) (hx : evE e x = some (.rp l)) (hi : evE e i = some (.val (.int kk j))) (ht : Go.Abs.look L t = some ⟨.array n1 el, a1, b1, c1, z1⟩) (hte : Go.Abs.look L el = some ⟨k2, st, b2, c2, z2⟩)
    (hl : dropO (iNat j * st) l = some l') (hb : 0 ≤ j ∧ j < n1) (hd : dOk C d = true)
    (hr : RG P C ops draw Q s0 (⟨fpOf ops ⟨d, .indexAddr t x i, ty, pos, af, g⟩ [], d, ⟨some (.rp l'), [], 0⟩, n⟩ :: tr) ⟨putd d (some (.rp l')) e, h, n⟩) : RG P C ops draw Q s0 tr ⟨e, h, n⟩ := by
  refine RG.yld ho hg (fun ev hev f X w ρ hρ => ?_) hd rfl hr
  have e0 := hρ x _ ((hev x (by simp [Op.operands])).trans hx)
  have e1 := (hρ i _ ((hev i (by simp [Op.operands])).trans hi)).val
  obtain ⟨u, k1, k2, k3⟩ := look_kind hT ht
  obtain rfl := kindOf_array k2
  have k4 := TIof.size (hT _ _ hte)
  dsimp only at k4
  obtain ⟨rfl, _⟩ := dropO_spec hl
  obtain ⟨q, h2, h3, h4⟩ := rp_drop (iNat j * st) e0
  refine Yld.mk (run_v ?_) h4
  simp [Instr.indexAt, asIntOf, e1, k3, h2, Instr.sureAddr, hb, k4, addr_add h3, iNat_eq]
end
end Go.Abs
namespace Go.Proofs.YtbhahgbdkgjliaaDoor
open Go.Abs Go Go.RowKit
def prL : List (Int × Int) → List A
  | [] => []
  | q :: l => .val (.int .i16 q.1) :: .val (.int .i16 q.2) :: prL l
theorem prL_at : ∀ (l : List (Int × Int)) (i : Nat), i < l.length → dropO (i * 2) (prL l) = some (.val (.int .i16 (l.getD i (0, 0)).1) :: .val (.int .i16 (l.getD i (0, 0)).2) :: prL (l.drop (i + 1)))
  | [], i, h => by simp at h
  | q :: l, 0, _ => by simp [dropO, prL]
  | q :: l, i + 1, h => by
    have := prL_at l i (by simpa using h)
    rw [show (i + 1) * 2 = i * 2 + 1 + 1 by omega]
    simpa [dropO, prL] using this
theorem frL_append : ∀ (l m : List Rat), frL (l ++ m) = frL l ++ frL m
  | [], m => rfl
  | q :: l, m => by rw [List.cons_append, frL, frL, frL_append l m]; rfl
theorem frL_take : ∀ (l : List Rat), (frL l).take (l.length * 2) = frL l := fun l => List.take_of_length_le (by rw [frL_len]; omega)
theorem frL_free : ∀ (l : List Rat), ltL 0 (frL l) = true
  | [] => rfl
  | q :: l => by simp only [frL, ltL, A.lt, Bool.and_eq_true, true_and]; exact frL_free l
theorem frL_cell : ∀ (l : List Rat), (frL l).all A.cell = true
  | [] => rfl
  | q :: l => by simp only [frL, List.all_cons, A.cell, Bool.and_eq_true]; exact ⟨rfl, rfl, frL_cell l⟩
theorem frL_dropN : ∀ (l : List Rat) (i : Nat), (frL l).drop (i * 2) = frL (l.drop i)
  | l, 0 => rfl
  | [], i + 1 => by simp [frL]
  | q :: l, i + 1 => by
    rw [show (i + 1) * 2 = i * 2 + 1 + 1 by omega, List.drop_succ_cons]
    exact frL_dropN l i
theorem frL_takeN : ∀ (l : List Rat) (i : Nat), (frL l).take (i * 2) = frL (l.take i)
  | l, 0 => by simp [frL]
  | [], i + 1 => by simp [frL]
  | q :: l, i + 1 => by
    rw [show (i + 1) * 2 = i * 2 + 1 + 1 by omega, List.take_succ_cons]
    show _ :: _ :: (frL l).take (i * 2) = _
    rw [frL_takeN l i]
    rfl
end Go.Proofs.YtbhahgbdkgjliaaDoor
