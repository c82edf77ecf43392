/- Words of trees, as the program writes them. No conditions. -/
import Derived.Test.YtmfccaidgaelcaaTab
import Derived.Test.YtmfccaidgaelcaaEp1
import Derived.Test.YtmfccaidgaelcaaAbsD
import Derived.Test.YtmfccaidgaelcaaAbsE
set_option linter.unusedVariables false
set_option linter.unusedSimpArgs false
namespace Go.Proofs.Ytmfccaidgaelcaa
open Go.Abs Go Go.RowKit
abbrev i64 (n : Int) : A := .val (.int .i64 n)
abbrev ge : GI := GI.none
abbrev rdi (xs : List Int) : A := .ro xs.length (ints .i64 xs)
abbrev BW : Nat := 1099511627776
mutual
def Ex.cl : Ex → List A
  | .mk op n v a => [i64 op, i64 n, i64 v, .ro a.length (exC a)]
def exC : List Ex → List A
  | [] => []
  | x :: l => x.cl ++ exC l
end
mutual
def Co.cl : Co → List A
  | .mk op a c => [i64 op, .ro a.length (exC a), .ro c.length (coC c)]
def coC : List Co → List A
  | [] => []
  | x :: l => x.cl ++ coC l
end
def Rg.cl (r : Rg) : List A := [i64 r.lo, i64 r.hi, i64 r.mask]
def Ar.cl (r : Ar) : List A := [i64 r.len, i64 r.of]
mutual
def Sm.cl : Sm → List A
  | .mk site op n m v x y c args ptrs body els => i64 site :: i64 op :: i64 n :: i64 m :: i64 v :: (x.cl ++ (y.cl ++ (c.cl ++ [.ro args.length (exC args), rdi ptrs, .ro body.length (smC body), .ro els.length (smC els)])))
def smC : List Sm → List A
  | [] => []
  | x :: l => x.cl ++ smC l
end
theorem exC_eq : ∀ l, exC l = flC Ex.cl l
  | [] => by simp [exC, flC]
  | x :: l => by rw [exC, flC, exC_eq l]
theorem coC_eq : ∀ l, coC l = flC Co.cl l
  | [] => by simp [coC, flC]
  | x :: l => by rw [coC, flC, coC_eq l]
theorem smC_eq : ∀ l, smC l = flC Sm.cl l
  | [] => by simp [smC, flC]
  | x :: l => by rw [smC, flC, smC_eq l]
theorem Ex.cl_len : ∀ x : Ex, x.cl.length = 4
  | .mk _ _ _ _ => by simp [Ex.cl]
theorem Co.cl_len : ∀ x : Co, x.cl.length = 3
  | .mk _ _ _ => by simp [Co.cl]
theorem Sm.cl_len : ∀ x : Sm, x.cl.length = 20
  | .mk _ _ _ _ _ x y c _ _ _ _ => by simp [Sm.cl, Ex.cl_len, Co.cl_len]
theorem Rg.cl_len (x : Rg) : x.cl.length = 3 := rfl
theorem Ar.cl_len (x : Ar) : x.cl.length = 2 := rfl
theorem Ex.cl_free : ∀ x : Ex, ltL 0 x.cl = true
  | .mk _ _ _ _ => by simp [Ex.cl, ltL, A.lt]
theorem Co.cl_free : ∀ x : Co, ltL 0 x.cl = true
  | .mk _ _ _ => by simp [Co.cl, ltL, A.lt]
theorem Sm.cl_free : ∀ x : Sm, ltL 0 x.cl = true
  | .mk _ _ _ _ _ x y c _ _ _ _ => by
    rw [Sm.cl]
    simp only [ltL, A.lt, Bool.true_and]
    exact ltL_append (Ex.cl_free x) (ltL_append (Ex.cl_free y) (ltL_append (Co.cl_free c) rfl))
theorem Ex.cl_cell : ∀ x : Ex, x.cl.all A.cell = true
  | .mk _ _ _ _ => by simp [Ex.cl, A.cell, Value.oneCell']
theorem Co.cl_cell : ∀ x : Co, x.cl.all A.cell = true
  | .mk _ _ _ => by simp [Co.cl, A.cell, Value.oneCell']
theorem Sm.cl_cell : ∀ x : Sm, x.cl.all A.cell = true
  | .mk _ _ _ _ _ x y c _ _ _ _ => by
    rw [Sm.cl]
    simp only [List.all_cons, List.all_append, Ex.cl_cell x, Ex.cl_cell y, Co.cl_cell c, A.cell, Value.oneCell', Bool.true_and, List.all_nil]
theorem ints_append (k : IntKind) (a b : List Int) : ints k (a ++ b) = ints k a ++ ints k b := by simp [ints]
theorem ints_take (k : IntKind) (a : List Int) (n : Nat) (h : n = a.length) : (ints k a).take (n * 1) = ints k a := by
  rw [Nat.mul_one, h, List.take_of_length_le (by rw [ints_length]; exact Nat.le_refl _)]
theorem fmW_take {α : Type} (w : α → List Int) (l : List α) (i : Nat) (x : α) (h : l[i]? = some x) : fmW w (l.take (i + 1)) = fmW w (l.take i) ++ w x := by
  induction l generalizing i with
  | nil => simp at h
  | cons y l ih =>
    cases i with
    | zero => simp only [List.getElem?_cons_zero, Option.some.injEq] at h; subst h; simp [fmW]
    | succ i =>
      simp only [List.take_succ_cons, fmW]
      rw [ih i (by simpa using h), List.append_assoc]
theorem fmW_app {α : Type} (w : α → List Int) : ∀ l m : List α, fmW w (l ++ m) = fmW w l ++ fmW w m
  | [], m => rfl
  | x :: l, m => by rw [List.cons_append, fmW, fmW, fmW_app w l m, List.append_assoc]
theorem fmW_le {α : Type} (w : α → List Int) (l : List α) (i : Nat) : (fmW w (l.take i)).length ≤ (fmW w l).length := by
  have h := congrArg (fun x => (fmW w x).length) (List.take_append_drop i l)
  simp only [fmW_app, List.length_append] at h
  omega

theorem one_fc (n : Int) : FC Try.prog ge 48 [i64 n] [] (rdi [n]) [] NoP := by
  refine FC.of_AW tok Try.func48 (by kernel_rfl) rfl Try.ntmps48 [] rfl rfl rfl ?_; intro w0 X0 Y f0 hI0 hX0
  (repeat (first | refine K4 ?_ | refine L2 ?_ | refine RG.d ?_ | refine S1 ?_ | refine S2 ?_))
  refine AW.sub (Sub.frz (ks := [0]) 2 rfl (frzI (xs := [n]) rfl (by decide) rfl)) ?_
  (repeat (first | refine S6 ?_))
  exact ⟨⟨_, rfl, rfl⟩, rfl, .nil _⟩

theorem span_fc (r : Rg) : FC Try.prog ge 68 [.agg [i64 r.lo, i64 r.hi, i64 r.mask]] [] (rdi [r.lo, r.hi, r.mask]) [] NoP := by
  refine FC.of_AW tok Try.func68 (by kernel_rfl) rfl Try.ntmps68 [] rfl rfl rfl ?_; intro w0 X0 Y f0 hI0 hX0
  (repeat (first | refine K4 ?_ | refine L1 ?_ | refine L2 ?_ | refine RG.d ?_ | refine S1 ?_ | refine S2 ?_))
  refine AW.sub (Sub.frz (ks := [1]) 2 rfl (frzI (xs := [r.lo, r.hi, r.mask]) rfl (by decide) rfl)) ?_
  (repeat (first | refine S6 ?_))
  exact ⟨⟨_, rfl, rfl⟩, rfl, .nil _⟩

theorem array_fc (r : Ar) : FC Try.prog ge 70 [.agg [i64 r.len, i64 r.of]] [] (rdi [r.len, r.of]) [] NoP := by
  refine FC.of_AW tok Try.func70 (by kernel_rfl) rfl Try.ntmps70 [] rfl rfl rfl ?_; intro w0 X0 Y f0 hI0 hX0
  (repeat (first | refine K4 ?_ | refine L1 ?_ | refine L2 ?_ | refine RG.d ?_ | refine S1 ?_ | refine S2 ?_))
  refine AW.sub (Sub.frz (ks := [1]) 2 rfl (frzI (xs := [r.len, r.of]) rfl (by decide) rfl)) ?_
  (repeat (first | refine S6 ?_))
  exact ⟨⟨_, rfl, rfl⟩, rfl, .nil _⟩

theorem letter1_fc (n : Int) (h : 0 ≤ n ∧ n ≤ 255) : FC Try.prog ge 65 [.val (.int .u8 n)] [] (rdi [n]) [] NoP := by
  refine FC.of_AW tok Try.func65 (by kernel_rfl) rfl Try.ntmps65 [] rfl rfl rfl ?_; intro w0 X0 Y f0 hI0 hX0
  (repeat (first | refine K2 ?_ | refine K4 ?_ | refine L2 ?_ | refine RG.d ?_ | refine S1 ?_ | refine S2 ?_))
  refine AW.sub (Sub.frz (ks := [0]) 2 rfl (frzI (xs := [n]) rfl (by decide) rfl)) ?_
  (repeat (first | refine S6 ?_))
  exact ⟨⟨_, rfl, rfl⟩, rfl, .nil _⟩
def iw (x : Int) : List Int := [x]
def icl (x : Int) : List A := [i64 x]
def bcl (x : Int) : List A := [.val (.int .u8 x)]
theorem iw_pos (x : Int) : 1 ≤ (iw x).length := Nat.le_refl _
theorem iw_fm : ∀ l : List Int, fmW iw l = l
  | [] => rfl
  | x :: l => by rw [fmW, iw_fm l]; rfl
theorem Rg.w_pos (x : Rg) : 1 ≤ x.w.length := by simp [Rg.w]
theorem Ar.w_pos (x : Ar) : 1 ≤ x.w.length := by simp [Ar.w]

set_option maxHeartbeats 4000000 in
theorem list_ex_fc (G : FuncId) (l : List Ex) (c : ∀ x, x ∈ l → FC Try.prog ge G [.agg x.cl] [] (rdi ((Ex.w) x)) [] NoP) (hB : 1 + (fmW (Ex.w) l).length ≤ BW) :
    FC Try.prog ge 74 [.ro l.length (flC (Ex.cl) l), .fn G [] []] [] (rdi ((l.length : Int) :: fmW (Ex.w) l)) [] NoP := by
  have hl : l.length ≤ BW := by have := fmW_len (w := Ex.w) (fun x => Ex.w_pos x) l; omega
  unfold BW at hB hl
  obtain ⟨W, hW⟩ : ∃ W, W = (l.length : Int) :: fmW (Ex.w) l := ⟨_, rfl⟩
  rw [← hW]
  refine FC.of_AW tok Try.func74 (by kernel_rfl) rfl Try.ntmps74 [] rfl rfl rfl ?_; intro w0 X0 Y f0 hI0 hX0
  refine S1 ?_; (repeat (first | refine K4 ?_ | refine RG.d ?_ | refine S2 ?_)); refine S1 ?_; (repeat (first | refine K4 ?_ | refine L2 ?_ | refine RG.d ?_ | refine S2 ?_))
  refine AW.seqJ (fun _ : Unit => ⟨put 5 (some (rdi W)) noE, noH, 0⟩) (fun _ => True) ?_ ?_
  · refine S1 ?_; (repeat (first | refine K4 ?_ | refine RG.d ?_ | refine S2 ?_ | refine S4 ?_))
    refine AW.loopS (fun p : Nat × List Int => ⟨put 1 (some (.fn G [] [])) (put 5 (some (.sl 0 [] 1 0 p.2.length)) (put 11 (some (.ro l.length (flC (Ex.cl) l))) (put 12 (some (i64 (l.length : Int))) (put 13 (some (i64 (p.1 : Int))) noE)))), hput 0 (.one (ints .i64 p.2)) noH, 1⟩)
      (fun p => p.1 ≤ l.length ∧ p.2 = (l.length : Int) :: fmW (Ex.w) (l.take p.1)) (fun p => l.length - p.1) (0, [(l.length : Int)]) ⟨Nat.zero_le _, by simp [fmW]⟩ (Sub.of (by repeat (first | exact SubE.no _ | refine SubE.put rfl ?_)) (by repeat (first | exact SubH.no _ | refine SubH.put rfl ?_)) rfl) ?_
    rintro ⟨i, U⟩ ⟨hi, hU⟩
    dsimp only at hi hU
    (repeat (first | refine K4 ?_ | refine RG.d ?_ | refine S1 ?_ | refine S2 ?_))
    refine AW.condD rfl (fun k => ?_) (fun k => ?_)
    rotate_left
    · have hi2 : i = l.length := by
        have : ¬ (i : Int) < (l.length : Int) := k
        omega
      rw [hi2, List.take_length, ← hW] at hU
      subst hU
      (repeat (first | refine S5 ?_))
      exact ⟨(), trivial, Sub.trans (Sub.frz (ks := [0]) 5 rfl (frzI rfl (by decide) rfl)) (Sub.down (by repeat (first | exact SubE.no _ | refine SubE.put rfl ?_)) (by repeat (first | exact SubH.no _ | refine SubH.put rfl ?_)) (by repeat (first | exact LtE.no _ | refine LtE.put rfl ?_)) (by repeat (first | exact LtH.no _ | refine LtH.put rfl rfl ?_)) rfl)⟩
    have hi2 : i < l.length := by
      have : (i : Int) < (l.length : Int) := k
      omega
    obtain ⟨x, hx⟩ : ∃ x, l[i]? = some x := ⟨_, List.getElem?_eq_getElem hi2⟩
    have hat := flC_at Ex.cl_len l i x hx
    have cx := c x (List.mem_of_getElem? hx)
    have hU2 := fmW_take (Ex.w) l i x hx
    have hlen := fmW_le (Ex.w) l (i + 1)
    rw [hU2, List.length_append] at hlen
    have hUl : U.length = 1 + (fmW (Ex.w) (l.take i)).length := by rw [hU, List.length_cons]; omega
    obtain ⟨u, hu⟩ : ∃ u, u = (Ex.w) x := ⟨_, rfl⟩
    rw [show (Ex.w) x = u from hu.symm] at cx hlen hU2
    obtain ⟨op, n, v, a⟩ := x; simp only [Ex.cl, List.cons_append, List.nil_append] at hat cx
    (repeat (first | refine S1 ?_ | refine S2 ?_ | refine S3 ?_ | refine S4 ?_))
    refine RG.idx tok rfl rfl rfl rfl rfl rfl hat ⟨by omega, by omega⟩ rfl ?_
    (repeat (first | refine K4 ?_ | refine L1 ?_ | refine L2 ?_ | refine L3 ?_ | refine RG.d ?_ | refine S2 ?_))
    refine RG.call rfl rfl rfl rfl (cx) [] rfl rfl rfl rfl (.nil _) (.nil _) (fun _ h => False.elim h) rfl (A.ren_free _ _ rfl) rfl ?_
    refine RG.append tok rfl rfl rfl rfl rfl rfl rfl rfl (n1 := U.length) (c := ints .i64 U) (ks := [0]) rfl (m := u.length) (l := ints .i64 u) (ks' := []) rfl (by rw [ints_length, Nat.mul_one]) (by rw [ints_length]; omega) (ints_cell _ _) (by omega) (by omega) rfl (c' := ints .i64 (U ++ u)) (by rw [ints_take _ _ _ rfl, ints_append]) ?_
    rw [show U.length + u.length = (U ++ u).length from List.length_append.symm]
    (repeat (first | refine K2 ?_ | refine K4 ?_ | refine RG.d ?_ | refine S2 ?_))
    refine ⟨(i + 1, U ++ u), ⟨by dsimp only; omega, by dsimp only; rw [hU2, hU]; rfl⟩, by dsimp only; omega, Sub.renB (fun a => a + 2) ?_ ?_ (fun a b h => by simpa using h) (fun a ha => ?_) (fun a ha => absurd ha (Nat.not_lt_zero _))⟩
    · exact SubEr.put rfl (SubEr.put rfl (SubEr.put rfl (SubEr.put rfl (SubEr.put rfl (SubEr.no _ _)))))
    · exact SubHr.put rfl (ints_free _ _ _) (SubHr.no _ _)
    · have ha : 1 ≤ a := ha
      show 3 ≤ a + 2
      omega
  intro _ _
  (repeat (first | refine K4 ?_ | refine RG.d ?_ | refine S1 ?_ | refine S2 ?_ | refine S6 ?_))
  exact ⟨⟨_, rfl, rfl⟩, rfl, .nil _⟩

set_option maxHeartbeats 4000000 in
theorem list_co_fc (G : FuncId) (l : List Co) (c : ∀ x, x ∈ l → FC Try.prog ge G [.agg x.cl] [] (rdi ((Co.w) x)) [] NoP) (hB : 1 + (fmW (Co.w) l).length ≤ BW) :
    FC Try.prog ge 111 [.ro l.length (flC (Co.cl) l), .fn G [] []] [] (rdi ((l.length : Int) :: fmW (Co.w) l)) [] NoP := by
  have hl : l.length ≤ BW := by have := fmW_len (w := Co.w) (fun x => Co.w_pos x) l; omega
  unfold BW at hB hl
  obtain ⟨W, hW⟩ : ∃ W, W = (l.length : Int) :: fmW (Co.w) l := ⟨_, rfl⟩
  rw [← hW]
  refine FC.of_AW tok Try.func111 (by kernel_rfl) rfl Try.ntmps111 [] rfl rfl rfl ?_; intro w0 X0 Y f0 hI0 hX0
  refine S1 ?_; (repeat (first | refine K4 ?_ | refine RG.d ?_ | refine S2 ?_)); refine S1 ?_; (repeat (first | refine K4 ?_ | refine L2 ?_ | refine RG.d ?_ | refine S2 ?_))
  refine AW.seqJ (fun _ : Unit => ⟨put 5 (some (rdi W)) noE, noH, 0⟩) (fun _ => True) ?_ ?_
  · refine S1 ?_; (repeat (first | refine K4 ?_ | refine RG.d ?_ | refine S2 ?_ | refine S4 ?_))
    refine AW.loopS (fun p : Nat × List Int => ⟨put 1 (some (.fn G [] [])) (put 5 (some (.sl 0 [] 1 0 p.2.length)) (put 11 (some (.ro l.length (flC (Co.cl) l))) (put 12 (some (i64 (l.length : Int))) (put 13 (some (i64 (p.1 : Int))) noE)))), hput 0 (.one (ints .i64 p.2)) noH, 1⟩)
      (fun p => p.1 ≤ l.length ∧ p.2 = (l.length : Int) :: fmW (Co.w) (l.take p.1)) (fun p => l.length - p.1) (0, [(l.length : Int)]) ⟨Nat.zero_le _, by simp [fmW]⟩ (Sub.of (by repeat (first | exact SubE.no _ | refine SubE.put rfl ?_)) (by repeat (first | exact SubH.no _ | refine SubH.put rfl ?_)) rfl) ?_
    rintro ⟨i, U⟩ ⟨hi, hU⟩
    dsimp only at hi hU
    (repeat (first | refine K4 ?_ | refine RG.d ?_ | refine S1 ?_ | refine S2 ?_))
    refine AW.condD rfl (fun k => ?_) (fun k => ?_)
    rotate_left
    · have hi2 : i = l.length := by
        have : ¬ (i : Int) < (l.length : Int) := k
        omega
      rw [hi2, List.take_length, ← hW] at hU
      subst hU
      (repeat (first | refine S5 ?_))
      exact ⟨(), trivial, Sub.trans (Sub.frz (ks := [0]) 5 rfl (frzI rfl (by decide) rfl)) (Sub.down (by repeat (first | exact SubE.no _ | refine SubE.put rfl ?_)) (by repeat (first | exact SubH.no _ | refine SubH.put rfl ?_)) (by repeat (first | exact LtE.no _ | refine LtE.put rfl ?_)) (by repeat (first | exact LtH.no _ | refine LtH.put rfl rfl ?_)) rfl)⟩
    have hi2 : i < l.length := by
      have : (i : Int) < (l.length : Int) := k
      omega
    obtain ⟨x, hx⟩ : ∃ x, l[i]? = some x := ⟨_, List.getElem?_eq_getElem hi2⟩
    have hat := flC_at Co.cl_len l i x hx
    have cx := c x (List.mem_of_getElem? hx)
    have hU2 := fmW_take (Co.w) l i x hx
    have hlen := fmW_le (Co.w) l (i + 1)
    rw [hU2, List.length_append] at hlen
    have hUl : U.length = 1 + (fmW (Co.w) (l.take i)).length := by rw [hU, List.length_cons]; omega
    obtain ⟨u, hu⟩ : ∃ u, u = (Co.w) x := ⟨_, rfl⟩
    rw [show (Co.w) x = u from hu.symm] at cx hlen hU2
    obtain ⟨op, a, cc⟩ := x; simp only [Co.cl, List.cons_append, List.nil_append] at hat cx
    (repeat (first | refine S1 ?_ | refine S2 ?_ | refine S3 ?_ | refine S4 ?_))
    refine RG.idx tok rfl rfl rfl rfl rfl rfl hat ⟨by omega, by omega⟩ rfl ?_
    (repeat (first | refine K4 ?_ | refine L1 ?_ | refine L2 ?_ | refine L3 ?_ | refine RG.d ?_ | refine S2 ?_))
    refine RG.call rfl rfl rfl rfl (cx) [] rfl rfl rfl rfl (.nil _) (.nil _) (fun _ h => False.elim h) rfl (A.ren_free _ _ rfl) rfl ?_
    refine RG.append tok rfl rfl rfl rfl rfl rfl rfl rfl (n1 := U.length) (c := ints .i64 U) (ks := [0]) rfl (m := u.length) (l := ints .i64 u) (ks' := []) rfl (by rw [ints_length, Nat.mul_one]) (by rw [ints_length]; omega) (ints_cell _ _) (by omega) (by omega) rfl (c' := ints .i64 (U ++ u)) (by rw [ints_take _ _ _ rfl, ints_append]) ?_
    rw [show U.length + u.length = (U ++ u).length from List.length_append.symm]
    (repeat (first | refine K2 ?_ | refine K4 ?_ | refine RG.d ?_ | refine S2 ?_))
    refine ⟨(i + 1, U ++ u), ⟨by dsimp only; omega, by dsimp only; rw [hU2, hU]; rfl⟩, by dsimp only; omega, Sub.renB (fun a => a + 2) ?_ ?_ (fun a b h => by simpa using h) (fun a ha => ?_) (fun a ha => absurd ha (Nat.not_lt_zero _))⟩
    · exact SubEr.put rfl (SubEr.put rfl (SubEr.put rfl (SubEr.put rfl (SubEr.put rfl (SubEr.no _ _)))))
    · exact SubHr.put rfl (ints_free _ _ _) (SubHr.no _ _)
    · have ha : 1 ≤ a := ha
      show 3 ≤ a + 2
      omega
  intro _ _
  (repeat (first | refine K4 ?_ | refine RG.d ?_ | refine S1 ?_ | refine S2 ?_ | refine S6 ?_))
  exact ⟨⟨_, rfl, rfl⟩, rfl, .nil _⟩

set_option maxHeartbeats 4000000 in
theorem list_rg_fc (G : FuncId) (l : List Rg) (c : ∀ x, x ∈ l → FC Try.prog ge G [.agg x.cl] [] (rdi ((Rg.w) x)) [] NoP) (hB : 1 + (fmW (Rg.w) l).length ≤ BW) :
    FC Try.prog ge 67 [.ro l.length (flC (Rg.cl) l), .fn G [] []] [] (rdi ((l.length : Int) :: fmW (Rg.w) l)) [] NoP := by
  have hl : l.length ≤ BW := by have := fmW_len (w := Rg.w) (fun x => Rg.w_pos x) l; omega
  unfold BW at hB hl
  obtain ⟨W, hW⟩ : ∃ W, W = (l.length : Int) :: fmW (Rg.w) l := ⟨_, rfl⟩
  rw [← hW]
  refine FC.of_AW tok Try.func67 (by kernel_rfl) rfl Try.ntmps67 [] rfl rfl rfl ?_; intro w0 X0 Y f0 hI0 hX0
  refine S1 ?_; (repeat (first | refine K4 ?_ | refine RG.d ?_ | refine S2 ?_)); refine S1 ?_; (repeat (first | refine K4 ?_ | refine L2 ?_ | refine RG.d ?_ | refine S2 ?_))
  refine AW.seqJ (fun _ : Unit => ⟨put 5 (some (rdi W)) noE, noH, 0⟩) (fun _ => True) ?_ ?_
  · refine S1 ?_; (repeat (first | refine K4 ?_ | refine RG.d ?_ | refine S2 ?_ | refine S4 ?_))
    refine AW.loopS (fun p : Nat × List Int => ⟨put 1 (some (.fn G [] [])) (put 5 (some (.sl 0 [] 1 0 p.2.length)) (put 11 (some (.ro l.length (flC (Rg.cl) l))) (put 12 (some (i64 (l.length : Int))) (put 13 (some (i64 (p.1 : Int))) noE)))), hput 0 (.one (ints .i64 p.2)) noH, 1⟩)
      (fun p => p.1 ≤ l.length ∧ p.2 = (l.length : Int) :: fmW (Rg.w) (l.take p.1)) (fun p => l.length - p.1) (0, [(l.length : Int)]) ⟨Nat.zero_le _, by simp [fmW]⟩ (Sub.of (by repeat (first | exact SubE.no _ | refine SubE.put rfl ?_)) (by repeat (first | exact SubH.no _ | refine SubH.put rfl ?_)) rfl) ?_
    rintro ⟨i, U⟩ ⟨hi, hU⟩
    dsimp only at hi hU
    (repeat (first | refine K4 ?_ | refine RG.d ?_ | refine S1 ?_ | refine S2 ?_))
    refine AW.condD rfl (fun k => ?_) (fun k => ?_)
    rotate_left
    · have hi2 : i = l.length := by
        have : ¬ (i : Int) < (l.length : Int) := k
        omega
      rw [hi2, List.take_length, ← hW] at hU
      subst hU
      (repeat (first | refine S5 ?_))
      exact ⟨(), trivial, Sub.trans (Sub.frz (ks := [0]) 5 rfl (frzI rfl (by decide) rfl)) (Sub.down (by repeat (first | exact SubE.no _ | refine SubE.put rfl ?_)) (by repeat (first | exact SubH.no _ | refine SubH.put rfl ?_)) (by repeat (first | exact LtE.no _ | refine LtE.put rfl ?_)) (by repeat (first | exact LtH.no _ | refine LtH.put rfl rfl ?_)) rfl)⟩
    have hi2 : i < l.length := by
      have : (i : Int) < (l.length : Int) := k
      omega
    obtain ⟨x, hx⟩ : ∃ x, l[i]? = some x := ⟨_, List.getElem?_eq_getElem hi2⟩
    have hat := flC_at Rg.cl_len l i x hx
    have cx := c x (List.mem_of_getElem? hx)
    have hU2 := fmW_take (Rg.w) l i x hx
    have hlen := fmW_le (Rg.w) l (i + 1)
    rw [hU2, List.length_append] at hlen
    have hUl : U.length = 1 + (fmW (Rg.w) (l.take i)).length := by rw [hU, List.length_cons]; omega
    obtain ⟨u, hu⟩ : ∃ u, u = (Rg.w) x := ⟨_, rfl⟩
    rw [show (Rg.w) x = u from hu.symm] at cx hlen hU2
    simp only [Rg.cl, List.cons_append, List.nil_append] at hat cx
    (repeat (first | refine S1 ?_ | refine S2 ?_ | refine S3 ?_ | refine S4 ?_))
    refine RG.idx tok rfl rfl rfl rfl rfl rfl hat ⟨by omega, by omega⟩ rfl ?_
    (repeat (first | refine K4 ?_ | refine L1 ?_ | refine L2 ?_ | refine L3 ?_ | refine RG.d ?_ | refine S2 ?_))
    refine RG.call rfl rfl rfl rfl (cx) [] rfl rfl rfl rfl (.nil _) (.nil _) (fun _ h => False.elim h) rfl (A.ren_free _ _ rfl) rfl ?_
    refine RG.append tok rfl rfl rfl rfl rfl rfl rfl rfl (n1 := U.length) (c := ints .i64 U) (ks := [0]) rfl (m := u.length) (l := ints .i64 u) (ks' := []) rfl (by rw [ints_length, Nat.mul_one]) (by rw [ints_length]; omega) (ints_cell _ _) (by omega) (by omega) rfl (c' := ints .i64 (U ++ u)) (by rw [ints_take _ _ _ rfl, ints_append]) ?_
    rw [show U.length + u.length = (U ++ u).length from List.length_append.symm]
    (repeat (first | refine K2 ?_ | refine K4 ?_ | refine RG.d ?_ | refine S2 ?_))
    refine ⟨(i + 1, U ++ u), ⟨by dsimp only; omega, by dsimp only; rw [hU2, hU]; rfl⟩, by dsimp only; omega, Sub.renB (fun a => a + 2) ?_ ?_ (fun a b h => by simpa using h) (fun a ha => ?_) (fun a ha => absurd ha (Nat.not_lt_zero _))⟩
    · exact SubEr.put rfl (SubEr.put rfl (SubEr.put rfl (SubEr.put rfl (SubEr.put rfl (SubEr.no _ _)))))
    · exact SubHr.put rfl (ints_free _ _ _) (SubHr.no _ _)
    · have ha : 1 ≤ a := ha
      show 3 ≤ a + 2
      omega
  intro _ _
  (repeat (first | refine K4 ?_ | refine RG.d ?_ | refine S1 ?_ | refine S2 ?_ | refine S6 ?_))
  exact ⟨⟨_, rfl, rfl⟩, rfl, .nil _⟩

set_option maxHeartbeats 4000000 in
theorem list_ar_fc (G : FuncId) (l : List Ar) (c : ∀ x, x ∈ l → FC Try.prog ge G [.agg x.cl] [] (rdi ((Ar.w) x)) [] NoP) (hB : 1 + (fmW (Ar.w) l).length ≤ BW) :
    FC Try.prog ge 69 [.ro l.length (flC (Ar.cl) l), .fn G [] []] [] (rdi ((l.length : Int) :: fmW (Ar.w) l)) [] NoP := by
  have hl : l.length ≤ BW := by have := fmW_len (w := Ar.w) (fun x => Ar.w_pos x) l; omega
  unfold BW at hB hl
  obtain ⟨W, hW⟩ : ∃ W, W = (l.length : Int) :: fmW (Ar.w) l := ⟨_, rfl⟩
  rw [← hW]
  refine FC.of_AW tok Try.func69 (by kernel_rfl) rfl Try.ntmps69 [] rfl rfl rfl ?_; intro w0 X0 Y f0 hI0 hX0
  refine S1 ?_; (repeat (first | refine K4 ?_ | refine RG.d ?_ | refine S2 ?_)); refine S1 ?_; (repeat (first | refine K4 ?_ | refine L2 ?_ | refine RG.d ?_ | refine S2 ?_))
  refine AW.seqJ (fun _ : Unit => ⟨put 5 (some (rdi W)) noE, noH, 0⟩) (fun _ => True) ?_ ?_
  · refine S1 ?_; (repeat (first | refine K4 ?_ | refine RG.d ?_ | refine S2 ?_ | refine S4 ?_))
    refine AW.loopS (fun p : Nat × List Int => ⟨put 1 (some (.fn G [] [])) (put 5 (some (.sl 0 [] 1 0 p.2.length)) (put 11 (some (.ro l.length (flC (Ar.cl) l))) (put 12 (some (i64 (l.length : Int))) (put 13 (some (i64 (p.1 : Int))) noE)))), hput 0 (.one (ints .i64 p.2)) noH, 1⟩)
      (fun p => p.1 ≤ l.length ∧ p.2 = (l.length : Int) :: fmW (Ar.w) (l.take p.1)) (fun p => l.length - p.1) (0, [(l.length : Int)]) ⟨Nat.zero_le _, by simp [fmW]⟩ (Sub.of (by repeat (first | exact SubE.no _ | refine SubE.put rfl ?_)) (by repeat (first | exact SubH.no _ | refine SubH.put rfl ?_)) rfl) ?_
    rintro ⟨i, U⟩ ⟨hi, hU⟩
    dsimp only at hi hU
    (repeat (first | refine K4 ?_ | refine RG.d ?_ | refine S1 ?_ | refine S2 ?_))
    refine AW.condD rfl (fun k => ?_) (fun k => ?_)
    rotate_left
    · have hi2 : i = l.length := by
        have : ¬ (i : Int) < (l.length : Int) := k
        omega
      rw [hi2, List.take_length, ← hW] at hU
      subst hU
      (repeat (first | refine S5 ?_))
      exact ⟨(), trivial, Sub.trans (Sub.frz (ks := [0]) 5 rfl (frzI rfl (by decide) rfl)) (Sub.down (by repeat (first | exact SubE.no _ | refine SubE.put rfl ?_)) (by repeat (first | exact SubH.no _ | refine SubH.put rfl ?_)) (by repeat (first | exact LtE.no _ | refine LtE.put rfl ?_)) (by repeat (first | exact LtH.no _ | refine LtH.put rfl rfl ?_)) rfl)⟩
    have hi2 : i < l.length := by
      have : (i : Int) < (l.length : Int) := k
      omega
    obtain ⟨x, hx⟩ : ∃ x, l[i]? = some x := ⟨_, List.getElem?_eq_getElem hi2⟩
    have hat := flC_at Ar.cl_len l i x hx
    have cx := c x (List.mem_of_getElem? hx)
    have hU2 := fmW_take (Ar.w) l i x hx
    have hlen := fmW_le (Ar.w) l (i + 1)
    rw [hU2, List.length_append] at hlen
    have hUl : U.length = 1 + (fmW (Ar.w) (l.take i)).length := by rw [hU, List.length_cons]; omega
    obtain ⟨u, hu⟩ : ∃ u, u = (Ar.w) x := ⟨_, rfl⟩
    rw [show (Ar.w) x = u from hu.symm] at cx hlen hU2
    simp only [Ar.cl, List.cons_append, List.nil_append] at hat cx
    (repeat (first | refine S1 ?_ | refine S2 ?_ | refine S3 ?_ | refine S4 ?_))
    refine RG.idx tok rfl rfl rfl rfl rfl rfl hat ⟨by omega, by omega⟩ rfl ?_
    (repeat (first | refine K4 ?_ | refine L1 ?_ | refine L2 ?_ | refine L3 ?_ | refine RG.d ?_ | refine S2 ?_))
    refine RG.call rfl rfl rfl rfl (cx) [] rfl rfl rfl rfl (.nil _) (.nil _) (fun _ h => False.elim h) rfl (A.ren_free _ _ rfl) rfl ?_
    refine RG.append tok rfl rfl rfl rfl rfl rfl rfl rfl (n1 := U.length) (c := ints .i64 U) (ks := [0]) rfl (m := u.length) (l := ints .i64 u) (ks' := []) rfl (by rw [ints_length, Nat.mul_one]) (by rw [ints_length]; omega) (ints_cell _ _) (by omega) (by omega) rfl (c' := ints .i64 (U ++ u)) (by rw [ints_take _ _ _ rfl, ints_append]) ?_
    rw [show U.length + u.length = (U ++ u).length from List.length_append.symm]
    (repeat (first | refine K2 ?_ | refine K4 ?_ | refine RG.d ?_ | refine S2 ?_))
    refine ⟨(i + 1, U ++ u), ⟨by dsimp only; omega, by dsimp only; rw [hU2, hU]; rfl⟩, by dsimp only; omega, Sub.renB (fun a => a + 2) ?_ ?_ (fun a b h => by simpa using h) (fun a ha => ?_) (fun a ha => absurd ha (Nat.not_lt_zero _))⟩
    · exact SubEr.put rfl (SubEr.put rfl (SubEr.put rfl (SubEr.put rfl (SubEr.put rfl (SubEr.no _ _)))))
    · exact SubHr.put rfl (ints_free _ _ _) (SubHr.no _ _)
    · have ha : 1 ≤ a := ha
      show 3 ≤ a + 2
      omega
  intro _ _
  (repeat (first | refine K4 ?_ | refine RG.d ?_ | refine S1 ?_ | refine S2 ?_ | refine S6 ?_))
  exact ⟨⟨_, rfl, rfl⟩, rfl, .nil _⟩

set_option maxHeartbeats 4000000 in
theorem list_int_fc (G : FuncId) (l : List Int) (c : ∀ x, x ∈ l → FC Try.prog ge G [i64 x] [] (rdi ((iw) x)) [] NoP) (hB : 1 + (fmW (iw) l).length ≤ BW) :
    FC Try.prog ge 75 [.ro l.length (flC (icl) l), .fn G [] []] [] (rdi ((l.length : Int) :: fmW (iw) l)) [] NoP := by
  have hl : l.length ≤ BW := by have := fmW_len (w := iw) (fun x => iw_pos x) l; omega
  unfold BW at hB hl
  obtain ⟨W, hW⟩ : ∃ W, W = (l.length : Int) :: fmW (iw) l := ⟨_, rfl⟩
  rw [← hW]
  refine FC.of_AW tok Try.func75 (by kernel_rfl) rfl Try.ntmps75 [] rfl rfl rfl ?_; intro w0 X0 Y f0 hI0 hX0
  refine S1 ?_; (repeat (first | refine K4 ?_ | refine RG.d ?_ | refine S2 ?_)); refine S1 ?_; (repeat (first | refine K4 ?_ | refine L2 ?_ | refine RG.d ?_ | refine S2 ?_))
  refine AW.seqJ (fun _ : Unit => ⟨put 5 (some (rdi W)) noE, noH, 0⟩) (fun _ => True) ?_ ?_
  · refine S1 ?_; (repeat (first | refine K4 ?_ | refine RG.d ?_ | refine S2 ?_ | refine S4 ?_))
    refine AW.loopS (fun p : Nat × List Int => ⟨put 1 (some (.fn G [] [])) (put 5 (some (.sl 0 [] 1 0 p.2.length)) (put 11 (some (.ro l.length (flC (icl) l))) (put 12 (some (i64 (l.length : Int))) (put 13 (some (i64 (p.1 : Int))) noE)))), hput 0 (.one (ints .i64 p.2)) noH, 1⟩)
      (fun p => p.1 ≤ l.length ∧ p.2 = (l.length : Int) :: fmW (iw) (l.take p.1)) (fun p => l.length - p.1) (0, [(l.length : Int)]) ⟨Nat.zero_le _, by simp [fmW]⟩ (Sub.of (by repeat (first | exact SubE.no _ | refine SubE.put rfl ?_)) (by repeat (first | exact SubH.no _ | refine SubH.put rfl ?_)) rfl) ?_
    rintro ⟨i, U⟩ ⟨hi, hU⟩
    dsimp only at hi hU
    (repeat (first | refine K4 ?_ | refine RG.d ?_ | refine S1 ?_ | refine S2 ?_))
    refine AW.condD rfl (fun k => ?_) (fun k => ?_)
    rotate_left
    · have hi2 : i = l.length := by
        have : ¬ (i : Int) < (l.length : Int) := k
        omega
      rw [hi2, List.take_length, ← hW] at hU
      subst hU
      (repeat (first | refine S5 ?_))
      exact ⟨(), trivial, Sub.trans (Sub.frz (ks := [0]) 5 rfl (frzI rfl (by decide) rfl)) (Sub.down (by repeat (first | exact SubE.no _ | refine SubE.put rfl ?_)) (by repeat (first | exact SubH.no _ | refine SubH.put rfl ?_)) (by repeat (first | exact LtE.no _ | refine LtE.put rfl ?_)) (by repeat (first | exact LtH.no _ | refine LtH.put rfl rfl ?_)) rfl)⟩
    have hi2 : i < l.length := by
      have : (i : Int) < (l.length : Int) := k
      omega
    obtain ⟨x, hx⟩ : ∃ x, l[i]? = some x := ⟨_, List.getElem?_eq_getElem hi2⟩
    have hat := flC_at (cl := icl) (st := 1) (fun _ => rfl) l i x hx
    have cx := c x (List.mem_of_getElem? hx)
    have hU2 := fmW_take (iw) l i x hx
    have hlen := fmW_le (iw) l (i + 1)
    rw [hU2, List.length_append] at hlen
    have hUl : U.length = 1 + (fmW (iw) (l.take i)).length := by rw [hU, List.length_cons]; omega
    obtain ⟨u, hu⟩ : ∃ u, u = (iw) x := ⟨_, rfl⟩
    rw [show (iw) x = u from hu.symm] at cx hlen hU2
    simp only [icl, List.cons_append, List.nil_append] at hat
    (repeat (first | refine S1 ?_ | refine S2 ?_ | refine S3 ?_ | refine S4 ?_))
    refine RG.idx tok rfl rfl rfl rfl rfl rfl hat ⟨by omega, by omega⟩ rfl ?_
    (repeat (first | refine K4 ?_ | refine L1 ?_ | refine RG.d ?_ | refine S2 ?_))
    refine RG.call rfl rfl rfl rfl (cx) [] rfl rfl rfl rfl (.nil _) (.nil _) (fun _ h => False.elim h) rfl (A.ren_free _ _ rfl) rfl ?_
    refine RG.append tok rfl rfl rfl rfl rfl rfl rfl rfl (n1 := U.length) (c := ints .i64 U) (ks := [0]) rfl (m := u.length) (l := ints .i64 u) (ks' := []) rfl (by rw [ints_length, Nat.mul_one]) (by rw [ints_length]; omega) (ints_cell _ _) (by omega) (by omega) rfl (c' := ints .i64 (U ++ u)) (by rw [ints_take _ _ _ rfl, ints_append]) ?_
    rw [show U.length + u.length = (U ++ u).length from List.length_append.symm]
    (repeat (first | refine K2 ?_ | refine K4 ?_ | refine RG.d ?_ | refine S2 ?_))
    refine ⟨(i + 1, U ++ u), ⟨by dsimp only; omega, by dsimp only; rw [hU2, hU]; rfl⟩, by dsimp only; omega, Sub.renB (fun a => a + 1) ?_ ?_ (fun a b h => by simpa using h) (fun a ha => ?_) (fun a ha => absurd ha (Nat.not_lt_zero _))⟩
    · exact SubEr.put rfl (SubEr.put rfl (SubEr.put rfl (SubEr.put rfl (SubEr.put rfl (SubEr.no _ _)))))
    · exact SubHr.put rfl (ints_free _ _ _) (SubHr.no _ _)
    · have ha : 1 ≤ a := ha
      show 2 ≤ a + 1
      omega
  intro _ _
  (repeat (first | refine K4 ?_ | refine RG.d ?_ | refine S1 ?_ | refine S2 ?_ | refine S6 ?_))
  exact ⟨⟨_, rfl, rfl⟩, rfl, .nil _⟩

set_option maxHeartbeats 4000000 in
theorem list_byte_fc (G : FuncId) (l : List Int) (c : ∀ x, x ∈ l → FC Try.prog ge G [.val (.int .u8 x)] [] (rdi ((iw) x)) [] NoP) (hB : 1 + (fmW (iw) l).length ≤ BW) :
    FC Try.prog ge 64 [.ro l.length (flC (bcl) l), .fn G [] []] [] (rdi ((l.length : Int) :: fmW (iw) l)) [] NoP := by
  have hl : l.length ≤ BW := by have := fmW_len (w := iw) (fun x => iw_pos x) l; omega
  unfold BW at hB hl
  obtain ⟨W, hW⟩ : ∃ W, W = (l.length : Int) :: fmW (iw) l := ⟨_, rfl⟩
  rw [← hW]
  refine FC.of_AW tok Try.func64 (by kernel_rfl) rfl Try.ntmps64 [] rfl rfl rfl ?_; intro w0 X0 Y f0 hI0 hX0
  refine S1 ?_; (repeat (first | refine K4 ?_ | refine RG.d ?_ | refine S2 ?_)); refine S1 ?_; (repeat (first | refine K4 ?_ | refine L2 ?_ | refine RG.d ?_ | refine S2 ?_))
  refine AW.seqJ (fun _ : Unit => ⟨put 5 (some (rdi W)) noE, noH, 0⟩) (fun _ => True) ?_ ?_
  · refine S1 ?_; (repeat (first | refine K4 ?_ | refine RG.d ?_ | refine S2 ?_ | refine S4 ?_))
    refine AW.loopS (fun p : Nat × List Int => ⟨put 1 (some (.fn G [] [])) (put 5 (some (.sl 0 [] 1 0 p.2.length)) (put 11 (some (.ro l.length (flC (bcl) l))) (put 12 (some (i64 (l.length : Int))) (put 13 (some (i64 (p.1 : Int))) noE)))), hput 0 (.one (ints .i64 p.2)) noH, 1⟩)
      (fun p => p.1 ≤ l.length ∧ p.2 = (l.length : Int) :: fmW (iw) (l.take p.1)) (fun p => l.length - p.1) (0, [(l.length : Int)]) ⟨Nat.zero_le _, by simp [fmW]⟩ (Sub.of (by repeat (first | exact SubE.no _ | refine SubE.put rfl ?_)) (by repeat (first | exact SubH.no _ | refine SubH.put rfl ?_)) rfl) ?_
    rintro ⟨i, U⟩ ⟨hi, hU⟩
    dsimp only at hi hU
    (repeat (first | refine K4 ?_ | refine RG.d ?_ | refine S1 ?_ | refine S2 ?_))
    refine AW.condD rfl (fun k => ?_) (fun k => ?_)
    rotate_left
    · have hi2 : i = l.length := by
        have : ¬ (i : Int) < (l.length : Int) := k
        omega
      rw [hi2, List.take_length, ← hW] at hU
      subst hU
      (repeat (first | refine S5 ?_))
      exact ⟨(), trivial, Sub.trans (Sub.frz (ks := [0]) 5 rfl (frzI rfl (by decide) rfl)) (Sub.down (by repeat (first | exact SubE.no _ | refine SubE.put rfl ?_)) (by repeat (first | exact SubH.no _ | refine SubH.put rfl ?_)) (by repeat (first | exact LtE.no _ | refine LtE.put rfl ?_)) (by repeat (first | exact LtH.no _ | refine LtH.put rfl rfl ?_)) rfl)⟩
    have hi2 : i < l.length := by
      have : (i : Int) < (l.length : Int) := k
      omega
    obtain ⟨x, hx⟩ : ∃ x, l[i]? = some x := ⟨_, List.getElem?_eq_getElem hi2⟩
    have hat := flC_at (cl := bcl) (st := 1) (fun _ => rfl) l i x hx
    have cx := c x (List.mem_of_getElem? hx)
    have hU2 := fmW_take (iw) l i x hx
    have hlen := fmW_le (iw) l (i + 1)
    rw [hU2, List.length_append] at hlen
    have hUl : U.length = 1 + (fmW (iw) (l.take i)).length := by rw [hU, List.length_cons]; omega
    obtain ⟨u, hu⟩ : ∃ u, u = (iw) x := ⟨_, rfl⟩
    rw [show (iw) x = u from hu.symm] at cx hlen hU2
    simp only [bcl, List.cons_append, List.nil_append] at hat
    (repeat (first | refine S1 ?_ | refine S2 ?_ | refine S3 ?_ | refine S4 ?_))
    refine RG.idx tok rfl rfl rfl rfl rfl rfl hat ⟨by omega, by omega⟩ rfl ?_
    (repeat (first | refine K4 ?_ | refine L1 ?_ | refine RG.d ?_ | refine S2 ?_))
    refine RG.call rfl rfl rfl rfl (cx) [] rfl rfl rfl rfl (.nil _) (.nil _) (fun _ h => False.elim h) rfl (A.ren_free _ _ rfl) rfl ?_
    refine RG.append tok rfl rfl rfl rfl rfl rfl rfl rfl (n1 := U.length) (c := ints .i64 U) (ks := [0]) rfl (m := u.length) (l := ints .i64 u) (ks' := []) rfl (by rw [ints_length, Nat.mul_one]) (by rw [ints_length]; omega) (ints_cell _ _) (by omega) (by omega) rfl (c' := ints .i64 (U ++ u)) (by rw [ints_take _ _ _ rfl, ints_append]) ?_
    rw [show U.length + u.length = (U ++ u).length from List.length_append.symm]
    (repeat (first | refine K2 ?_ | refine K4 ?_ | refine RG.d ?_ | refine S2 ?_))
    refine ⟨(i + 1, U ++ u), ⟨by dsimp only; omega, by dsimp only; rw [hU2, hU]; rfl⟩, by dsimp only; omega, Sub.renB (fun a => a + 1) ?_ ?_ (fun a b h => by simpa using h) (fun a ha => ?_) (fun a ha => absurd ha (Nat.not_lt_zero _))⟩
    · exact SubEr.put rfl (SubEr.put rfl (SubEr.put rfl (SubEr.put rfl (SubEr.put rfl (SubEr.no _ _)))))
    · exact SubHr.put rfl (ints_free _ _ _) (SubHr.no _ _)
    · have ha : 1 ≤ a := ha
      show 2 ≤ a + 1
      omega
  intro _ _
  (repeat (first | refine K4 ?_ | refine RG.d ?_ | refine S1 ?_ | refine S2 ?_ | refine S6 ?_))
  exact ⟨⟨_, rfl, rfl⟩, rfl, .nil _⟩

set_option maxHeartbeats 4000000 in
theorem list_sm_fc (G : FuncId) (l : List Sm) (c : ∀ x, x ∈ l → FC Try.prog ge G [.agg x.cl] [] (rdi ((Sm.w) x)) [] NoP) (hB : 1 + (fmW (Sm.w) l).length ≤ BW) :
    FC Try.prog ge 71 [.ro l.length (flC (Sm.cl) l), .fn G [] []] [] (rdi ((l.length : Int) :: fmW (Sm.w) l)) [] NoP := by
  have hl : l.length ≤ BW := by have := fmW_len (w := Sm.w) (fun x => Sm.w_pos x) l; omega
  unfold BW at hB hl
  obtain ⟨W, hW⟩ : ∃ W, W = (l.length : Int) :: fmW (Sm.w) l := ⟨_, rfl⟩
  rw [← hW]
  refine FC.of_AW tok Try.func71 (by kernel_rfl) rfl Try.ntmps71 [] rfl rfl rfl ?_; intro w0 X0 Y f0 hI0 hX0
  refine S1 ?_; (repeat (first | refine K4 ?_ | refine RG.d ?_ | refine S2 ?_)); refine S1 ?_; (repeat (first | refine K4 ?_ | refine L2 ?_ | refine RG.d ?_ | refine S2 ?_))
  refine AW.seqJ (fun _ : Unit => ⟨put 5 (some (rdi W)) noE, noH, 0⟩) (fun _ => True) ?_ ?_
  · refine S1 ?_; (repeat (first | refine K4 ?_ | refine RG.d ?_ | refine S2 ?_ | refine S4 ?_))
    refine AW.loopS (fun p : Nat × List Int => ⟨put 1 (some (.fn G [] [])) (put 5 (some (.sl 0 [] 1 0 p.2.length)) (put 11 (some (.ro l.length (flC (Sm.cl) l))) (put 12 (some (i64 (l.length : Int))) (put 13 (some (i64 (p.1 : Int))) noE)))), hput 0 (.one (ints .i64 p.2)) noH, 1⟩)
      (fun p => p.1 ≤ l.length ∧ p.2 = (l.length : Int) :: fmW (Sm.w) (l.take p.1)) (fun p => l.length - p.1) (0, [(l.length : Int)]) ⟨Nat.zero_le _, by simp [fmW]⟩ (Sub.of (by repeat (first | exact SubE.no _ | refine SubE.put rfl ?_)) (by repeat (first | exact SubH.no _ | refine SubH.put rfl ?_)) rfl) ?_
    rintro ⟨i, U⟩ ⟨hi, hU⟩
    dsimp only at hi hU
    (repeat (first | refine K4 ?_ | refine RG.d ?_ | refine S1 ?_ | refine S2 ?_))
    refine AW.condD rfl (fun k => ?_) (fun k => ?_)
    rotate_left
    · have hi2 : i = l.length := by
        have : ¬ (i : Int) < (l.length : Int) := k
        omega
      rw [hi2, List.take_length, ← hW] at hU
      subst hU
      (repeat (first | refine S5 ?_))
      exact ⟨(), trivial, Sub.trans (Sub.frz (ks := [0]) 5 rfl (frzI rfl (by decide) rfl)) (Sub.down (by repeat (first | exact SubE.no _ | refine SubE.put rfl ?_)) (by repeat (first | exact SubH.no _ | refine SubH.put rfl ?_)) (by repeat (first | exact LtE.no _ | refine LtE.put rfl ?_)) (by repeat (first | exact LtH.no _ | refine LtH.put rfl rfl ?_)) rfl)⟩
    have hi2 : i < l.length := by
      have : (i : Int) < (l.length : Int) := k
      omega
    obtain ⟨x, hx⟩ : ∃ x, l[i]? = some x := ⟨_, List.getElem?_eq_getElem hi2⟩
    have hat := flC_at Sm.cl_len l i x hx
    have cx := c x (List.mem_of_getElem? hx)
    have hU2 := fmW_take (Sm.w) l i x hx
    have hlen := fmW_le (Sm.w) l (i + 1)
    rw [hU2, List.length_append] at hlen
    have hUl : U.length = 1 + (fmW (Sm.w) (l.take i)).length := by rw [hU, List.length_cons]; omega
    obtain ⟨u, hu⟩ : ∃ u, u = (Sm.w) x := ⟨_, rfl⟩
    rw [show (Sm.w) x = u from hu.symm] at cx hlen hU2
    obtain ⟨site, op, n, m, v, ⟨x1, x2, x3, x4⟩, ⟨y1, y2, y3, y4⟩, ⟨c1, c2, c3⟩, args, ptrs, body, els⟩ := x; simp only [Sm.cl, Ex.cl, Co.cl, List.cons_append, List.nil_append] at hat cx
    (repeat (first | refine S1 ?_ | refine S2 ?_ | refine S3 ?_ | refine S4 ?_))
    refine RG.idx tok rfl rfl rfl rfl rfl rfl hat ⟨by omega, by omega⟩ rfl ?_
    (repeat (first | refine K4 ?_ | refine L1 ?_ | refine L2 ?_ | refine L3 ?_ | refine RG.d ?_ | refine S2 ?_))
    refine RG.call rfl rfl rfl rfl (cx) [] rfl rfl rfl rfl (.nil _) (.nil _) (fun _ h => False.elim h) rfl (A.ren_free _ _ rfl) rfl ?_
    refine RG.append tok rfl rfl rfl rfl rfl rfl rfl rfl (n1 := U.length) (c := ints .i64 U) (ks := [0]) rfl (m := u.length) (l := ints .i64 u) (ks' := []) rfl (by rw [ints_length, Nat.mul_one]) (by rw [ints_length]; omega) (ints_cell _ _) (by omega) (by omega) rfl (c' := ints .i64 (U ++ u)) (by rw [ints_take _ _ _ rfl, ints_append]) ?_
    rw [show U.length + u.length = (U ++ u).length from List.length_append.symm]
    (repeat (first | refine K2 ?_ | refine K4 ?_ | refine RG.d ?_ | refine S2 ?_))
    refine ⟨(i + 1, U ++ u), ⟨by dsimp only; omega, by dsimp only; rw [hU2, hU]; rfl⟩, by dsimp only; omega, Sub.renB (fun a => a + 2) ?_ ?_ (fun a b h => by simpa using h) (fun a ha => ?_) (fun a ha => absurd ha (Nat.not_lt_zero _))⟩
    · exact SubEr.put rfl (SubEr.put rfl (SubEr.put rfl (SubEr.put rfl (SubEr.put rfl (SubEr.no _ _)))))
    · exact SubHr.put rfl (ints_free _ _ _) (SubHr.no _ _)
    · have ha : 1 ≤ a := ha
      show 3 ≤ a + 2
      omega
  intro _ _
  (repeat (first | refine K4 ?_ | refine RG.d ?_ | refine S1 ?_ | refine S2 ?_ | refine S6 ?_))
  exact ⟨⟨_, rfl, rfl⟩, rfl, .nil _⟩
end Go.Proofs.Ytmfccaidgaelcaa
