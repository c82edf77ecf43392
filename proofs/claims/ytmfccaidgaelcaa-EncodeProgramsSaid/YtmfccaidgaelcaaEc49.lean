/- The words of a program, as the reference writes them. No conditions. -/
import Derived.Test.YtmfccaidgaelcaaEc6
import Derived.Test.YtmfccaidgaelcaaEc45
set_option linter.unusedVariables false
set_option linter.unusedSimpArgs false
namespace Go.Proofs.Ytmfccaidgaelcaa
open Go.Abs Go Go.RowKit
def sgk (c k : Nat) : Nat := if k = 0 then 0 else k + c
theorem sgk_inj (c : Nat) : ∀ a b, sgk c a = sgk c b → a = b := by intro a b h; unfold sgk at h; split at h <;> split at h <;> omega
theorem sgk_hi (c a : Nat) (ha : 2 ≤ a) : 2 + c ≤ sgk c a := by unfold sgk; split <;> omega
set_option maxHeartbeats 32000000 in
set_option maxRecDepth 10000 in
theorem rprog_fc (p : Pg) (ok : p.ok) (hB : p.w.length ≤ 1000000) : FC Try.prog ge 55 [.agg p.cl] [] (rdi p.w) [] NoP := by
    obtain ⟨⟨globals, classes, queues, sinks, locks, parts, firms⟩, heads, defs, threads⟩ := p
    have hw : (Pg.mk ⟨globals, classes, queues, sinks, locks, parts, firms⟩ heads defs threads).w = [2] ++ ((globals.length : Int) :: fmW Rg.w globals) ++ ((classes.length : Int) :: fmW Rg.w classes) ++ [(queues.length : Int)] ++ fmW Qu.w queues ++ ((sinks.length : Int) :: sinks) ++ [locks, parts, firms, (heads.length : Int)] ++ fmW Hd.w heads ++ [(defs.length : Int)] ++ fmW Df.w defs ++ ((threads.length : Int) :: threads) := by simp [Pg.w, pgT]
    have hB2 := hB
    rw [hw] at hB2
    simp only [List.length_append, List.length_cons, List.length_nil] at hB2
    have c1 := rranges_fc globals (by unfold BW; omega)
    have c2 := rranges_fc classes (by unfold BW; omega)
    have c3 := rints_fc sinks (by unfold BW; omega)
    have c4 := rints_fc threads (by unfold BW; omega)
    have hlq : queues.length ≤ 1000000 := by have := fmW_len (w := Qu.w) (fun x => Qu.w_pos x) queues; omega
    have hlh : heads.length ≤ 1000000 := by have := fmW_len (w := Hd.w) (fun x => Hd.w_pos x) heads; omega
    have hld : defs.length ≤ 1000000 := by have := fmW_len (w := Df.w) (fun x => Df.w_pos x) defs; omega
    rw [hw]
    clear hB hw
    obtain ⟨w1, h1⟩ : ∃ w, w = (globals.length : Int) :: fmW Rg.w globals := ⟨_, rfl⟩
    obtain ⟨w2, h2⟩ : ∃ w, w = (classes.length : Int) :: fmW Rg.w classes := ⟨_, rfl⟩
    obtain ⟨w3, h3⟩ : ∃ w, w = (sinks.length : Int) :: sinks := ⟨_, rfl⟩
    obtain ⟨w4, h4⟩ : ∃ w, w = (threads.length : Int) :: threads := ⟨_, rfl⟩
    have l1 : w1.length = (fmW Rg.w globals).length + 1 := by rw [h1, List.length_cons]
    have l2 : w2.length = (fmW Rg.w classes).length + 1 := by rw [h2, List.length_cons]
    have l3 : w3.length = sinks.length + 1 := by rw [h3, List.length_cons]
    have l4 : w4.length = threads.length + 1 := by rw [h4, List.length_cons]
    rw [← h1] at c1 ⊢
    rw [← h2] at c2 ⊢
    rw [← h3] at c3 ⊢
    rw [← h4] at c4 ⊢
    clear h1 h2 h3 h4
    obtain ⟨U1, hU1⟩ : ∃ Z, Z = ([2] : List Int) ++ w1 := ⟨_, rfl⟩
    have lU1 : U1.length = ([2] : List Int).length + w1.length := by rw [hU1, List.length_append]
    obtain ⟨U2, hU2⟩ : ∃ Z, Z = U1 ++ w2 := ⟨_, rfl⟩
    have lU2 : U2.length = U1.length + w2.length := by rw [hU2, List.length_append]
    obtain ⟨U3, hU3⟩ : ∃ Z, Z = U2 ++ [(queues.length : Int)] := ⟨_, rfl⟩
    have lU3 : U3.length = U2.length + [(queues.length : Int)].length := by rw [hU3, List.length_append]
    obtain ⟨U4, hU4⟩ : ∃ Z, Z = U3 ++ (fmW Qu.w queues) := ⟨_, rfl⟩
    have lU4 : U4.length = U3.length + (fmW Qu.w queues).length := by rw [hU4, List.length_append]
    obtain ⟨U5, hU5⟩ : ∃ Z, Z = U4 ++ w3 := ⟨_, rfl⟩
    have lU5 : U5.length = U4.length + w3.length := by rw [hU5, List.length_append]
    obtain ⟨U6, hU6⟩ : ∃ Z, Z = U5 ++ [locks, parts, firms, (heads.length : Int)] := ⟨_, rfl⟩
    have lU6 : U6.length = U5.length + [locks, parts, firms, (heads.length : Int)].length := by rw [hU6, List.length_append]
    obtain ⟨U7, hU7⟩ : ∃ Z, Z = U6 ++ (fmW Hd.w heads) := ⟨_, rfl⟩
    have lU7 : U7.length = U6.length + (fmW Hd.w heads).length := by rw [hU7, List.length_append]
    obtain ⟨U8, hU8⟩ : ∃ Z, Z = U7 ++ [(defs.length : Int)] := ⟨_, rfl⟩
    have lU8 : U8.length = U7.length + [(defs.length : Int)].length := by rw [hU8, List.length_append]
    obtain ⟨U9, hU9⟩ : ∃ Z, Z = U8 ++ (fmW Df.w defs) := ⟨_, rfl⟩
    have lU9 : U9.length = U8.length + (fmW Df.w defs).length := by rw [hU9, List.length_append]
    obtain ⟨U10, hU10⟩ : ∃ Z, Z = U9 ++ w4 := ⟨_, rfl⟩
    have lU10 : U10.length = U9.length + w4.length := by rw [hU10, List.length_append]
    rw [← hU1, ← hU2, ← hU3, ← hU4, ← hU5, ← hU6, ← hU7, ← hU8, ← hU9, ← hU10]
    have e0 : ([2] : List Int).length = 1 := rfl
    have e1 : [(queues.length : Int)].length = 1 := rfl
    have e2 : [locks, parts, firms, (heads.length : Int)].length = 4 := rfl
    have e3 : [(defs.length : Int)].length = 1 := rfl
    simp only [Pg.cl, Dc.cl, List.cons_append, List.nil_append]
    refine FC.of_AW tok Try.func55 (by kernel_rfl) rfl Try.ntmps55 [] rfl rfl rfl ?_; intro w0 X0 Y f0 hI0 hX0
    (repeat (first | refine K1 ?_))
    refine S1 ?_
    (repeat (first | refine K4 ?_ | refine L2 ?_ | refine RG.d ?_ | refine S2 ?_))
    refine S1 ?_
    (repeat (first | refine K4 ?_ | refine L1 ?_ | refine L2 ?_ | refine S2 ?_))
    refine RG.call rfl rfl rfl rfl (c1) [] rfl rfl rfl rfl (.nil _) (.nil _) (fun _ h => False.elim h) rfl (A.ren_free _ _ rfl) rfl ?_
    refine RG.append tok rfl rfl rfl rfl rfl rfl rfl rfl (n1 := 1) (c := ints .i64 ([2] : List Int)) (ks := [1]) rfl (m := w1.length) (l := ints .i64 w1) (ks' := []) rfl (by rw [ints_length, Nat.mul_one] <;> rfl) (by simp [ints_length, List.length_append] <;> omega) (ints_cell _ _) (by omega) (by omega) rfl (c' := ints .i64 U1) (by rw [ints_take _ _ _ (by simp [List.length_append] <;> omega), ← ints_append, hU1]) ?_
    rw [show 1 + w1.length = U1.length by rw [hU1, List.length_append] <;> rfl]
    (repeat (first | refine K4 ?_ | refine L1 ?_))
    refine RG.call rfl rfl rfl rfl (c2) [] rfl rfl rfl rfl (.nil _) (.nil _) (fun _ h => False.elim h) rfl (A.ren_free _ _ rfl) rfl ?_
    refine RG.append tok rfl rfl rfl rfl rfl rfl rfl rfl (n1 := U1.length) (c := ints .i64 U1) (ks := [2]) rfl (m := w2.length) (l := ints .i64 w2) (ks' := []) rfl (by rw [ints_length, Nat.mul_one] <;> rfl) (by simp [ints_length, List.length_append] <;> omega) (ints_cell _ _) (by omega) (by omega) rfl (c' := ints .i64 U2) (by rw [ints_take _ _ _ (by simp [List.length_append] <;> omega), ← ints_append, hU2]) ?_
    rw [show U1.length + w2.length = U2.length by rw [hU2, List.length_append] <;> rfl]
    (repeat (first | refine K4 ?_ | refine RG.dd ?_))
    refine S1 ?_
    (repeat (first | refine K4 ?_ | refine L1 ?_ | refine L2 ?_ | refine S2 ?_))
    refine RG.append tok rfl rfl rfl rfl rfl rfl rfl rfl (n1 := U2.length) (c := ints .i64 U2) (ks := [3]) rfl (m := 1) (l := ints .i64 [(queues.length : Int)]) (ks' := [4]) rfl (by rw [ints_length, Nat.mul_one] <;> rfl) (by simp [ints_length, List.length_append] <;> omega) (ints_cell _ _) (by omega) (by omega) rfl (c' := ints .i64 U3) (by rw [ints_take _ _ _ (by simp [List.length_append] <;> omega), ← ints_append, hU3]) ?_
    rw [show U2.length + 1 = U3.length by rw [hU3, List.length_append] <;> rfl]
    (repeat (first | refine K4 ?_ | refine RG.d ?_))
    refine AW.sub (t := ⟨put 1 (some (.ptr 0 [] 0)) (put 3 (some (.sl 1 [] 1 0 U3.length)) noE), hput 0 (.one ([.ro globals.length (flC Rg.cl globals), .ro classes.length (flC Rg.cl classes), .ro queues.length (flC Qu.cl queues), .ro sinks.length (ints .i64 sinks), i64 locks, i64 parts, i64 firms, .ro heads.length (flC Hd.cl heads), .ro defs.length (flC Df.cl defs), .ro threads.length (ints .i64 threads)])) (hput 1 (.one (ints .i64 U3)) noH), 2⟩) (Sub.renB (sgk 4) (by repeat (first | exact SubEr.no _ _ | refine SubEr.put rfl ?_)) (SubHr.put rfl rfl (SubHr.put rfl (ints_free _ _ _) (SubHr.no _ _))) (sgk_inj 4) (fun a ha => sgk_hi 4 a ha) (fun a ha => absurd ha (Nat.not_lt_zero _))) ?_
    refine AW.seqJ (fun _ : Unit => ⟨put 1 (some (.ptr 0 [] 0)) (put 3 (some (.sl 1 [] 1 0 U4.length)) noE), hput 0 (.one ([.ro globals.length (flC Rg.cl globals), .ro classes.length (flC Rg.cl classes), .ro queues.length (flC Qu.cl queues), .ro sinks.length (ints .i64 sinks), i64 locks, i64 parts, i64 firms, .ro heads.length (flC Hd.cl heads), .ro defs.length (flC Df.cl defs), .ro threads.length (ints .i64 threads)])) (hput 1 (.one (ints .i64 U4)) noH), 2⟩) (fun _ => True) ?_ ?_
    · refine S1 ?_
      (repeat (first | refine K4 ?_ | refine RG.d ?_ | refine S2 ?_ | refine S4 ?_))
      refine AW.loopS (fun p : Nat × List Int => ⟨put 1 (some (.ptr 0 [] 0)) (put 3 (some (.sl 1 [] 1 0 p.2.length)) (put 4 (some (i64 (p.1 : Int))) noE)), hput 0 (.one ([.ro globals.length (flC Rg.cl globals), .ro classes.length (flC Rg.cl classes), .ro queues.length (flC Qu.cl queues), .ro sinks.length (ints .i64 sinks), i64 locks, i64 parts, i64 firms, .ro heads.length (flC Hd.cl heads), .ro defs.length (flC Df.cl defs), .ro threads.length (ints .i64 threads)])) (hput 1 (.one (ints .i64 p.2)) noH), 2⟩)
        (fun p => p.1 ≤ queues.length ∧ p.2 = U3 ++ fmW Qu.w (queues.take p.1)) (fun p => queues.length - p.1) (0, U3) ⟨Nat.zero_le _, by simp [fmW]⟩ (Sub.of (by repeat (first | exact SubE.no _ | refine SubE.put rfl ?_)) (by repeat (first | exact SubH.no _ | refine SubH.put rfl ?_)) rfl) ?_
      rintro ⟨i, U⟩ ⟨hi, hU⟩
      dsimp only at hi hU
      (repeat (first | refine K4 ?_ | refine L1 ?_ | refine RG.d ?_ | refine S1 ?_ | refine S2 ?_))
      refine AW.condD rfl (fun k => ?_) (fun k => ?_)
      rotate_left
      · have hi2 : i = queues.length := by
          have : ¬ (i : Int) < (queues.length : Int) := k
          omega
        rw [hi2, List.take_length, ← hU4] at hU
        subst hU
        (repeat (first | refine S5 ?_))
        exact ⟨(), trivial, Sub.of (by repeat (first | exact SubE.no _ | refine SubE.put rfl ?_)) (by repeat (first | exact SubH.no _ | refine SubH.put rfl ?_)) rfl⟩
      have hi2 : i < queues.length := by
        have : (i : Int) < (queues.length : Int) := k
        omega
      obtain ⟨x, hx⟩ : ∃ x, queues[i]? = some x := ⟨_, List.getElem?_eq_getElem hi2⟩
      have hat := flC_at Qu.cl_len queues i x hx
      have hU2' := fmW_take Qu.w queues i x hx
      have hlen := fmW_le Qu.w queues (i + 1)
      rw [hU2', List.length_append] at hlen
      have hUl : U.length = U3.length + (fmW Qu.w (queues.take i)).length := by rw [hU, List.length_append]
      obtain ⟨q1, r1, r2, r3⟩ := x
      simp only [Qu.cl, Qu.w, Rg.w, List.cons_append, List.nil_append, List.length_cons, List.length_nil] at hat hU2' hlen
      (repeat (first | refine K4 ?_ | refine L1 ?_ | refine S1 ?_ | refine S2 ?_ | refine S3 ?_ | refine S4 ?_))
      refine RG.idx tok rfl rfl rfl rfl rfl rfl hat ⟨by omega, by omega⟩ rfl ?_
      (repeat (first | refine K4 ?_ | refine L1 ?_ | refine L2 ?_ | refine L3 ?_ | refine RG.d ?_ | refine S2 ?_))
      obtain ⟨V, hV⟩ : ∃ Z, Z = U ++ [q1, r1, r2, r3] := ⟨_, rfl⟩
      have lV : V.length = U.length + [q1, r1, r2, r3].length := by rw [hV, List.length_append]
      refine RG.append tok rfl rfl rfl rfl rfl rfl rfl rfl (n1 := U.length) (c := ints .i64 U) (ks := [1]) rfl (m := 4) (l := ints .i64 [q1, r1, r2, r3]) (ks' := [3]) rfl (by rw [ints_length, Nat.mul_one] <;> rfl) (by simp [ints_length, List.length_append] <;> omega) (ints_cell _ _) (by omega) (by omega) rfl (c' := ints .i64 V) (by rw [ints_take _ _ _ (by simp [List.length_append] <;> omega), ← ints_append, hV]) ?_
      rw [show U.length + 4 = V.length by rw [hV, List.length_append] <;> rfl]
      (repeat (first | refine K2 ?_ | refine K4 ?_ | refine RG.d ?_ | refine S2 ?_))
      refine ⟨(i + 1, V), ⟨by dsimp only; omega, by dsimp only; rw [hV, hU, hU2', List.append_assoc]⟩, by dsimp only; omega, Sub.renB (sgk 3) (by repeat (first | exact SubEr.no _ _ | refine SubEr.put rfl ?_)) (SubHr.put rfl rfl (SubHr.put rfl (ints_free _ _ _) (SubHr.no _ _))) (sgk_inj 3) (fun a ha => sgk_hi 3 a ha) (fun a ha => absurd ha (Nat.not_lt_zero _))⟩
    intro _ _
    refine S1 ?_
    (repeat (first | refine K4 ?_ | refine L1 ?_ | refine S2 ?_))
    refine RG.call rfl rfl rfl rfl (c3) [] rfl rfl rfl rfl (.nil _) (.nil _) (fun _ h => False.elim h) rfl (A.ren_free _ _ rfl) rfl ?_
    refine RG.append tok rfl rfl rfl rfl rfl rfl rfl rfl (n1 := U4.length) (c := ints .i64 U4) (ks := [1]) rfl (m := w3.length) (l := ints .i64 w3) (ks' := []) rfl (by rw [ints_length, Nat.mul_one] <;> rfl) (by simp [ints_length, List.length_append] <;> omega) (ints_cell _ _) (by omega) (by omega) rfl (c' := ints .i64 U5) (by rw [ints_take _ _ _ (by simp [List.length_append] <;> omega), ← ints_append, hU5]) ?_
    rw [show U4.length + w3.length = U5.length by rw [hU5, List.length_append] <;> rfl]
    (repeat (first | refine K4 ?_ | refine L1 ?_ | refine L2 ?_))
    refine RG.append tok rfl rfl rfl rfl rfl rfl rfl rfl (n1 := U5.length) (c := ints .i64 U5) (ks := [2]) rfl (m := 4) (l := ints .i64 [locks, parts, firms, (heads.length : Int)]) (ks' := [3]) rfl (by rw [ints_length, Nat.mul_one] <;> rfl) (by simp [ints_length, List.length_append] <;> omega) (ints_cell _ _) (by omega) (by omega) rfl (c' := ints .i64 U6) (by rw [ints_take _ _ _ (by simp [List.length_append] <;> omega), ← ints_append, hU6]) ?_
    rw [show U5.length + 4 = U6.length by rw [hU6, List.length_append] <;> rfl]
    (repeat (first | refine K4 ?_ | refine RG.dd ?_))
    refine AW.sub (t := ⟨put 1 (some (.ptr 0 [] 0)) (put 3 (some (.sl 1 [] 1 0 U6.length)) noE), hput 0 (.one ([.ro globals.length (flC Rg.cl globals), .ro classes.length (flC Rg.cl classes), .ro queues.length (flC Qu.cl queues), .ro sinks.length (ints .i64 sinks), i64 locks, i64 parts, i64 firms, .ro heads.length (flC Hd.cl heads), .ro defs.length (flC Df.cl defs), .ro threads.length (ints .i64 threads)])) (hput 1 (.one (ints .i64 U6)) noH), 2⟩) (Sub.renB (sgk 3) (by repeat (first | exact SubEr.no _ _ | refine SubEr.put rfl ?_)) (SubHr.put rfl rfl (SubHr.put rfl (ints_free _ _ _) (SubHr.no _ _))) (sgk_inj 3) (fun a ha => sgk_hi 3 a ha) (fun a ha => absurd ha (Nat.not_lt_zero _))) ?_
    refine AW.seqJ (fun _ : Unit => ⟨put 1 (some (.ptr 0 [] 0)) (put 3 (some (.sl 1 [] 1 0 U7.length)) noE), hput 0 (.one ([.ro globals.length (flC Rg.cl globals), .ro classes.length (flC Rg.cl classes), .ro queues.length (flC Qu.cl queues), .ro sinks.length (ints .i64 sinks), i64 locks, i64 parts, i64 firms, .ro heads.length (flC Hd.cl heads), .ro defs.length (flC Df.cl defs), .ro threads.length (ints .i64 threads)])) (hput 1 (.one (ints .i64 U7)) noH), 2⟩) (fun _ => True) ?_ ?_
    · refine S1 ?_
      (repeat (first | refine K4 ?_ | refine RG.d ?_ | refine S2 ?_ | refine S4 ?_))
      refine AW.loopS (fun p : Nat × List Int => ⟨put 1 (some (.ptr 0 [] 0)) (put 3 (some (.sl 1 [] 1 0 p.2.length)) (put 6 (some (i64 (p.1 : Int))) noE)), hput 0 (.one ([.ro globals.length (flC Rg.cl globals), .ro classes.length (flC Rg.cl classes), .ro queues.length (flC Qu.cl queues), .ro sinks.length (ints .i64 sinks), i64 locks, i64 parts, i64 firms, .ro heads.length (flC Hd.cl heads), .ro defs.length (flC Df.cl defs), .ro threads.length (ints .i64 threads)])) (hput 1 (.one (ints .i64 p.2)) noH), 2⟩)
        (fun p => p.1 ≤ heads.length ∧ p.2 = U6 ++ fmW Hd.w (heads.take p.1)) (fun p => heads.length - p.1) (0, U6) ⟨Nat.zero_le _, by simp [fmW]⟩ (Sub.of (by repeat (first | exact SubE.no _ | refine SubE.put rfl ?_)) (by repeat (first | exact SubH.no _ | refine SubH.put rfl ?_)) rfl) ?_
      rintro ⟨i, U⟩ ⟨hi, hU⟩
      dsimp only at hi hU
      (repeat (first | refine K4 ?_ | refine L1 ?_ | refine RG.d ?_ | refine S1 ?_ | refine S2 ?_))
      refine AW.condD rfl (fun k => ?_) (fun k => ?_)
      rotate_left
      · have hi2 : i = heads.length := by
          have : ¬ (i : Int) < (heads.length : Int) := k
          omega
        rw [hi2, List.take_length, ← hU7] at hU
        subst hU
        (repeat (first | refine S5 ?_))
        exact ⟨(), trivial, Sub.of (by repeat (first | exact SubE.no _ | refine SubE.put rfl ?_)) (by repeat (first | exact SubH.no _ | refine SubH.put rfl ?_)) rfl⟩
      have hi2 : i < heads.length := by
        have : (i : Int) < (heads.length : Int) := k
        omega
      obtain ⟨x, hx⟩ : ∃ x, heads[i]? = some x := ⟨_, List.getElem?_eq_getElem hi2⟩
      have hat := flC_at Hd.cl_len heads i x hx
      have hU2' := fmW_take Hd.w heads i x hx
      have hlen := fmW_le Hd.w heads (i + 1)
      rw [hU2', List.length_append] at hlen
      have hUl : U.length = U6.length + (fmW Hd.w (heads.take i)).length := by rw [hU, List.length_append]
      have chw : (Hd.w x).length = (Hd.w x).length := rfl
      obtain ⟨q1, q2, q3, r1, r2⟩ := x
      simp only [Hd.cl, Hd.w, List.cons_append, List.nil_append, List.length_cons, List.length_append] at hat hU2' hlen
      have cr1 := rranges_fc r1 (by unfold BW; omega)
      have cr2 := rranges_fc r2 (by unfold BW; omega)
      obtain ⟨x1, hx1⟩ : ∃ w, w = (r1.length : Int) :: fmW Rg.w r1 := ⟨_, rfl⟩
      obtain ⟨x2, hx2⟩ : ∃ w, w = (r2.length : Int) :: fmW Rg.w r2 := ⟨_, rfl⟩
      have lx1 : x1.length = (fmW Rg.w r1).length + 1 := by rw [hx1, List.length_cons]
      have lx2 : x2.length = (fmW Rg.w r2).length + 1 := by rw [hx2, List.length_cons]
      rw [← hx1] at cr1
      rw [← hx2] at cr2
      have hU3 : fmW Hd.w (heads.take (i + 1)) = fmW Hd.w (heads.take i) ++ ([q1, q2, q3] ++ (x1 ++ x2)) := by rw [hU2', hx1, hx2]; simp
      (repeat (first | refine K4 ?_ | refine L1 ?_ | refine S1 ?_ | refine S2 ?_ | refine S3 ?_ | refine S4 ?_))
      refine RG.idx tok rfl rfl rfl rfl rfl rfl hat ⟨by omega, by omega⟩ rfl ?_
      (repeat (first | refine K4 ?_ | refine L1 ?_ | refine L2 ?_ | refine L3 ?_ | refine RG.d ?_ | refine S2 ?_))
      obtain ⟨Va, hVa⟩ : ∃ Z, Z = U ++ [q1, q2, q3] := ⟨_, rfl⟩
      have lVa : Va.length = U.length + [q1, q2, q3].length := by rw [hVa, List.length_append]
      obtain ⟨Vb, hVb⟩ : ∃ Z, Z = Va ++ x1 := ⟨_, rfl⟩
      have lVb : Vb.length = Va.length + x1.length := by rw [hVb, List.length_append]
      obtain ⟨V, hV⟩ : ∃ Z, Z = Vb ++ x2 := ⟨_, rfl⟩
      have lV : V.length = Vb.length + x2.length := by rw [hV, List.length_append]
      have e3 : [q1, q2, q3].length = 3 := rfl
      refine RG.append tok rfl rfl rfl rfl rfl rfl rfl rfl (n1 := U.length) (c := ints .i64 U) (ks := [1]) rfl (m := 3) (l := ints .i64 [q1, q2, q3]) (ks' := [3]) rfl (by rw [ints_length, Nat.mul_one] <;> rfl) (by simp [ints_length, List.length_append] <;> omega) (ints_cell _ _) (by omega) (by omega) rfl (c' := ints .i64 Va) (by rw [ints_take _ _ _ (by simp [List.length_append] <;> omega), ← ints_append, hVa]) ?_
      rw [show U.length + 3 = Va.length by rw [hVa, List.length_append] <;> rfl]
      (repeat (first | refine K4 ?_ | refine L1 ?_))
      refine RG.call rfl rfl rfl rfl (cr1) [] rfl rfl rfl rfl (.nil _) (.nil _) (fun _ h => False.elim h) rfl (A.ren_free _ _ rfl) rfl ?_
      refine RG.append tok rfl rfl rfl rfl rfl rfl rfl rfl (n1 := Va.length) (c := ints .i64 Va) (ks := [4]) rfl (m := x1.length) (l := ints .i64 x1) (ks' := []) rfl (by rw [ints_length, Nat.mul_one] <;> rfl) (by simp [ints_length, List.length_append] <;> omega) (ints_cell _ _) (by omega) (by omega) rfl (c' := ints .i64 Vb) (by rw [ints_take _ _ _ (by simp [List.length_append] <;> omega), ← ints_append, hVb]) ?_
      rw [show Va.length + x1.length = Vb.length by rw [hVb, List.length_append] <;> rfl]
      (repeat (first | refine K4 ?_ | refine L1 ?_))
      refine RG.call rfl rfl rfl rfl (cr2) [] rfl rfl rfl rfl (.nil _) (.nil _) (fun _ h => False.elim h) rfl (A.ren_free _ _ rfl) rfl ?_
      refine RG.append tok rfl rfl rfl rfl rfl rfl rfl rfl (n1 := Vb.length) (c := ints .i64 Vb) (ks := [5]) rfl (m := x2.length) (l := ints .i64 x2) (ks' := []) rfl (by rw [ints_length, Nat.mul_one] <;> rfl) (by simp [ints_length, List.length_append] <;> omega) (ints_cell _ _) (by omega) (by omega) rfl (c' := ints .i64 V) (by rw [ints_take _ _ _ (by simp [List.length_append] <;> omega), ← ints_append, hV]) ?_
      rw [show Vb.length + x2.length = V.length by rw [hV, List.length_append] <;> rfl]
      (repeat (first | refine K2 ?_ | refine K4 ?_ | refine RG.d ?_ | refine RG.dd ?_ | refine S2 ?_))
      refine ⟨(i + 1, V), ⟨by dsimp only; omega, by dsimp only; rw [hV, hVb, hVa, hU, hU3]; simp only [List.append_assoc]⟩, by dsimp only; omega, Sub.renB (sgk 5) (by repeat (first | exact SubEr.no _ _ | refine SubEr.put rfl ?_)) (SubHr.put rfl rfl (SubHr.put rfl (ints_free _ _ _) (SubHr.no _ _))) (sgk_inj 5) (fun a ha => sgk_hi 5 a ha) (fun a ha => absurd ha (Nat.not_lt_zero _))⟩
    intro _ _
    refine S1 ?_
    (repeat (first | refine K4 ?_ | refine L1 ?_ | refine L2 ?_ | refine S2 ?_))
    refine RG.append tok rfl rfl rfl rfl rfl rfl rfl rfl (n1 := U7.length) (c := ints .i64 U7) (ks := [1]) rfl (m := 1) (l := ints .i64 [(defs.length : Int)]) (ks' := [2]) rfl (by rw [ints_length, Nat.mul_one] <;> rfl) (by simp [ints_length, List.length_append] <;> omega) (ints_cell _ _) (by omega) (by omega) rfl (c' := ints .i64 U8) (by rw [ints_take _ _ _ (by simp [List.length_append] <;> omega), ← ints_append, hU8]) ?_
    rw [show U7.length + 1 = U8.length by rw [hU8, List.length_append] <;> rfl]
    (repeat (first | refine K4 ?_ | refine RG.d ?_))
    refine AW.sub (t := ⟨put 1 (some (.ptr 0 [] 0)) (put 3 (some (.sl 1 [] 1 0 U8.length)) noE), hput 0 (.one ([.ro globals.length (flC Rg.cl globals), .ro classes.length (flC Rg.cl classes), .ro queues.length (flC Qu.cl queues), .ro sinks.length (ints .i64 sinks), i64 locks, i64 parts, i64 firms, .ro heads.length (flC Hd.cl heads), .ro defs.length (flC Df.cl defs), .ro threads.length (ints .i64 threads)])) (hput 1 (.one (ints .i64 U8)) noH), 2⟩) (Sub.renB (sgk 2) (by repeat (first | exact SubEr.no _ _ | refine SubEr.put rfl ?_)) (SubHr.put rfl rfl (SubHr.put rfl (ints_free _ _ _) (SubHr.no _ _))) (sgk_inj 2) (fun a ha => sgk_hi 2 a ha) (fun a ha => absurd ha (Nat.not_lt_zero _))) ?_
    refine AW.seqJ (fun _ : Unit => ⟨put 1 (some (.ptr 0 [] 0)) (put 3 (some (.sl 1 [] 1 0 U9.length)) noE), hput 0 (.one ([.ro globals.length (flC Rg.cl globals), .ro classes.length (flC Rg.cl classes), .ro queues.length (flC Qu.cl queues), .ro sinks.length (ints .i64 sinks), i64 locks, i64 parts, i64 firms, .ro heads.length (flC Hd.cl heads), .ro defs.length (flC Df.cl defs), .ro threads.length (ints .i64 threads)])) (hput 1 (.one (ints .i64 U9)) noH), 2⟩) (fun _ => True) ?_ ?_
    · refine S1 ?_
      (repeat (first | refine K4 ?_ | refine RG.d ?_ | refine S2 ?_ | refine S4 ?_))
      refine AW.loopS (fun p : Nat × List Int => ⟨put 1 (some (.ptr 0 [] 0)) (put 3 (some (.sl 1 [] 1 0 p.2.length)) (put 8 (some (i64 (p.1 : Int))) noE)), hput 0 (.one ([.ro globals.length (flC Rg.cl globals), .ro classes.length (flC Rg.cl classes), .ro queues.length (flC Qu.cl queues), .ro sinks.length (ints .i64 sinks), i64 locks, i64 parts, i64 firms, .ro heads.length (flC Hd.cl heads), .ro defs.length (flC Df.cl defs), .ro threads.length (ints .i64 threads)])) (hput 1 (.one (ints .i64 p.2)) noH), 2⟩)
        (fun p => p.1 ≤ defs.length ∧ p.2 = U8 ++ fmW Df.w (defs.take p.1)) (fun p => defs.length - p.1) (0, U8) ⟨Nat.zero_le _, by simp [fmW]⟩ (Sub.of (by repeat (first | exact SubE.no _ | refine SubE.put rfl ?_)) (by repeat (first | exact SubH.no _ | refine SubH.put rfl ?_)) rfl) ?_
      rintro ⟨i, U⟩ ⟨hi, hU⟩
      dsimp only at hi hU
      (repeat (first | refine K4 ?_ | refine L1 ?_ | refine RG.d ?_ | refine S1 ?_ | refine S2 ?_))
      refine AW.condD rfl (fun k => ?_) (fun k => ?_)
      rotate_left
      · have hi2 : i = defs.length := by
          have : ¬ (i : Int) < (defs.length : Int) := k
          omega
        rw [hi2, List.take_length, ← hU9] at hU
        subst hU
        (repeat (first | refine S5 ?_))
        exact ⟨(), trivial, Sub.of (by repeat (first | exact SubE.no _ | refine SubE.put rfl ?_)) (by repeat (first | exact SubH.no _ | refine SubH.put rfl ?_)) rfl⟩
      have hi2 : i < defs.length := by
        have : (i : Int) < (defs.length : Int) := k
        omega
      obtain ⟨x, hx⟩ : ∃ x, defs[i]? = some x := ⟨_, List.getElem?_eq_getElem hi2⟩
      have hat := flC_at Df.cl_len defs i x hx
      have hU2' := fmW_take Df.w defs i x hx
      have hlen := fmW_le Df.w defs (i + 1)
      rw [hU2', List.length_append] at hlen
      have hUl : U.length = U8.length + (fmW Df.w (defs.take i)).length := by rw [hU, List.length_append]
      have cd := rdef_fc x (ok x (List.mem_of_getElem? hx)) (by unfold BW; omega)
      obtain ⟨u, hu⟩ : ∃ u, u = x.w := ⟨_, rfl⟩
      rw [← hu] at cd hU2' hlen
      clear hu
      obtain ⟨d1, d2, d3, d4, d5, d6, d7, d8, d9, d10, d11, d12⟩ := x
      simp only [Df.cl, List.cons_append, List.nil_append] at hat cd
      (repeat (first | refine K4 ?_ | refine L1 ?_ | refine S1 ?_ | refine S2 ?_ | refine S3 ?_ | refine S4 ?_))
      refine RG.idx tok rfl rfl rfl rfl rfl rfl hat ⟨by omega, by omega⟩ rfl ?_
      (repeat (first | refine L1 ?_))
      refine RG.call rfl rfl rfl rfl (cd) [] rfl rfl rfl rfl (.nil _) (.nil _) (fun _ h => False.elim h) rfl (A.ren_free _ _ rfl) rfl ?_
      obtain ⟨V, hV⟩ : ∃ Z, Z = U ++ u := ⟨_, rfl⟩
      have lV : V.length = U.length + u.length := by rw [hV, List.length_append]
      refine RG.append tok rfl rfl rfl rfl rfl rfl rfl rfl (n1 := U.length) (c := ints .i64 U) (ks := [1]) rfl (m := u.length) (l := ints .i64 u) (ks' := []) rfl (by rw [ints_length, Nat.mul_one] <;> rfl) (by simp [ints_length, List.length_append] <;> omega) (ints_cell _ _) (by omega) (by omega) rfl (c' := ints .i64 V) (by rw [ints_take _ _ _ (by simp [List.length_append] <;> omega), ← ints_append, hV]) ?_
      rw [show U.length + u.length = V.length by rw [hV, List.length_append] <;> rfl]
      (repeat (first | refine K2 ?_ | refine K4 ?_ | refine RG.d ?_ | refine S2 ?_))
      refine ⟨(i + 1, V), ⟨by dsimp only; omega, by dsimp only; rw [hV, hU, hU2', List.append_assoc]⟩, by dsimp only; omega, Sub.renB (sgk 1) (by repeat (first | exact SubEr.no _ _ | refine SubEr.put rfl ?_)) (SubHr.put rfl rfl (SubHr.put rfl (ints_free _ _ _) (SubHr.no _ _))) (sgk_inj 1) (fun a ha => sgk_hi 1 a ha) (fun a ha => absurd ha (Nat.not_lt_zero _))⟩
    intro _ _
    refine S1 ?_
    (repeat (first | refine K4 ?_ | refine L1 ?_ | refine S2 ?_))
    refine RG.call rfl rfl rfl rfl (c4) [] rfl rfl rfl rfl (.nil _) (.nil _) (fun _ h => False.elim h) rfl (A.ren_free _ _ rfl) rfl ?_
    refine RG.append tok rfl rfl rfl rfl rfl rfl rfl rfl (n1 := U9.length) (c := ints .i64 U9) (ks := [1]) rfl (m := w4.length) (l := ints .i64 w4) (ks' := []) rfl (by rw [ints_length, Nat.mul_one] <;> rfl) (by simp [ints_length, List.length_append] <;> omega) (ints_cell _ _) (by omega) (by omega) rfl (c' := ints .i64 U10) (by rw [ints_take _ _ _ (by simp [List.length_append] <;> omega), ← ints_append, hU10]) ?_
    rw [show U9.length + w4.length = U10.length by rw [hU10, List.length_append] <;> rfl]
    (repeat (first | refine K4 ?_ | refine RG.d ?_))
    refine AW.sub (Sub.frz (ks := [2]) 2 rfl (frzI (xs := U10) rfl (by decide) rfl)) ?_
    (repeat (first | refine S6 ?_))
    exact ⟨⟨_, rfl, rfl⟩, rfl, .nil _⟩
theorem sameProg_fc (p q : Pg) (op : p.ok) (oq : q.ok) (hp : p.w.length ≤ 1000000) (hq : q.w.length ≤ 1000000) : FC Try.prog ge 28 [.agg p.cl, .agg q.cl] [] (.val (.bool (decide (p.w = q.w)))) [] NoP := by
  have c1 := rprog_fc p op hp
  have c2 := rprog_fc q oq hq
  have c3 := same_fc p.w q.w (by unfold BW; omega) (by unfold BW; omega)
  obtain ⟨w1, h1⟩ : ∃ w, w = p.w := ⟨_, rfl⟩
  obtain ⟨w2, h2⟩ : ∃ w, w = q.w := ⟨_, rfl⟩
  rw [← h1] at c1 c3 ⊢
  rw [← h2] at c2 c3 ⊢
  obtain ⟨⟨globals, classes, queues, sinks, locks, parts, firms⟩, heads, defs, threads⟩ := p
  obtain ⟨⟨globals2, classes2, queues2, sinks2, locks2, parts2, firms2⟩, heads2, defs2, threads2⟩ := q
  simp only [Pg.cl, Dc.cl, List.cons_append, List.nil_append] at c1 c2 ⊢
  refine FC.of_AW tok Try.func28 (by kernel_rfl) rfl Try.ntmps28 [] rfl rfl rfl ?_; intro w0 X0 Y f0 hI0 hX0
  (repeat (first | refine RG.call rfl rfl rfl rfl (c1) [] rfl rfl rfl rfl (.nil _) (.nil _) (fun _ h => False.elim h) rfl (A.ren_free _ _ rfl) rfl ?_ | refine RG.call rfl rfl rfl rfl (c2) [] rfl rfl rfl rfl (.nil _) (.nil _) (fun _ h => False.elim h) rfl (A.ren_free _ _ rfl) rfl ?_ | refine RG.call rfl rfl rfl rfl (c3) [] rfl rfl rfl rfl (.nil _) (.nil _) (fun _ h => False.elim h) rfl (A.ren_free _ _ rfl) rfl ?_ | refine K4 ?_ | refine L1 ?_ | refine L2 ?_ | refine RG.d ?_ | refine RG.dd ?_ | refine S1 ?_ | refine S2 ?_))
  (repeat (first | refine S6 ?_))
  exact ⟨⟨_, rfl, rfl⟩, rfl, .nil _⟩
end Go.Proofs.Ytmfccaidgaelcaa
