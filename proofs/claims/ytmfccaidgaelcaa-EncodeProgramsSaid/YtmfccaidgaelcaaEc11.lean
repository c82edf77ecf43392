/- The closure that a wrong form is caught by. No conditions. -/
import Derived.Test.YtmfccaidgaelcaaTab
import Derived.Test.YtmfccaidgaelcaaAbsD
import Derived.Tactics
import Derived.Tactics2
import Derived.Defers
import Derived.Recover
import Derived.Laws.Pointers
import Derived.Laws.StructEq
import Derived.Test.YtmfccaidgaelcaaAbsE
set_option linter.unusedVariables false
set_option linter.unusedSimpArgs false
namespace Go.Proofs.Ytmfccaidgaelcaa
open Go.Abs Go Go.RowKit
def wrongV : Value := .iface 141 (.agg #[])
theorem wrong_eq0 (d : Nat) (w : World) : (Op.equalIn (d + 1) 141 (.agg #[]) (.agg #[])).run Try.prog w = .ok true w := by
  rw [run_equalIn_struct w d 141 #[] #[] (by kernel_rfl) (by kernel_rfl), show Try.prog.fieldsOf 141 = #[] by kernel_rfl]
  rfl
theorem wrong_eq1 (d : Nat) (w : World) : (Op.equalIn (d + 2) 20 (.iface 141 (.agg #[])) (.iface 141 (.agg #[]))).run Try.prog w = .ok true w := by
  have h := wrong_eq0 d w
  obtain ⟨i, hi, hc⟩ := Option.map_eq_some_iff.1 (show (Try.prog.info? 141).map (·.comparable) = some true by kernel_rfl)
  rw [Op.equalIn]
  simp [run_underlying Try.underlying20, typeInfo, hi, hc, h]
theorem wrong_eq (w : World) : (binOp .neq 20 (.iface 141 (.agg #[])) (.iface 141 (.agg #[]))).run Try.prog w = .ok (.bool false) w := by
  have h := wrong_eq1 9998 w
  simp only [binOp, Op.equal, Op.maxDepth, Sem.run_bind, h, Result.andThen_ok]
  rfl

set_option maxRecDepth 100000 in
theorem idle_def (p4 p5 : Value) (w : World) : CallsD Try.prog 103 #[p4, p5] .returning w fun e u' w' => (∃ v, e = .returned v) ∧ u' = .returning ∧ w' = w := by
  refine callsD_of_wpS Try.func103 rfl fun c₀ cs hu => ?_
  apply wpS_seq
  apply wpS_region
  simp [wpOpsS, go_sem, recoverD, hu, Try.ntmps103, Exit.thenS]
  apply wpS_seq
  apply wpS_region
  simp [wpOpsS, go_sem, Exit.thenS]
  refine wpS_cond (t := false) (by simp [Act.eval, Array.replicate]) ?_
  simp only [Bool.false_eq_true, if_false]
  refine wpS_of_wp (wp_skip ?_)
  cases c₀
  simp_all [bodyPostS, results, Try.results103]
def zdef : List Value := [.int .i64 0, .int .i64 0, .string ⟨#[]⟩, .int .i64 0, .int .i64 0, .slice none 0 0, .slice none 0 0, .int .i64 0, .int .i64 0, .slice none 0 0, .int .i64 0, .slice none 0 0]
set_option maxRecDepth 100000 in
set_option maxHeartbeats 4000000 in
theorem catch_def (w : World) (b4 b5 : Nat) (hb : b4 ≠ b5) (h4 : ∃ arr el, w.heap[b4]? = some (.cells arr el (0, 0)) ∧ 12 ≤ arr.size) (h5 : ∃ arr el, w.heap[b5]? = some (.cells arr el (0, 0)) ∧ 1 ≤ arr.size) :
    CallsD Try.prog 103 #[.pointer (some ⟨b4, 0, none⟩), .pointer (some ⟨b5, 0, none⟩)] (.panicking [{ v := wrongV, recovered := false }]) w fun e u' w' =>
      (∃ v, e = .returned v) ∧ u' = .panicking [{ v := wrongV, recovered := true }] ∧ Kp (fun b => b = b4 ∨ b = b5) w w' ∧
      (∃ arr el, w'.heap[b4]? = some (.cells arr el (0, 0)) ∧ 12 ≤ arr.size ∧ arr.toList.take 12 = zdef) ∧ (∃ arr el, w'.heap[b5]? = some (.cells arr el (0, 0)) ∧ 1 ≤ arr.size ∧ arr.toList.take 1 = [.int .i64 3]) := by
  obtain ⟨arr4, el4, g4, s4⟩ := h4
  obtain ⟨arr5, el5, g5, s5⟩ := h5
  unfold wrongV
  refine callsD_of_wpS Try.func103 rfl fun c₀ cs hu => ?_
  apply wpS_seq
  apply wpS_region
  simp [wpOpsS, go_sem, recoverD, hu, Try.ntmps103, Exit.thenS]
  apply wpS_seq
  apply wpS_region
  simp [wpOpsS, go_sem, Exit.thenS]
  refine wpS_cond (t := true) (by simp [Act.eval, Array.replicate]) ?_
  simp only [if_true]
  apply wpS_seq
  apply wpS_seq
  apply wpS_region
  simp [wpOpsS, go_sem, Exit.thenS, wrong_eq]
  refine wpS_cond (t := false) (by simp [Act.eval, Array.replicate]) ?_
  simp only [Bool.false_eq_true, if_false]
  refine wpS_of_wp (wp_skip ?_)
  simp only [Exit.thenS]
  refine wpS_of_wp ?_
  refine AW.use (Q := QN _ ⟨noE, hput 0 (.one (zdef.map A.val)) (hput 1 (.one ([.val (.int .i64 3)])) noH), 2⟩)
    (Rel.two (I := GI.none) (N := 13) (Y := fun _ => False) hb (c4 := List.replicate 12 .any) (c5 := [.any]) g4 (by rw [List.length_replicate]; exact s4) (fun f X => VL_any 12 (by rw [List.length_take, List.length_replicate, Array.length_toList]; omega))
      g5 s5 (fun f X => VL_any 1 (by rw [List.length_take, Array.length_toList]; simp; omega)) (e := put 0 (some (.ptr 0 [] 0)) (put 1 (some (.ptr 1 [] 0)) noE)) (by simp) (fun i v hv X => ?_) rfl trivial (fun _ _ => Nat.zero_le _) (fun _ h => h.elim)) ?_ (QN.use fun f a w' hr => ?_)
  · by_cases h0 : i = 0
    · subst h0
      rw [put_same] at hv
      cases hv
      simp only [V]
      exact ⟨b4, rfl, by simp⟩
    · rw [put_ne _ _ h0] at hv
      by_cases h1 : i = 1
      · subst h1
        rw [put_same] at hv
        cases hv
        simp only [V]
        exact ⟨b5, rfl, by simp⟩
      · rw [put_ne _ _ h1] at hv
        cases hv
  · (repeat (first | refine L1 ?_ | refine L2 ?_ | refine L3 ?_ | refine RG.d ?_ | refine S1 ?_ | refine S2 ?_))
    exact Sub.down (by repeat (first | exact SubE.no _ | refine SubE.put rfl ?_)) (by repeat (first | exact SubH.no _ | refine SubH.put rfl ?_)) (by repeat (first | exact LtE.no _ | refine LtE.put rfl ?_)) (by repeat (first | exact LtH.no _ | refine LtH.put rfl rfl ?_)) rfl
  · have e4 := hr.ext 0 [] (some b4) rfl
    have e5 := hr.ext 1 [] (some b5) rfl
    have r4 := hr.h 0 [] (zdef.map A.val) rfl
    have r5 := hr.h 1 [] [.val (.int .i64 3)] rfl
    refine ⟨hr.defers.1, _, rfl, .tuple #[], by simp [results, Try.results103], ⟨_, rfl⟩, rfl, hr.kp, ?_, ?_⟩
    · rcases r4 with ⟨h1, _⟩ | ⟨b, arr, el, h1, h2, h3, h4⟩
      · cases h1
      · rw [e4] at h1
        cases h1
        exact ⟨arr, ⟨el, h2⟩, h3, VL_vals h4⟩
    · rcases r5 with ⟨h1, _⟩ | ⟨b, arr, el, h1, h2, h3, h4⟩
      · cases h1
      · rw [e5] at h1
        cases h1
        exact ⟨arr, ⟨el, h2⟩, h3, VL_vals (l := [.int .i64 3]) h4⟩

set_option maxRecDepth 100000 in
theorem idle_prg (p4 p5 : Value) (w : World) : CallsD Try.prog 76 #[p4, p5] .returning w fun e u' w' => (∃ v, e = .returned v) ∧ u' = .returning ∧ w' = w := by
  refine callsD_of_wpS Try.func76 rfl fun c₀ cs hu => ?_
  apply wpS_seq
  apply wpS_region
  simp [wpOpsS, go_sem, recoverD, hu, Try.ntmps76, Exit.thenS]
  apply wpS_seq
  apply wpS_region
  simp [wpOpsS, go_sem, Exit.thenS]
  refine wpS_cond (t := false) (by simp [Act.eval, Array.replicate]) ?_
  simp only [Bool.false_eq_true, if_false]
  refine wpS_of_wp (wp_skip ?_)
  cases c₀
  simp_all [bodyPostS, results, Try.results76]
def zprg : List Value := [.slice none 0 0, .slice none 0 0, .slice none 0 0, .slice none 0 0, .int .i64 0, .int .i64 0, .int .i64 0, .slice none 0 0, .slice none 0 0, .slice none 0 0]
set_option maxRecDepth 100000 in
set_option maxHeartbeats 4000000 in
theorem catch_prg (w : World) (b4 b5 : Nat) (hb : b4 ≠ b5) (h4 : ∃ arr el, w.heap[b4]? = some (.cells arr el (0, 0)) ∧ 10 ≤ arr.size) (h5 : ∃ arr el, w.heap[b5]? = some (.cells arr el (0, 0)) ∧ 1 ≤ arr.size) :
    CallsD Try.prog 76 #[.pointer (some ⟨b4, 0, none⟩), .pointer (some ⟨b5, 0, none⟩)] (.panicking [{ v := wrongV, recovered := false }]) w fun e u' w' =>
      (∃ v, e = .returned v) ∧ u' = .panicking [{ v := wrongV, recovered := true }] ∧ Kp (fun b => b = b4 ∨ b = b5) w w' ∧
      (∃ arr el, w'.heap[b4]? = some (.cells arr el (0, 0)) ∧ 10 ≤ arr.size ∧ arr.toList.take 10 = zprg) ∧ (∃ arr el, w'.heap[b5]? = some (.cells arr el (0, 0)) ∧ 1 ≤ arr.size ∧ arr.toList.take 1 = [.int .i64 3]) := by
  obtain ⟨arr4, el4, g4, s4⟩ := h4
  obtain ⟨arr5, el5, g5, s5⟩ := h5
  unfold wrongV
  refine callsD_of_wpS Try.func76 rfl fun c₀ cs hu => ?_
  apply wpS_seq
  apply wpS_region
  simp [wpOpsS, go_sem, recoverD, hu, Try.ntmps76, Exit.thenS]
  apply wpS_seq
  apply wpS_region
  simp [wpOpsS, go_sem, Exit.thenS]
  refine wpS_cond (t := true) (by simp [Act.eval, Array.replicate]) ?_
  simp only [if_true]
  apply wpS_seq
  apply wpS_seq
  apply wpS_region
  simp [wpOpsS, go_sem, Exit.thenS, wrong_eq]
  refine wpS_cond (t := false) (by simp [Act.eval, Array.replicate]) ?_
  simp only [Bool.false_eq_true, if_false]
  refine wpS_of_wp (wp_skip ?_)
  simp only [Exit.thenS]
  refine wpS_of_wp ?_
  refine AW.use (Q := QN _ ⟨noE, hput 0 (.one (zprg.map A.val)) (hput 1 (.one ([.val (.int .i64 3)])) noH), 2⟩)
    (Rel.two (I := GI.none) (N := 13) (Y := fun _ => False) hb (c4 := List.replicate 10 .any) (c5 := [.any]) g4 (by rw [List.length_replicate]; exact s4) (fun f X => VL_any 10 (by rw [List.length_take, List.length_replicate, Array.length_toList]; omega))
      g5 s5 (fun f X => VL_any 1 (by rw [List.length_take, Array.length_toList]; simp; omega)) (e := put 0 (some (.ptr 0 [] 0)) (put 1 (some (.ptr 1 [] 0)) noE)) (by simp) (fun i v hv X => ?_) rfl trivial (fun _ _ => Nat.zero_le _) (fun _ h => h.elim)) ?_ (QN.use fun f a w' hr => ?_)
  · by_cases h0 : i = 0
    · subst h0
      rw [put_same] at hv
      cases hv
      simp only [V]
      exact ⟨b4, rfl, by simp⟩
    · rw [put_ne _ _ h0] at hv
      by_cases h1 : i = 1
      · subst h1
        rw [put_same] at hv
        cases hv
        simp only [V]
        exact ⟨b5, rfl, by simp⟩
      · rw [put_ne _ _ h1] at hv
        cases hv
  · (repeat (first | refine L1 ?_ | refine L2 ?_ | refine L3 ?_ | refine RG.d ?_ | refine S1 ?_ | refine S2 ?_))
    exact Sub.down (by repeat (first | exact SubE.no _ | refine SubE.put rfl ?_)) (by repeat (first | exact SubH.no _ | refine SubH.put rfl ?_)) (by repeat (first | exact LtE.no _ | refine LtE.put rfl ?_)) (by repeat (first | exact LtH.no _ | refine LtH.put rfl rfl ?_)) rfl
  · have e4 := hr.ext 0 [] (some b4) rfl
    have e5 := hr.ext 1 [] (some b5) rfl
    have r4 := hr.h 0 [] (zprg.map A.val) rfl
    have r5 := hr.h 1 [] [.val (.int .i64 3)] rfl
    refine ⟨hr.defers.1, _, rfl, .tuple #[], by simp [results, Try.results76], ⟨_, rfl⟩, rfl, hr.kp, ?_, ?_⟩
    · rcases r4 with ⟨h1, _⟩ | ⟨b, arr, el, h1, h2, h3, h4⟩
      · cases h1
      · rw [e4] at h1
        cases h1
        exact ⟨arr, ⟨el, h2⟩, h3, VL_vals h4⟩
    · rcases r5 with ⟨h1, _⟩ | ⟨b, arr, el, h1, h2, h3, h4⟩
      · cases h1
      · rw [e5] at h1
        cases h1
        exact ⟨arr, ⟨el, h2⟩, h3, VL_vals (l := [.int .i64 3]) h4⟩
end Go.Proofs.Ytmfccaidgaelcaa
