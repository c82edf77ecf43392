/- What the program's Parse reads: words and numbers. No conditions. -/
import Derived.Test.YtifeioddiddnoaaGreatDoorSqA
import Derived.Test.YtifeioddiddnoaaGreatDoorAbsE
set_option linter.unusedVariables false
set_option linter.unusedSimpArgs false
namespace Go.Proofs.YtifeioddiddnoaaGreatDoor
open Go.Abs Go Go.RowKit
set_option maxRecDepth 20000
def wA (w : BA) : A := .val (.string w)
def wsA (ws : List BA) : A := .ro ws.length (ws.map wA)
theorem itoa_fc (n : Int) (h : -9223372036854775808 ≤ n ∧ n ≤ 9223372036854775807) : FC Tryz.prog gs 60 [i64 n] [] (wA (itB n)) [] NoP :=
  FC.of_calls (enter_of Tryz.func60 rfl rfl) fun w vs hI hv => by
    obtain ⟨a, rfl, e1⟩ := VL1 hv
    rw [e1.val]
    refine (Tryz.strconv_Itoa n h.1 h.2 w (gs_tab hI)).mono ?_
    rintro e w' ⟨rfl, k, os, rfl⟩
    exact ⟨rfl, Lib.below_grow _ w (Nat.le_refl _) k os⟩
def errA (b : Bool) : A := if b then .val .nilIface else .ifc 199 .any
theorem gs_S {w : World} (h : gs.p w) : ∃ tp v, w.var? Tryz.prog "strconv.ErrSyntax" = some #[.iface tp v] := (show _ ∧ _ ∧ _ ∧ _ from h).2.1
theorem gs_R {w : World} (h : gs.p w) : ∃ tp v, w.var? Tryz.prog "strconv.ErrRange" = some #[.iface tp v] := (show _ ∧ _ ∧ _ ∧ _ from h).2.2.1
theorem atoi_fc (s : BA) (hl : s.size ≤ 281474976710656) : FC Tryz.prog gs 91 [wA s] [] (.tup [i64 (nvF s), errA (okF s)]) [] NoP := by
  unfold nvF okF errA
  refine FC_of_calls (enter_of Tryz.func91 rfl rfl) fun w vs hI hv => ?_
  obtain ⟨a, rfl, e1⟩ := VL1 hv
  rw [e1.val]
  cases h : Lib.atoiAll s.data.toList with
  | ok v =>
    refine (Tryz.strconv_Atoi_ok s (by omega) v h w).mono ?_
    rintro e w' ⟨rfl, hw⟩
    refine ⟨_, rfl, fun Y hY => by unfold V; exact ⟨_, rfl, .cons (by simp only [V]) (.cons (by simp [V]) .nil)⟩, ?_⟩
    rcases hw with rfl | ⟨t, rfl⟩
    · exact Below.refl _ _
    · exact Lib.bytesWorld_below _ _ _
  | «syntax» =>
    obtain ⟨tp, v, hvar⟩ := gs_S hI
    refine (Tryz.strconv_Atoi_syntax_var s hl h tp v w hvar).mono ?_
    rintro e w' ⟨N, rfl, _, _, hb⟩
    exact ⟨_, rfl, fun Y hY => by unfold V; exact ⟨_, rfl, .cons (by simp only [V]) (.cons (by simp [V]) .nil)⟩, hb⟩
  | range =>
    obtain ⟨tp, v, hvar⟩ := gs_R hI
    refine (Tryz.strconv_Atoi_range_var s hl h tp v w hvar).mono ?_
    rintro e w' ⟨N, rfl, _, _, hb⟩
    exact ⟨_, rfl, fun Y hY => by unfold V; exact ⟨_, rfl, .cons (by simp only [V]) (.cons (by simp [V]) .nil)⟩, hb⟩
theorem split_fc (s : BA) (hl : s.size ≤ 100000) : FC Tryz.prog gs 88 [wA s, wA ⟨#[32]⟩] [] (wsA (wordsB s)) [] NoP := by
  refine FC_of_calls (enter_of Tryz.func88 rfl rfl) fun w vs hI hv => ?_
  obtain ⟨a, b, rfl, e1, e2⟩ := VL2 hv
  rw [e1.val, e2.val]
  obtain ⟨m, hc⟩ : ∃ v, w.cell? ⟨3, 0, none⟩ = some (.int .i64 v) := (show _ ∧ _ ∧ _ ∧ _ from hI).2.2.2
  refine (Tryz.strings_Split s ⟨#[32]⟩ m w (by omega) hc (by decide)).mono ?_
  rintro e w' ⟨rfl, rfl⟩
  rw [splitB_words]
  have hn : Lib.countB s ⟨#[32]⟩ + 1 = (wordsB s).length := by
    rw [← splitB_words, Lib.splitB_all ⟨#[32]⟩ (by decide) 0 _ s rfl]
  rw [hn]
  have hle : (wordsB s).length ≤ 100001 := by
    have := Lib.countB_le ⟨#[32]⟩ (by decide) s.size s (Nat.le_refl _)
    omega
  refine ⟨_, rfl, fun Y hY => ?_, (Below.refl _ w).alloc (Nat.le_refl _) _⟩
  unfold wsA V
  refine ⟨_, _, rfl, Nat.le_refl _, by unfold maxLen; omega, fun h => (by cases h), fun q hq => .inr ?_⟩
  cases hq
  refine ⟨rfl, fun hy => absurd (hY _ hy) (Nat.lt_irrefl _), by simp, (wordsB s).map Value.string, ?_, fun j u hu => ?_⟩
  · have : (wordsB s).map wA = ((wordsB s).map Value.string).map A.val := by simp [wA]
    rw [this]; exact VL.vals _
  · have hh : (w.alloc (.cells ((wordsB s).map Value.string).toArray 9)).heap[w.heap.size]? = some (.cells ((wordsB s).map Value.string).toArray 9 (0, 0)) := by
      show (w.heap.push _)[w.heap.size]? = _; simp
    rw [Lib.cell_of_heap hh]; simpa using hu
theorem toList_inj {a b : ByteArray} (h : a.toList = b.toList) : a = b := by
  rw [ByteArray.toList_eq, ByteArray.toList_eq] at h
  exact ByteArray.ext (Array.toList_inj.1 h)
theorem toList_beq (a b : BA) : (a.toList == b.toList) = decide (a = b) := by
  by_cases h : a = b
  · subst h; simp
  · rw [decide_eq_false h]
    have : a.toList ≠ b.toList := fun k => h (toList_inj k)
    simpa using this
set_option maxHeartbeats 4000000 in
theorem pword_fc (nm : BA) (b : Bool) (ws : List BA) (hl : ws.length ≤ 200000) : FC Tryz.prog gs 89 [wA nm, .ptr 0 [] 0, .ptr 1 [] 0] [.one [.val (.bool b)], .one [wsA ws]] (.tup []) [.one [.val (.bool (wB nm b ws))], .one [wsA ws.tail]] NoP := by
  cases ws with
  | nil =>
    cases b with
    | false =>
      show FC _ _ _ _ _ _ [.one [.val (.bool false)], .one [wsA []]] _
      refine FC.of_AW tok Tryz.func89 (by kernel_rfl) rfl Tryz.ntmps89 [] rfl rfl rfl ?_; intro w0 X0 Y f0 hI0 hX0
      (repeat (first | refine K1 ?_ | refine K4 ?_ | refine L1 ?_ | refine L3 ?_ | refine RG.d ?_ | refine S1 ?_ | refine S2 ?_))
      refine RG.put 20 rfl (v' := i64 0) rfl ?_
      refine RG.val tok rfl rfl rfl ⟨Int.le_refl _, Int.le_refl _, rfl⟩ rfl rfl ?_
      refine RG.put 21 rfl (v' := wsA []) rfl ?_
      (repeat (first | refine L3 ?_ | refine RG.d ?_))
      exact ⟨⟨_, rfl, rfl⟩, rfl, .cons rfl (.one rfl) (Reg.lt_one rfl) ⟨[], _, rfl⟩ (.cons rfl (.one rfl) (Reg.lt_one rfl) ⟨[], _, rfl⟩ (.nil _))⟩
    | true =>
      show FC _ _ _ _ _ _ [.one [.val (.bool false)], .one [wsA []]] _
      refine FC.of_AW tok Tryz.func89 (by kernel_rfl) rfl Tryz.ntmps89 [] rfl rfl rfl ?_; intro w0 X0 Y f0 hI0 hX0
      (repeat (first | refine K1 ?_ | refine K4 ?_ | refine L1 ?_ | refine L3 ?_ | refine RG.d ?_ | refine S1 ?_ | refine S2 ?_))
      refine RG.put 20 rfl (v' := i64 0) rfl ?_
      refine RG.val tok rfl rfl rfl ⟨Int.le_refl _, Int.le_refl _, rfl⟩ rfl rfl ?_
      refine RG.put 21 rfl (v' := wsA []) rfl ?_
      (repeat (first | refine L3 ?_ | refine RG.d ?_))
      exact ⟨⟨_, rfl, rfl⟩, rfl, .cons rfl (.one rfl) (Reg.lt_one rfl) ⟨[], _, rfl⟩ (.cons rfl (.one rfl) (Reg.lt_one rfl) ⟨[], _, rfl⟩ (.nil _))⟩
  | cons w t =>
    cases b with
    | false =>
      show FC _ _ _ _ _ _ [.one [.val (.bool false)], .one [wsA t]] _
      refine FC.of_AW tok Tryz.func89 (by kernel_rfl) rfl Tryz.ntmps89 [] rfl rfl rfl ?_; intro w0 X0 Y f0 hI0 hX0
      (repeat (first | refine K1 ?_ | refine K4 ?_ | refine L1 ?_ | refine L3 ?_ | refine RG.d ?_ | refine S1 ?_ | refine S2 ?_))
      refine RG.put 20 rfl (v' := i64 1) (by rw [if_neg (show ¬ (((w :: t).length : Nat) : Int) < 1 by simp only [List.length_cons]; omega)]) ?_
      refine RG.val tok rfl rfl rfl ⟨by omega, by simp only [List.length_cons]; omega, by simp⟩ rfl rfl ?_
      refine RG.put 21 rfl (v' := wsA t) rfl ?_
      (repeat (first | refine L3 ?_ | refine RG.d ?_))
      exact ⟨⟨_, rfl, rfl⟩, rfl, .cons rfl (.one rfl) (Reg.lt_one rfl) ⟨[], _, rfl⟩ (.cons rfl (.one rfl) (Reg.lt_one rfl) ⟨[], _, rfl⟩ (.nil _))⟩
    | true =>
      have hw : wB nm true (w :: t) = (ByteArray.toList w == ByteArray.toList nm) := by unfold wB; rw [toList_beq]; simp
      rw [hw]
      show FC _ _ _ _ _ _ [.one [.val (.bool (ByteArray.toList w == ByteArray.toList nm))], .one [wsA t]] _
      refine FC.of_AW tok Tryz.func89 (by kernel_rfl) rfl Tryz.ntmps89 [] rfl rfl rfl ?_; intro w0 X0 Y f0 hI0 hX0
      (repeat (first | refine K4 ?_ | refine L1 ?_ | refine S1 ?_ | refine S2 ?_))
      refine RG.put 10 rfl (v' := .val (.bool true)) (by rw [decide_eq_true (show (0 : Int) < ((w :: t).length : Nat) by simp only [List.length_cons]; omega)]) ?_
      (repeat (first | refine L1 ?_))
      refine RG.val tok rfl rfl rfl ⟨Int.le_refl _, by simp only [List.length_cons]; omega⟩ rfl rfl ?_
      (repeat (first | refine K4 ?_ | refine L1 ?_ | refine L3 ?_ | refine RG.d ?_ | refine S2 ?_))
      refine RG.put 20 rfl (v' := i64 1) (by rw [if_neg (show ¬ (((w :: t).length : Nat) : Int) < 1 by simp only [List.length_cons]; omega)]) ?_
      refine RG.val tok rfl rfl rfl ⟨by omega, by simp only [List.length_cons]; omega, by simp⟩ rfl rfl ?_
      refine RG.put 21 rfl (v' := wsA t) rfl ?_
      (repeat (first | refine L3 ?_ | refine RG.d ?_))
      exact ⟨⟨_, rfl, rfl⟩, rfl, .cons rfl (.one rfl) (Reg.lt_one rfl) ⟨[], _, rfl⟩ (.cons rfl (.one rfl) (Reg.lt_one rfl) ⟨[], _, rfl⟩ (.nil _))⟩
set_option maxHeartbeats 8000000 in
theorem pnum_fc (b : Bool) (ws : List BA) (hl : ws.length ≤ 200000) (hs : ∀ w, w ∈ ws → w.size ≤ 200000) : FC Tryz.prog gs 90 [.ptr 0 [] 0, .ptr 1 [] 0] [.one [wsA ws], .one [.val (.bool b)]] (i64 (nN ws)) [.one [wsA ws.tail], .one [.val (.bool (nB b ws))]] NoP := by
  cases ws with
  | nil =>
    have e : nB b [] = false := by unfold nB; simp
    rw [e]
    show FC _ _ _ _ _ (i64 0) [.one [wsA []], .one [.val (.bool false)]] _
    refine FC.of_AW tok Tryz.func90 (by kernel_rfl) rfl Tryz.ntmps90 [] rfl rfl rfl ?_; intro w0 X0 Y f0 hI0 hX0
    (repeat (first | refine K4 ?_ | refine L1 ?_ | refine L3 ?_ | refine RG.d ?_ | refine S1 ?_ | refine S2 ?_ | refine S7 ?_))
    (repeat (first | refine S6 ?_))
    exact ⟨⟨_, rfl, rfl⟩, rfl, .cons rfl (.one rfl) (Reg.lt_one rfl) ⟨[], _, rfl⟩ (.cons rfl (.one rfl) (Reg.lt_one rfl) ⟨[], _, rfl⟩ (.nil _))⟩
  | cons w t =>
    have hsz := hs w (by simp)
    have cA := atoi_fc w (by omega)
    have cI := itoa_fc (nvF w) (nvF_rng w)
    have e : nB b (w :: t) = (b && gvF w) := rfl
    rw [e]
    unfold gvF
    show FC _ _ _ _ _ (i64 (nvF w)) [.one [wsA t], .one [.val (.bool (b && (okF w && decide (itB (nvF w) = w))))]] _
    obtain ⟨g, hg⟩ : ∃ g, g = okF w := ⟨_, rfl⟩
    obtain ⟨v, hv⟩ : ∃ g, g = nvF w := ⟨_, rfl⟩
    rw [← hg] at cA ⊢
    rw [← hv] at cA cI ⊢
    cases b with
    | false =>
      cases g with
      | false =>
        simp only [errA, Bool.false_eq_true, if_false] at cA
        refine FC.of_AW tok Tryz.func90 (by kernel_rfl) rfl Tryz.ntmps90 [] rfl rfl rfl ?_; intro w0 X0 Y f0 hI0 hX0
        (repeat (first | refine K4 ?_ | refine L1 ?_ | refine RG.d ?_ | refine S1 ?_ | refine S2 ?_ | refine S3 ?_ | refine S8 ?_))
        refine RG.val tok rfl rfl rfl ⟨Int.le_refl _, by simp only [List.length_cons]; omega⟩ rfl rfl ?_
        (repeat (first | refine RG.call rfl rfl rfl rfl (cA) [] rfl rfl rfl rfl (.nil _) (.nil _) (fun _ h => False.elim h) rfl (A.ren_free _ _ rfl) rfl ?_ | refine K1 ?_ | refine K4 ?_ | refine L1 ?_ | refine L3 ?_ | refine RG.d ?_ | refine RG.dd ?_ | refine S1 ?_ | refine S2 ?_))
        refine RG.val tok rfl rfl rfl ⟨by omega, by simp only [List.length_cons]; omega, by simp⟩ rfl rfl ?_
        refine RG.put 29 rfl (v' := wsA t) rfl ?_
        (repeat (first | refine K4 ?_ | refine L3 ?_ | refine RG.d ?_ | refine S1 ?_ | refine S2 ?_ | refine S6 ?_))
        exact ⟨⟨_, rfl, rfl⟩, rfl, .cons rfl (.one rfl) (Reg.lt_one rfl) ⟨[], _, rfl⟩ (.cons rfl (.one rfl) (Reg.lt_one rfl) ⟨[], _, rfl⟩ (.nil _))⟩
      | true =>
        simp only [errA, if_true] at cA
        refine FC.of_AW tok Tryz.func90 (by kernel_rfl) rfl Tryz.ntmps90 [] rfl rfl rfl ?_; intro w0 X0 Y f0 hI0 hX0
        (repeat (first | refine K4 ?_ | refine L1 ?_ | refine RG.d ?_ | refine S1 ?_ | refine S2 ?_ | refine S3 ?_ | refine S8 ?_))
        refine RG.val tok rfl rfl rfl ⟨Int.le_refl _, by simp only [List.length_cons]; omega⟩ rfl rfl ?_
        (repeat (first | refine RG.call rfl rfl rfl rfl (cA) [] rfl rfl rfl rfl (.nil _) (.nil _) (fun _ h => False.elim h) rfl (A.ren_free _ _ rfl) rfl ?_ | refine K1 ?_ | refine K4 ?_ | refine L1 ?_ | refine L3 ?_ | refine RG.d ?_ | refine RG.dd ?_ | refine S1 ?_ | refine S2 ?_))
        refine RG.val tok rfl rfl rfl ⟨by omega, by simp only [List.length_cons]; omega, by simp⟩ rfl rfl ?_
        refine RG.put 29 rfl (v' := wsA t) rfl ?_
        (repeat (first | refine K4 ?_ | refine L3 ?_ | refine RG.d ?_ | refine S1 ?_ | refine S2 ?_ | refine S6 ?_))
        exact ⟨⟨_, rfl, rfl⟩, rfl, .cons rfl (.one rfl) (Reg.lt_one rfl) ⟨[], _, rfl⟩ (.cons rfl (.one rfl) (Reg.lt_one rfl) ⟨[], _, rfl⟩ (.nil _))⟩
    | true =>
      cases g with
      | false =>
        simp only [errA, Bool.false_eq_true, if_false] at cA
        refine FC.of_AW tok Tryz.func90 (by kernel_rfl) rfl Tryz.ntmps90 [] rfl rfl rfl ?_; intro w0 X0 Y f0 hI0 hX0
        (repeat (first | refine K4 ?_ | refine L1 ?_ | refine RG.d ?_ | refine S1 ?_ | refine S2 ?_ | refine S3 ?_ | refine S8 ?_))
        refine RG.val tok rfl rfl rfl ⟨Int.le_refl _, by simp only [List.length_cons]; omega⟩ rfl rfl ?_
        (repeat (first | refine RG.call rfl rfl rfl rfl (cA) [] rfl rfl rfl rfl (.nil _) (.nil _) (fun _ h => False.elim h) rfl (A.ren_free _ _ rfl) rfl ?_ | refine K4 ?_ | refine L1 ?_ | refine RG.d ?_ | refine S1 ?_ | refine S2 ?_))
        refine RG.nilF tok rfl rfl rfl rfl rfl ?_
        (repeat (first | refine K1 ?_ | refine K4 ?_ | refine L1 ?_ | refine L3 ?_ | refine RG.dd ?_ | refine S1 ?_ | refine S2 ?_))
        refine RG.val tok rfl rfl rfl ⟨by omega, by simp only [List.length_cons]; omega, by simp⟩ rfl rfl ?_
        refine RG.put 29 rfl (v' := wsA t) rfl ?_
        (repeat (first | refine K4 ?_ | refine L3 ?_ | refine RG.d ?_ | refine S1 ?_ | refine S2 ?_ | refine S6 ?_))
        exact ⟨⟨_, rfl, rfl⟩, rfl, .cons rfl (.one rfl) (Reg.lt_one rfl) ⟨[], _, rfl⟩ (.cons rfl (.one rfl) (Reg.lt_one rfl) ⟨[], _, rfl⟩ (.nil _))⟩
      | true =>
        simp only [errA, if_true] at cA
        rw [← toList_beq, Bool.true_and, Bool.true_and]
        refine FC.of_AW tok Tryz.func90 (by kernel_rfl) rfl Tryz.ntmps90 [] rfl rfl rfl ?_; intro w0 X0 Y f0 hI0 hX0
        (repeat (first | refine K4 ?_ | refine L1 ?_ | refine RG.d ?_ | refine S1 ?_ | refine S2 ?_ | refine S3 ?_ | refine S8 ?_))
        refine RG.val tok rfl rfl rfl ⟨Int.le_refl _, by simp only [List.length_cons]; omega⟩ rfl rfl ?_
        (repeat (first | refine RG.call rfl rfl rfl rfl (cA) [] rfl rfl rfl rfl (.nil _) (.nil _) (fun _ h => False.elim h) rfl (A.ren_free _ _ rfl) rfl ?_ | refine K4 ?_ | refine L1 ?_ | refine RG.d ?_ | refine S1 ?_ | refine S2 ?_))
        refine RG.nilT tok rfl rfl rfl rfl rfl ?_
        (repeat (first | refine RG.call rfl rfl rfl rfl (cI) [] rfl rfl rfl rfl (.nil _) (.nil _) (fun _ h => False.elim h) rfl (A.ren_free _ _ rfl) rfl ?_ | refine K4 ?_ | refine L1 ?_))
        refine RG.val tok rfl rfl rfl ⟨Int.le_refl _, by simp only [List.length_cons]; omega⟩ rfl rfl ?_
        (repeat (first | refine K4 ?_ | refine L1 ?_ | refine L3 ?_ | refine RG.dd ?_ | refine S1 ?_ | refine S2 ?_))
        refine RG.val tok rfl rfl rfl ⟨by omega, by simp only [List.length_cons]; omega, by simp⟩ rfl rfl ?_
        refine RG.put 29 rfl (v' := wsA t) rfl ?_
        (repeat (first | refine K4 ?_ | refine L3 ?_ | refine RG.d ?_ | refine S1 ?_ | refine S2 ?_ | refine S6 ?_))
        exact ⟨⟨_, rfl, rfl⟩, rfl, .cons rfl (.one rfl) (Reg.lt_one rfl) ⟨[], _, rfl⟩ (.cons rfl (.one rfl) (Reg.lt_one rfl) ⟨[], _, rfl⟩ (.nil _))⟩
end Go.Proofs.YtifeioddiddnoaaGreatDoor
