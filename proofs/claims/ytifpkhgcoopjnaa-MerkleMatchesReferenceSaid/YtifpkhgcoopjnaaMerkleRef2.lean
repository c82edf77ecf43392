/- What the reference of the Merkle trees computes: Open, Steps, Pairs. Conditions: sizes. -/
import Derived.Test.YtifpkhgcoopjnaaMerkleRef1
import Derived.Test.YtifpkhgcoopjnaaPairs
namespace Go.Proofs.Ytifpkhgcoopjnaa
open Go.RowKit

theorem ropen_ok (v : Value) (xs : List Int) (i : Nat) (w : World) (hx : xs.length ≤ 4096) (hi : i < xs.length) (hs : Sl .u64 w v xs) :
    Calls Try.prog 37 #[v, .int .i64 i] w fun e w' => ∃ v', e = .returned (.agg #[v', .int .i64 0]) ∧ Own w.heap.size 22 .u64 w' v' (Mk.path xs i) ∧ Below w.heap.size w w' := by
  have cO := hid (rpath_ind xs.length v xs i (w.alloc (.cells #[.slice none 0 0, .int .i64 0] 46)) (Nat.le_refl _) hx hi (hs.stays (aB w _)))
  have t0 : decide ((4096 : Int) < (xs.length : Int)) = false := decide_eq_false (by omega)
  have t1 : decide ((i : Int) < 0) = false := decide_eq_false (by omega)
  have t2 : decide ((xs.length : Int) ≤ (i : Int)) = false := decide_eq_false (by omega)
  obtain ⟨a0, cap0, rfl, _⟩ := hs
  go_enter Try.func37, Try.ntmps37
  go_wp2_with fail
  refine cO.out.mono ?_
  rintro e w1 ⟨v', rfl, ho, hb⟩
  have hbk := (hb.block w.heap.size (by simp)).trans (heap_alloc_new w _)
  have k0 : w1.cell? ⟨w.heap.size, 0, none⟩ = some (.slice none 0 0) := by simp [World.cell?, hbk]
  have k1 : w1.cell? ⟨w.heap.size, 1, none⟩ = some (.int .i64 0) := by simp [World.cell?, hbk]
  have k2 : w1.frozen? ⟨w.heap.size, 0, none⟩ = false := by simp [World.frozen?, hbk]
  have k3 : w1.frozen? ⟨w.heap.size, 1, none⟩ = false := by simp [World.frozen?, hbk]
  obtain ⟨a', cap', rfl, _⟩ := ho.sl
  have HO := hid ho
  obtain ⟨n, hn⟩ : ∃ n, (Mk.path xs i).length = n := ⟨_, rfl⟩
  rw [hn] at HO ⊢
  clear hbk ho hn
  go_wp2_with fail
  have r0 : ((w1.setCell ⟨w.heap.size, 0, none⟩ (.slice a' n cap')).setCell ⟨w.heap.size, 1, none⟩ (.int .i64 0)).cell? ⟨w.heap.size, 0, none⟩ = some (.slice a' n cap') := by go_simp
  have r1 : ((w1.setCell ⟨w.heap.size, 0, none⟩ (.slice a' n cap')).setCell ⟨w.heap.size, 1, none⟩ (.int .i64 0)).cell? ⟨w.heap.size, 1, none⟩ = some (.int .i64 0) := by go_simp
  have hoW : Own w.heap.size 22 .u64 ((w1.setCell ⟨w.heap.size, 0, none⟩ (.slice a' n cap')).setCell ⟨w.heap.size, 1, none⟩ (.int .i64 0)) (.slice a' n cap') (Mk.path xs i) := ((HO.out.setOther ⟨w.heap.size, 0, none⟩ (by simp) _).setOther ⟨w.heap.size, 1, none⟩ (by simp) _).mono (by simp)
  have hbW : Below w.heap.size w ((w1.setCell ⟨w.heap.size, 0, none⟩ (.slice a' n cap')).setCell ⟨w.heap.size, 1, none⟩ (.int .i64 0)) := (((aB w _).trans (hb.mono (by simp))).setCell (p := ⟨w.heap.size, 0, none⟩) (Nat.le_refl _) _).setCell (p := ⟨w.heap.size, 1, none⟩) (Nat.le_refl _) _
  generalize (w1.setCell ⟨w.heap.size, 0, none⟩ (.slice a' n cap')).setCell ⟨w.heap.size, 1, none⟩ (.int .i64 0) = W at r0 r1 hoW hbW ⊢
  clear HO k0 k1 k2 k3 hb
  refine bodyPost_ret (by simp [results, Try.results37, go_sem, r0, r1]; try rfl) rfl ?_
  exact ⟨_, rfl, hoW, hbW⟩
theorem ropen_bad (v : Value) (xs : List Int) (i : Int) (w : World) (hp : Mk.place xs.length i ≠ 0) (hs : Sl .u64 w v xs) :
    Calls Try.prog 37 #[v, .int .i64 i] w fun e w' => e = .returned (.agg #[.slice none 0 0, .int .i64 (Mk.place xs.length i)]) ∧ Below w.heap.size w w' := by
  obtain ⟨a, cap, rfl, _⟩ := hs
  have fin : ∀ p : Int, Mk.place xs.length i = p → (w.alloc (.cells #[.slice none 0 0, .int .i64 p] 46)).cell? ⟨w.heap.size, 0, none⟩ = some (.slice none 0 0) ∧ (w.alloc (.cells #[.slice none 0 0, .int .i64 p] 46)).cell? ⟨w.heap.size, 1, none⟩ = some (.int .i64 p) := fun p _ => ⟨by go_simp, by go_simp⟩
  by_cases h1 : 4096 < (xs.length : Int)
  · have hpl : Mk.place (xs.length : Int) i = 2 := by unfold Mk.place; rw [if_pos h1]
    have t0 : decide ((4096 : Int) < (xs.length : Int)) = true := decide_eq_true h1
    rw [hpl]
    obtain ⟨r0, r1⟩ := fin 2 hpl
    clear fin hpl hp h1
    go_enter Try.func37, Try.ntmps37
    go_wp2_with fail
    refine bodyPost_ret (by simp [results, Try.results37, go_sem, r0, r1]; try rfl) rfl ?_
    exact ⟨rfl, aB w _⟩
  · have t0 : decide ((4096 : Int) < (xs.length : Int)) = false := decide_eq_false h1
    have hpl : Mk.place (xs.length : Int) i = 1 := by
      unfold Mk.place at hp ⊢
      rw [if_neg h1] at hp ⊢
      by_cases h : i < 0 ∨ (xs.length : Int) ≤ i
      · rw [if_pos h]
      · rw [if_neg h] at hp; exact absurd rfl hp
    have hor : i < 0 ∨ (xs.length : Int) ≤ i := by
      unfold Mk.place at hp
      rw [if_neg h1] at hp
      by_cases h : i < 0 ∨ (xs.length : Int) ≤ i
      · exact h
      · rw [if_neg h] at hp; exact absurd rfl hp
    rw [hpl]
    obtain ⟨r0, r1⟩ := fin 1 hpl
    clear fin hpl hp h1
    by_cases h2 : i < 0
    · have t1 : decide (i < 0) = true := decide_eq_true h2
      clear hor h2
      go_enter Try.func37, Try.ntmps37
      go_wp2_with fail
      refine bodyPost_ret (by simp [results, Try.results37, go_sem, r0, r1]; try rfl) rfl ?_
      exact ⟨rfl, aB w _⟩
    · have t1 : decide (i < 0) = false := decide_eq_false h2
      have t2 : decide ((xs.length : Int) ≤ i) = true := decide_eq_true (hor.resolve_left h2)
      clear hor h2
      go_enter Try.func37, Try.ntmps37
      go_wp2_with fail
      refine bodyPost_ret (by simp [results, Try.results37, go_sem, r0, r1]; try rfl) rfl ?_
      exact ⟨rfl, aB w _⟩

/-- A row of bools of the call's own. -/
def OwnB (base : Nat) (w : World) (v : Value) (l : List Bool) : Prop := w.ownsRow base 4 1 v l.length (l.map Value.bool)
theorem OwnB.kept {base : Nat} {w w' : World} {v : Value} {l : List Bool} (h : OwnB base w v l) (hb : Below w.heap.size w w') : OwnB base w' v l := by
  obtain ⟨h1, h2⟩ := h
  refine ⟨h1, ?_⟩
  rcases h2 with h2 | ⟨g, cap, cur, rfl, hbg, hg, hn, hm, hc, ht⟩
  · exact .inl h2
  · exact .inr ⟨g, cap, cur, rfl, hbg, by rw [hb.block g (Array.getElem?_eq_some_iff.1 hg).1]; exact hg, hn, hm, hc, ht⟩
theorem OwnB.below {base : Nat} {w w' : World} {v : Value} {l : List Bool} (h : OwnB base w v l) (hg : w.grownBy w' v.ownBlock) (hb : base ≤ w.heap.size) : Below base w w' := by
  refine (Below.refl base w).grown hg hb ?_
  intro r hr
  obtain ⟨_, h2⟩ := h
  rcases h2 with ⟨rfl, _⟩ | ⟨g, cap, cur, rfl, hbg, _⟩
  · simp [Value.ownBlock] at hr
  · simp [Value.ownBlock] at hr; omega
/-- The cells of a row of bools. -/
theorem OwnB.form {base : Nat} {w : World} {v : Value} {l : List Bool} (h : OwnB base w v l) : ∃ a cap, v = .slice a l.length cap ∧ (0 < l.length → ∃ g cur, a = some ⟨g, 0, none⟩ ∧ w.heap[g]? = some (.cells cur 4 (0, 0)) ∧ l.length ≤ cap ∧ ∀ k, k < l.length → cur[k]? = some (.bool (l.getD k false))) := by
  obtain ⟨h1, h2⟩ := h
  rcases h2 with ⟨rfl, h0⟩ | ⟨g, cap, cur, rfl, hbg, hg, hn, hm, hc, ht⟩
  · exact ⟨none, 0, by rw [h0], fun hp => by omega⟩
  · refine ⟨_, cap, rfl, fun _ => ⟨g, cur, rfl, hg, hn, fun k hk => ?_⟩⟩
    have h1 : (l.map Value.bool)[k]? = cur[k]? := by rw [← ht, List.getElem?_take_of_lt (by omega)]; simp
    rw [← h1]; simp [List.getD, hk]

theorem Mk.steps_left {n i : Nat} (h2 : 2 ≤ n) (hi : i < Mk.half n) : Mk.steps n i = Mk.steps (Mk.half n) i ++ [true] := by unfold Mk.steps; rw [Mk.sides_left h2 hi, List.reverse_cons]
theorem Mk.steps_right {n i : Nat} (h2 : 2 ≤ n) (hi : Mk.half n ≤ i) : Mk.steps n i = Mk.steps (n - Mk.half n) (i - Mk.half n) ++ [false] := by unfold Mk.steps; rw [Mk.sides_right h2 hi, List.reverse_cons]

set_option maxRecDepth 100000 in
set_option maxHeartbeats 400000 in
theorem rsteps_ind (N : Nat) : ∀ (n i : Nat) (w : World), n ≤ N → N ≤ 4096 → i < n →
    Calls Try.prog 52 #[.int .i64 n, .int .i64 i] w fun e w' => ∃ v', e = .returned v' ∧ OwnB w.heap.size w' v' (Mk.steps n i) ∧ Below w.heap.size w w' := by
  induction N with
  | zero => intro n i w hx _ hi; omega
  | succ N ih =>
    intro n i w hx hN hi
    by_cases h2 : 2 ≤ n
    · have hh := Mk.half_lt h2
      have hp := Mk.half_pos n
      have cH := hid (rhalf_any n w h2 (by omega))
      have IH := hid ih
      have hsl := Mk.steps_length hi
      obtain ⟨hf, hhf⟩ : ∃ hf, Mk.half n = hf := ⟨_, rfl⟩
      have HHF := hid hhf
      obtain ⟨i0, hi0, hz0, hz1, hz2⟩ := info_parts infoBool
      rw [hhf] at hh hp
      have t2 : decide ((n : Int) < 2) = false := decide_eq_false (by omega)
      by_cases hl : i < hf
      · have hst := Mk.steps_left h2 (show i < Mk.half n by rw [hhf]; exact hl)
        rw [hhf] at hst
        have HST := hid hst
        have hsl2 := Mk.steps_length hl
        have t0 : decide ((i : Int) < (hf : Int)) = true := decide_eq_true (by omega)
        clear hst hhf ih
        go_enter Try.func52, Try.ntmps52
        go_wp2_with fail
        refine cH.out.mono ?_
        rw [HHF.out]
        rintro e w1 ⟨rfl, rfl⟩
        go_wp2_with fail
        refine (IH.out hf i w (by omega) (by omega) hl).mono ?_
        rintro e w1 ⟨v1, rfl, ho1, b1⟩
        go_wp2_with (at_builtin; apply Hid.out)
        refine hid ?_
        refine wpList_append_own _ rfl (.tmp 15) (.tmp 16) 79 rfl w.heap.size 4 i0 (.bool false) 1 1 Try.underlying79 hi0 hz0 hz1 hz2 rfl (by decide) v1 _ _ rfl (ho1.kept (aB w1 _)) ⟨w1.heap.size, 0, none⟩ 1 1 [.bool true] rfl rfl (cell_one_new _ _ _) (by simp [Value.oneCell']) (by unfold maxLen; omega) (by omega) (by have := b1.size; simp; omega) ?_
        intro v2 w2 ho2 hg2 _
        have hb2 : Below w.heap.size w w2 := (b1.alloc b1.size _).trans ((ho1.kept (aB w1 _)).below hg2 (by have := b1.size; simp; omega))
        have hob : OwnB w.heap.size w2 v2 (Mk.steps n i) := by
          rw [HST.out]; unfold OwnB; rw [List.length_append, List.map_append]; exact ho2
        clear ho2 hg2
        go_wp2_with fail
        go_ret
        exact ⟨_, rfl, hob, hb2⟩
      · have hst := Mk.steps_right h2 (show Mk.half n ≤ i by rw [hhf]; omega)
        rw [hhf] at hst
        have HST := hid hst
        have hsl2 := Mk.steps_length (n := n - hf) (i := i - hf) (by omega)
        have t0 : decide ((i : Int) < (hf : Int)) = false := decide_eq_false (by omega)
        have w1' : IntKind.i64.wrap ((n : Int) - (hf : Int)) = ((n - hf : Nat) : Int) := by rw [IntWalk.i64_in _ (by omega)]; omega
        have w2' : IntKind.i64.wrap ((i : Int) - (hf : Int)) = ((i - hf : Nat) : Int) := by rw [IntWalk.i64_in _ (by omega)]; omega
        have w3' : (n : Int) - (hf : Int) = ((n - hf : Nat) : Int) := by omega
        have w4' : (i : Int) - (hf : Int) = ((i - hf : Nat) : Int) := by omega
        clear hst hhf ih
        go_enter Try.func52, Try.ntmps52
        go_wp2_with fail
        refine cH.out.mono ?_
        rw [HHF.out]
        rintro e w1 ⟨rfl, rfl⟩
        go_wp2_with fail
        refine (IH.out (n - hf) (i - hf) w (by omega) (by omega) (by omega)).mono ?_
        rintro e w1 ⟨v1, rfl, ho1, b1⟩
        go_wp2_with (at_builtin; apply Hid.out)
        refine hid ?_
        refine wpList_append_own _ rfl (.tmp 24) (.tmp 25) 79 rfl w.heap.size 4 i0 (.bool false) 1 1 Try.underlying79 hi0 hz0 hz1 hz2 rfl (by decide) v1 _ _ rfl (ho1.kept (aB w1 _)) ⟨w1.heap.size, 0, none⟩ 1 1 [.bool false] rfl rfl (cell_one_new _ _ _) (by simp [Value.oneCell']) (by unfold maxLen; omega) (by omega) (by have := b1.size; simp; omega) ?_
        intro v2 w2 ho2 hg2 _
        have hb2 : Below w.heap.size w w2 := (b1.alloc b1.size _).trans ((ho1.kept (aB w1 _)).below hg2 (by have := b1.size; simp; omega))
        have hob : OwnB w.heap.size w2 v2 (Mk.steps n i) := by
          rw [HST.out]; unfold OwnB; rw [List.length_append, List.map_append]; exact ho2
        clear ho2 hg2
        go_wp2_with fail
        go_ret
        exact ⟨_, rfl, hob, hb2⟩
    · have hst : Mk.steps n i = [] := by unfold Mk.steps; rw [Mk.sides_one n i (by omega)]; rfl
      have t2 : decide ((n : Int) < 2) = true := decide_eq_true (by omega)
      go_enter Try.func52, Try.ntmps52
      go_wp2_with fail
      go_ret
      exact ⟨_, rfl, by rw [hst]; exact World.ownsRow_nil _ _ _ _, Below.refl _ _⟩
end Go.Proofs.Ytifpkhgcoopjnaa
