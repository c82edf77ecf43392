/- What the library's Clone and Repeat compute at ints, and New and clone of package gap. Conditions: sizes. -/
import Derived.Test.YtajlmkokfgbjdaaRows
import Derived.Test.YtajlmkokfgbjdaaMx
import Derived.Test.YtajlmkokfgbjdaaReg
import Derived.Test.YtajlmkokfgbjdaaShelf
import Derived.WalkSpells
import Derived.WalkLawsBesides
import Derived.Handy
import Derived.BigQuiet
import Derived.Deep.QuietTactic
import Derived.Deep.RegionLaw
import Derived.OwnWalk
import Derived.Laws.CopyOwn
set_option linter.unusedVariables false
set_option linter.unusedSimpArgs false
namespace Go.Proofs.Ytajlmkokfgbjdaa
open Go.RowKit

theorem elInt : IntEl Try.prog 22 3 .i64 := IntEl.of Try.underlying22 (by kernel_rfl : (Try.prog.info? 3).map (fun i => (i.zero, i.size, i.bytes)) = some (some (.int .i64 0), 1, 8)) (by omega)
theorem infoRow : (Try.prog.info? 22).map (fun i => (i.zero, i.size, i.bytes)) = some (some (.slice none 0 0), 1, 24) := by kernel_rfl
theorem infoInt : (Try.prog.info? 3).map (fun i => (i.zero, i.size, i.bytes)) = some (some (.int .i64 0), 1, 8) := by kernel_rfl

theorem cloneRow_any (v : Value) (xs : List Int) (w : World) (hx : xs.length ≤ 1000000) (hs : Sl .i64 w v xs) :
    Calls Try.prog 68 #[v] w fun e w' => ∃ v', e = .returned v' ∧ Own w.heap.size 3 .i64 w' v' xs ∧ Below w.heap.size w w' := by
  obtain ⟨a, cap, rfl, hc, hm, ha, hf⟩ := hs
  cases a with
  | none =>
    have h0 := ha rfl
    obtain rfl : xs = [] := List.eq_nil_of_length_eq_zero (by omega)
    exact (Try.slices_Clone_int_nil _ _ w).mono fun e w' ⟨h1, h2⟩ => ⟨_, h1, Own.nil _ _ _ _, by rw [h2]; exact Below.refl _ _⟩
  | some a =>
    rcases Nat.eq_zero_or_pos xs.length with h0 | hp
    · obtain rfl : xs = [] := List.eq_nil_of_length_eq_zero h0
      exact (Try.slices_Clone_int_zero a cap w).mono fun e w' ⟨v', h1, h2, _, h4⟩ => ⟨v', h1, h2, h4⟩
    · obtain ⟨b, o, h1, hlt, hcell⟩ := hf hp
      obtain rfl : a = ⟨b, o, none⟩ := by simpa using h1
      exact (Try.slices_Clone_int b o xs.length cap xs w (Nat.le_refl _) (by omega) hcell).mono fun e w' ⟨v', h1, h2, _, h4⟩ => ⟨v', h1, by rw [List.take_length] at h2; exact h2, h4⟩

theorem cloneOuter_any (v : Value) (g : List (List Int)) (w : World) (hx : g.length ≤ 1000000) (hp : 0 < g.length) (hs : Mx w v g) :
    Calls Try.prog 67 #[v] w fun e w' => ∃ v', e = .returned v' ∧ OwnS w.heap.size w' v' g (fun _ => False) ∧ Below w.heap.size w w' := by
  obtain ⟨i0, hi, hz0, hz1, hz2⟩ := info_parts infoRow
  obtain ⟨a, cap, rfl, hc, hm, ha, hf⟩ := hs
  obtain ⟨b, o, h1, hlt, hcell⟩ := hf hp
  subst h1
  have hrow : ∀ i, i < g.length → ∃ r, w.cell? ⟨b, o + i, none⟩ = some r ∧ Sl .i64 w r (g.getD i []) := hcell
  obtain ⟨rows, hrl, hrr⟩ : ∃ rows : List Value, rows.length = g.length ∧ ∀ i, i < g.length → w.cell? ⟨b, o + i, none⟩ = some (rows.getD i undef) ∧ Sl .i64 w (rows.getD i undef) (g.getD i []) := by
    refine ⟨(List.range g.length).map fun i => (w.cell? ⟨b, o + i, none⟩).getD undef, by simp, fun i hi => ?_⟩
    obtain ⟨r, h5, h6⟩ := hrow i hi
    have h7 : ((List.range g.length).map fun i => (w.cell? ⟨b, o + i, none⟩).getD undef).getD i undef = r := by
      simp [List.getD, hi, h5]
    rw [h7]; exact ⟨h5, h6⟩
  refine (Try.slices_Clone_f67 i0 _ 1 24 hi hz0 hz1 hz2 rfl (by decide) Try.sizeOf22 b o g.length cap rows w (by omega) (by unfold maxLen; omega) (by omega) ?_ ?_).mono ?_
  · intro j u hj
    obtain ⟨h5, h6⟩ := List.getElem?_eq_some_iff.1 hj
    rw [(hrr j (by omega)).1, List.getD_eq_getElem?_getD, hj]; rfl
  · intro u hu
    obtain ⟨j, hj, rfl⟩ := List.mem_iff_getElem.1 hu
    obtain ⟨a', c', h7, _⟩ := (hrr j (by omega)).2
    rw [List.getD_eq_getElem?_getD, List.getElem?_eq_getElem hj] at h7
    simp only [Option.getD_some] at h7
    rw [h7]; rfl
  · rintro e w' ⟨v', h5, h6, _, h8⟩
    exact ⟨v', h5, ⟨rows, h6, fun i hi _ => (SlLow.of (hrr i hi).2).stays h8, fun _ _ h => h.elim, fun _ _ _ _ _ _ h => h.elim⟩, h8⟩

theorem sizeInt1 : (Try.prog.info? 3).map (·.size) = some 1 := by kernel_rfl
/-- The first k cells of a block of n are c. -/
def Filled (n k : Nat) (c : Value) (cur : List Value) : Prop := cur.length = n ∧ ∀ j, j < k → cur[j]? = some c
theorem Filled.splice {n k m : Nat} {c : Value} {cur : List Value} (h : Filled n k c cur) (hk : k + m ≤ n) : Filled n (k + m) c (splice cur k (List.replicate m c)) := by
  refine ⟨by rw [length_splice _ _ _ (by rw [List.length_replicate, h.1]; exact hk)]; exact h.1, fun j hj => ?_⟩
  unfold Go.splice
  by_cases h1 : j < k
  · rw [List.getElem?_append_left (by rw [List.length_take, h.1]; omega), List.getElem?_take_of_lt h1]
    exact h.2 j h1
  · have hl : (cur.take k).length = k := by rw [List.length_take, h.1]; omega
    rw [List.getElem?_append_right (by omega), hl, List.getElem?_append_left (by rw [List.length_replicate]; omega), List.getElem?_replicate, if_pos (by omega)]
theorem Filled.all {n : Nat} {c : Int} {cur : List Value} (h : Filled n n (.int .i64 c) cur) : cur = (List.replicate n c).map (Value.int .i64) := by
  apply List.ext_getElem? ; intro j
  by_cases hj : j < n
  · rw [h.2 j hj]; simp [hj]
  · rw [List.getElem?_eq_none (by rw [h.1]; omega), List.getElem?_eq_none (by simp; omega)]

set_option maxRecDepth 100000 in
set_option maxHeartbeats 1000000 in
theorem repeat_any (v : Value) (c : Int) (n : Nat) (w : World) (hn : n ≤ 1000000) (hs : Sl .i64 w v [c]) :
    Calls Try.prog 56 #[v, .int .i64 n] w fun e w' => ∃ v', e = .returned v' ∧ Own w.heap.size 3 .i64 w' v' (List.replicate n c) ∧ Below w.heap.size w w' := by
  obtain ⟨i0, hi, hz0, hz1, hz2⟩ := info_parts infoInt
  obtain ⟨a, cap, rfl, hc, hm, ha, hf⟩ := hs
  obtain ⟨b, o, rfl, hlt, hcell⟩ := hf (by simp)
  have hc0 : w.cell? ⟨b, o, none⟩ = some (.int .i64 c) := hcell 0 (by simp)
  have q1 : (1 * n / 18446744073709551616 : Nat) = 0 := by omega
  have q2 : (1 * n % 18446744073709551616 : Nat) = n := by omega
  have hmul : Calls Try.prog 73 #[.int .u64 1, .int .u64 n] w fun e w' => e = .returned (.tuple #[.int .u64 0, .int .u64 n]) ∧ w' = w := by
    have h := Try.bits_Mul 1 n (by omega) (by omega) w
    rw [q1, q2] at h
    exact h
  have HM := hid hmul
  have HC := hid hc0
  have d1 : IntKind.u64.wrap (n : Int) = (n : Int) := by rw [IntKind.wrap_u64]; omega
  have d2 : IntKind.i64.wrap (n : Int) = (n : Int) := IntWalk.i64_in _ (by omega)
  have e1 : decide ((n : Int) < 0) = false := decide_eq_false (by omega)
  have e2 : decide ((9223372036854775807 : Int) < (n : Int)) = false := decide_eq_false (by omega)
  have hby : i0.bytes * n ≤ 281474976710656 := by rw [hz2]; omega
  have HBY := hid hby
  clear hf ha hcell hmul q1 q2 hc hm hc0 hby
  go_enter Try.func56, Try.ntmps56
  go_wp2_with fail
  refine HM.out.mono ?_
  rintro e w' ⟨rfl, rfl⟩
  go_wp2_with ((refine wpList_make_full _ rfl (.tmp 29) (.tmp 29) 22 rfl w'.heap.size 3 i0 (.int .i64 0) 1 Try.underlying22 hi hz0 hz1 .i64 .i64 n n n rfl rfl rfl rfl HBY.out (by unfold maxLen; omega) (Nat.le_refl _) ?_); apply Hid.out)
  refine hid ?_
  intro w1 ho1 hg1
  have hblk : w1.heap[w'.heap.size]? = some (.cells (List.replicate n (Value.int .i64 0)).toArray 3 (0, 0)) := by
    obtain ⟨_, h2⟩ := ho1
    rcases h2 with ⟨h3, _⟩ | ⟨g, cap', cur, hv, _, hg, _, _, hc, ht⟩
    · simp at h3
    · simp only [Value.slice.injEq, Option.some.injEq, Addr.mk.injEq] at hv
      obtain ⟨⟨rfl, _⟩, _, rfl⟩ := hv
      rw [hg]
      have h4 : cur.toList = List.replicate n (Value.int .i64 0) := by
        have h5 : cur.toList.take (n * 1) = cur.toList := List.take_of_length_le (by rw [Array.length_toList]; omega)
        rw [← h5, ht]
        exact toList_madeCells_one _ n
      rw [← h4]
  have hb1 : Below w'.heap.size w' w1 := (Below.refl _ _).grown hg1 (Nat.le_refl _) (by simp)
  have hf0 : Filled n (min 1 n) (.int .i64 c) (splice (List.replicate n (Value.int .i64 0)) 0 (List.replicate (min 1 n) (.int .i64 c))) := by
    have h := Filled.splice (n := n) (k := 0) (m := min 1 n) (c := .int .i64 c) (cur := List.replicate n (Value.int .i64 0)) ⟨by simp, fun j hj => by omega⟩ (by omega)
    rwa [Nat.zero_add] at h
  have hcw := (hb1.cell (p := ⟨b, o, none⟩) hlt).trans HC.out
  have HCW := hid hcw
  have HF0 := hid hf0
  have HB := hid hblk
  have hpos : ∀ (g : Nat) (m : Nat) (cc : Value), m ≤ 1 → w1.cell? ⟨b, o, none⟩ = some cc → (0 < (List.replicate m cc).length → some (⟨g, 0, none⟩ : Addr) = some ⟨g, 0, none⟩ ∧ ∃ ad, some (⟨b, o, none⟩ : Addr) = some ad ∧ ∀ j v, (List.replicate m cc)[j]? = some v → w1.cell? (ad.add j) = some v) := by
    intro g m cc hm h _
    refine ⟨rfl, _, rfl, fun j v hj => ?_⟩
    obtain ⟨h1, h2⟩ := List.getElem?_eq_some_iff.1 hj
    rw [List.length_replicate] at h1
    obtain rfl : j = 0 := by omega
    rw [List.getElem_replicate] at h2
    rw [Go.WideShapes.add_plain, ← h2]
    exact h
  have HP := hid (hpos w'.heap.size (min 1 n) _ (by omega) HCW.out)
  have HL := hid (show (List.replicate (min 1 n) (Value.int .i64 c)).length = Nat.min 1 n by rw [List.length_replicate])
  have HFI := hid (show 0 + (List.replicate (min 1 n) (Value.int .i64 c)).length ≤ (List.replicate n (Value.int .i64 0)).length by rw [List.length_replicate, List.length_replicate]; omega)
  have H1 := hid (show ∀ v ∈ List.replicate (min 1 n) (Value.int .i64 c), v.oneCell' = true by intro v hv; rw [(List.mem_replicate.1 hv).2]; rfl)
  obtain ⟨cs, hcs⟩ : ∃ cs, List.replicate (min 1 n) (Value.int .i64 c) = cs := ⟨_, rfl⟩
  obtain ⟨zs, hzs⟩ : ∃ zs, List.replicate n (Value.int .i64 0) = zs := ⟨_, rfl⟩
  obtain ⟨k0, hk0⟩ : ∃ k, min 1 n = k := ⟨_, rfl⟩
  have hcl : cs.length = k0 := by rw [← hcs, List.length_replicate, hk0]
  rw [hcs] at HP HL HFI H1 HF0
  rw [hzs] at HFI HF0 HB
  have HCL := hid hcl
  have HK0 := hid hk0
  clear ho1 hg1 hcw hf0 hblk HM HC HBY d1 d2 e1 e2 hpos hcs hzs hk0 hcl
  go_wp2_with ((refine wpList_copy_splice rfl (.tmp 31) (.tmp 32) 22 22 rfl 3 Try.underlying22 sizeInt1 (some ⟨w'.heap.size, 0, none⟩) (some ⟨b, o, none⟩) n n 1 cap rfl rfl w'.heap.size 0 zs 3 HB.out cs HL.out HP.out HFI.out H1.out w'.heap.size w' hb1 (Nat.le_refl _) ?_); apply Hid.out)
  refine hid ?_
  intro w2 hb2 hbel2
  rw [HCL.out]
  clear HP HL HFI H1 HB
  go_wp2_with fail
  go_loopw [8] (fun kv wr => ∃ (k : Nat) (cur : List Value), kv = .int .i64 k ∧ k ≤ n ∧ Hid (0 < n → 1 ≤ k) ∧ Hid (Filled n k (.int .i64 c) cur) ∧ Hid (wr.heap[w'.heap.size]? = some (.cells cur.toArray 3 (0, 0))) ∧ Below w'.heap.size w' wr) (fun kv _ => n - (intOf kv).toNat)
  case atStart =>
    have hk0 := HK0.out
    refine ⟨k0, _, rfl, by omega, ?_, ?_, hb2, hbel2⟩
    · intro h; omega
    · have h := HF0.out
      rw [HK0.out] at h
      exact h
  case round =>
    obtain ⟨k, cur, rfl, hk, hk1, hfil, hblk, hbel⟩ := hrel
    by_cases hlt : k < n
    · have k1 := hk1.out (by omega)
      have i0' : (0 : Int) ≤ (k : Int) := by omega
      have i1 : (k : Int) ≤ (n : Int) := by omega
      have i2 : ¬ k = n := by omega
      have i3 : ¬ n = k := by omega
      obtain ⟨m, hm⟩ : ∃ m, min k (n - k) = m := ⟨_, rfl⟩
      have hmk : k + m ≤ n := by omega
      have hm1 : 1 ≤ m := by omega
      have HM := hid hm
      have hpos : ∀ (g : Nat), wr.heap[g]? = some (.cells cur.toArray 3 (0, 0)) → ∀ j v, (List.replicate m (Value.int .i64 c))[j]? = some v → wr.drew.cell? ((⟨g, 0, none⟩ : Addr).add j) = some v := by
        intro g hg j v hj
        obtain ⟨h1, h2⟩ := List.getElem?_eq_some_iff.1 hj
        rw [List.length_replicate] at h1
        rw [List.getElem_replicate] at h2
        rw [Go.WideShapes.add_plain, ← h2]
        have h3 := hfil.out.2 j (by omega)
        show wr.cell? _ = _
        simp only [World.cell?, hg]
        simpa using h3
      have HP := hid (hpos w'.heap.size hblk.out)
      have HL := hid (show (List.replicate m (Value.int .i64 c)).length = Nat.min k (n - k) by rw [List.length_replicate, ← hm])
      have HFI := hid (show k + (List.replicate m (Value.int .i64 c)).length ≤ cur.length by rw [List.length_replicate, hfil.out.1]; omega)
      have H1 := hid (show ∀ v ∈ List.replicate m (Value.int .i64 c), v.oneCell' = true by intro v hv; rw [(List.mem_replicate.1 hv).2]; rfl)
      have HS := hid (hfil.out.splice (m := m) hmk)
      obtain ⟨cs, hcs⟩ : ∃ cs, List.replicate m (Value.int .i64 c) = cs := ⟨_, rfl⟩
      have hcl : cs.length = m := by rw [← hcs, List.length_replicate]
      have HCL := hid hcl
      have hbd : Below w'.heap.size w' wr.drew := hbel.drew
      rw [hcs] at HP HL HFI H1 HS
      clear hpos hm hcs hcl hfil
      go_wp2_with fail
      refine wp_region_held_drew (S := fun _ => True) (by kernel_rfl) trivial (fun hHeld => ?_)
      refine regTake 0 (some 38) (v := ?_) rfl rfl (by kernel_rfl) (by kernel_rfl) (by kernel_rfl) (fun _ _ _ h => h) (by rfl) hHeld (fun w hSw => ?_) ?_
      rotate_left
      · ((try dsimp only at hSw); go_simp; try with_reducible rfl)
      simp only [Act.put, List.setIfInBounds_toArray, List.set_cons_zero, List.set_cons_succ]
      refine regTake 1 (some 39) (v := ?_) rfl rfl (by kernel_rfl) (by kernel_rfl) (by kernel_rfl) (fun _ _ _ h => h) (by rfl) hHeld (fun w hSw => ?_) ?_
      rotate_left
      · ((try dsimp only at hSw); go_simp; try with_reducible rfl)
      simp only [Act.put, List.setIfInBounds_toArray, List.set_cons_zero, List.set_cons_succ]
      refine regTake 2 (some 40) (v := ?_) rfl rfl (by kernel_rfl) (by kernel_rfl) (by kernel_rfl) (fun _ _ _ h => h) (by rfl) hHeld (fun w hSw => ?_) ?_
      rotate_left
      · ((try dsimp only at hSw); go_simp; try with_reducible rfl)
      simp only [Act.put, List.setIfInBounds_toArray, List.set_cons_zero, List.set_cons_succ]
      refine regTake 3 (some 41) (v := ?_) rfl rfl (by kernel_rfl) (by kernel_rfl) (by kernel_rfl) (fun _ _ _ h => h) (by rfl) hHeld (fun w hSw => ?_) ?_
      rotate_left
      · ((try dsimp only at hSw); go_simp; try with_reducible rfl)
      simp only [Act.put, List.setIfInBounds_toArray, List.set_cons_zero, List.set_cons_succ]
      refine regTake 4 (some 42) (v := ?_) rfl rfl (by kernel_rfl) (by kernel_rfl) (by kernel_rfl) (fun _ _ _ h => h) (by rfl) hHeld (fun w hSw => ?_) ?_
      rotate_left
      · ((try dsimp only at hSw); go_simp; try with_reducible rfl)
      simp only [Act.put, List.setIfInBounds_toArray, List.set_cons_zero, List.set_cons_succ]
      refine regTake 5 (some 43) (v := ?_) rfl rfl (by kernel_rfl) (by kernel_rfl) (by kernel_rfl) (fun _ _ _ h => h) (by rfl) hHeld (fun w hSw => ?_) ?_
      rotate_left
      · ((try dsimp only at hSw); go_simp; try with_reducible rfl)
      simp only [Act.put, List.setIfInBounds_toArray, List.set_cons_zero, List.set_cons_succ]
      refine regTake 6 (some 44) (v := ?_) rfl rfl (by kernel_rfl) (by kernel_rfl) (by kernel_rfl) (fun _ _ _ h => h) (by rfl) hHeld (fun w hSw => ?_) ?_
      rotate_left
      · ((try dsimp only at hSw); go_simp; try with_reducible rfl)
      simp only [Act.put, List.setIfInBounds_toArray, List.set_cons_zero, List.set_cons_succ]
      refine wpAnyH_ready (rs := [7]) (by kernel_rfl) (by simp) (AllReadyH.cons (o := ⟨some 45, _, _, _, _, _⟩) rfl (fun K hK => ?_) AllReadyH.nil)
      refine step_copy_splice (by rfl) (.tmp 41) (.tmp 44) 22 22 (by rfl) 3 Try.underlying22 sizeInt1 (some ⟨w'.heap.size, k, none⟩) (some ⟨w'.heap.size, 0, none⟩) (n - k) (n - k) k n (by rfl) (by rfl) w'.heap.size k cur 3 hblk.out cs HL.out (fun _ => ⟨rfl, _, rfl, HP.out⟩) HFI.out H1.out w'.heap.size w' hbd (Nat.le_refl _) ?_
      intro w3 hb3 hbel3
      rw [HCL.out]
      refine hK.out _ _ trivial (fun hHeld => ?_)
      clear hK K HP HL HFI H1
      simp only [Act.put, List.setIfInBounds_toArray, List.set_cons_zero, List.set_cons_succ]
      have wk : IntKind.i64.wrap ((k : Int) + (m : Int)) = ((k + m : Nat) : Int) := by rw [IntWalk.i64_in _ (by omega)]; omega
      refine regTake 8 (some 46) (v := ?_) rfl rfl (by kernel_rfl) (by kernel_rfl) (by kernel_rfl) (fun _ _ _ h => h) (by rfl) hHeld (fun w hSw => ?_) ?_
      rotate_left
      · ((try dsimp only at hSw); go_simp; try with_reducible rfl)
      simp only [Act.put, List.setIfInBounds_toArray, List.set_cons_zero, List.set_cons_succ]
      refine regTake 9 (some 8) (v := ?_) rfl rfl (by kernel_rfl) (by kernel_rfl) (by kernel_rfl) (fun _ _ _ h => h) (by rfl) hHeld (fun w hSw => ?_) ?_
      rotate_left
      · ((try dsimp only at hSw); go_simp; try with_reducible rfl)
      simp only [Act.put, List.setIfInBounds_toArray, List.set_cons_zero, List.set_cons_succ]
      refine wpAnyH_done (by kernel_rfl) ?_ _
      go_wp2_with fail
      go_roundw
      case rel => exact ⟨k + m, _, by go_num, by omega, fun _ => by omega, HS, hb3, hbel3⟩
      case measure => simp [intOf]; omega
    · obtain rfl : k = n := by omega
      have hall := hfil.out.all
      have hl : (cur.length : Nat) = k := hfil.out.1
      have hown : Own w'.heap.size 3 .i64 wr (.slice (some ⟨w'.heap.size, 0, none⟩) k k) (List.replicate k c) := by
        refine ⟨by simp, .inr ⟨w'.heap.size, k, cur.toArray, by rw [List.length_replicate], Nat.le_refl _, hblk.out, by rw [List.length_replicate]; exact Nat.le_refl _, by unfold maxLen; omega, by simp [hl], ?_⟩⟩
        rw [List.length_replicate, Nat.mul_one, List.take_of_length_le (by simp [hl]), hall]
      have HO := hid hown
      clear hall hl hown hblk hfil
      go_wp2_with fail
      go_ret
      exact ⟨_, rfl, HO.out, hbel⟩
end Go.Proofs.Ytajlmkokfgbjdaa
