/- What values computes. -/
import Derived.Test.YtajlmkokfgbjdaaOld17
set_option linter.unusedVariables false
set_option linter.unusedSimpArgs false
namespace Go.Proofs.Ytajlmkokfgbjdaa
open Go.RowKit

def Gp.values (n : Nat) (l : List Int) : List Int := (List.range n).map fun i => l.getD i 0
theorem Gp.values_length (n : Nat) (l : List Int) : (Gp.values n l).length = n := by simp [Gp.values]
theorem Gp.values_succ (n : Nat) (l : List Int) : Gp.values (n + 1) l = Gp.values n l ++ [l.getD n 0] := by simp [Gp.values, List.range_succ]
theorem Gp.values_getD (n : Nat) (l : List Int) (i : Nat) (h : i < n) : (Gp.values n l).getD i 0 = l.getD i 0 := by simp [Gp.values, List.getD, h]

set_option maxRecDepth 100000 in
set_option maxHeartbeats 2000000 in
theorem values_any (ga : Option Addr) (n gc : Nat) (v : Value) (l : List Int) (w : World) (hn : n ≤ 1000) (hl : l.length ≤ 9223372036854775807) (hb : ∀ i, -2147483648 ≤ l.getD i 0 ∧ l.getD i 0 ≤ 2147483647) (hs : Sl .i32 w v l) :
    Calls Try.prog 11 #[.slice ga n gc, v] w fun e w' => ∃ v', e = .returned v' ∧ Own w.heap.size 3 .i64 w' v' (Gp.values n l) ∧ Below w.heap.size w w' := by
  have HS := hid hs
  have HB := hid hb
  obtain ⟨a, cap, rfl, _⟩ := hs
  obtain ⟨m, hm⟩ : ∃ m, l.length = m := ⟨_, rfl⟩
  have HM := hid hm
  rw [hm] at hl HS ⊢
  have hO := hid (Own.empty w.heap.size 3 .i64 w (Nat.le_refl _))
  have hA := aB w (.cells #[] 3)
  clear hb hm
  go_enter Try.func11, Try.ntmps11
  go_wp2_with fail
  go_loopw [5, 6] (fun ov kv wr => ∃ (k : Nat), kv = .int .i64 k ∧ k ≤ n ∧ Hid (Own w.heap.size 3 .i64 wr ov (Gp.values k l)) ∧ Below w.heap.size w wr) (fun _ kv _ => n - (intOf kv).toNat)
  case atStart => exact ⟨0, rfl, Nat.zero_le _, hO, hA⟩
  case round =>
    obtain ⟨k, rfl, hk, hown, hbel⟩ := hrel
    by_cases hlt : k < n
    · have hlow : w.heap.size ≤ wr.heap.size := hbel.size
      have i1 : (0 : Int) ≤ (k : Int) := by omega
      have i2 : (k : Int) < (n : Int) := by omega
      have hx := HB.out k
      obtain ⟨x, hxe⟩ : ∃ x, l.getD k 0 = x := ⟨_, rfl⟩
      rw [hxe] at hx
      have hs' := hown.out.sl
      rw [← Gp.values_length k l] at hs'
      have step : ∀ (vo : Value) (wo w1 : World) (v1 : Value), Own w.heap.size 3 .i64 wo vo (Gp.values k l) → Below w.heap.size w wo → Own w.heap.size 3 .i64 w1 v1 (Gp.values k l ++ [x]) → wo.grownBy w1 vo.ownBlock → Hid (Own w.heap.size 3 .i64 w1 v1 (Gp.values (k + 1) l)) ∧ Below w.heap.size w w1 := fun vo wo w1 v1 h1 h2 h3 h4 =>
        ⟨by show Own _ _ _ _ _ _; rw [Gp.values_succ, hxe]; exact h3, h2.trans (h1.below h4 h2.size)⟩
      have HST := hid step
      clear step
      obtain ⟨oa, oc, rfl, _⟩ := hown.out.sl
      rw [Gp.values_length] at hown ⊢
      by_cases hkm : k < m
      · have i3 : (k : Int) < (m : Int) := by omega
        obtain ⟨a', cap', he, -, -, -, hfo⟩ := HS.out
        simp only [Value.slice.injEq] at he
        obtain ⟨rfl, -, rfl⟩ := he
        obtain ⟨b, o, rfl, hlb, hc⟩ := hfo (by rw [HM.out]; omega)
        have hcc := (hbel.cell (p := ⟨b, o + k, none⟩) hlb).trans (hc k (by rw [HM.out]; exact hkm))
        rw [hxe] at hcc
        clear hc hfo hs'
        go_wp2_with (at_builtin; apply Hid.out)
        refine hid ?_
        refine wpList_appendI elInt rfl (.tmp 24) (.tmp 26) rfl w.heap.size (Gp.values k l) [x] (.slice oa k oc) (.slice (some ⟨wr.heap.size, 0, none⟩) 1 1) rfl rfl (hown.out.kept (aB wr _)) (Sl.one .i64 wr 3 x) (by rw [Gp.values_length]; simp; omega) (by simp; omega) ?_
        intro v1 w1 ho1 hg1
        obtain ⟨ho2, hb2⟩ := HST.out (.slice oa k oc) (wr.alloc (.cells #[.int .i64 x] 3)) w1 v1 (hown.out.kept (aB wr _)) (hbel.trans ((aB wr _).mono hlow)) ho1 hg1
        clear ho1 hg1
        go_wp2_with (at_builtin; apply Hid.out)
        go_roundw
        case rel => exact ⟨k + 1, by go_num, by omega, ho2, hb2⟩
        case measure => simp [intOf]; omega
      · have i3 : ¬ (k : Int) < (m : Int) := by omega
        have hx0 : x = 0 := by rw [← hxe]; simp [List.getD, HM.out, show m ≤ k by omega]
        subst hx0
        clear hs'
        go_wp2_with (at_builtin; apply Hid.out)
        refine hid ?_
        refine wpList_appendI elInt rfl (.tmp 24) (.tmp 26) rfl w.heap.size (Gp.values k l) [0] (.slice oa k oc) (.slice (some ⟨wr.heap.size, 0, none⟩) 1 1) rfl rfl (hown.out.kept (aB wr _)) (Sl.one .i64 wr 3 0) (by rw [Gp.values_length]; simp; omega) (by simp; omega) ?_
        intro v1 w1 ho1 hg1
        obtain ⟨ho2, hb2⟩ := HST.out (.slice oa k oc) (wr.alloc (.cells #[.int .i64 0] 3)) w1 v1 (hown.out.kept (aB wr _)) (hbel.trans ((aB wr _).mono hlow)) ho1 hg1
        clear ho1 hg1
        go_wp2_with (at_builtin; apply Hid.out)
        go_roundw
        case rel => exact ⟨k + 1, by go_num, by omega, ho2, hb2⟩
        case measure => simp [intOf]; omega
    · obtain rfl : k = n := by omega
      go_wp2_with fail
      go_ret
      exact ⟨_, rfl, hown.out, hbel⟩
end Go.Proofs.Ytajlmkokfgbjdaa
