/- What Grown computes. Conditions: sizes. -/
import Derived.Test.YtifpkhgcoopjnaaMerkleHelp
namespace Go.Proofs.Ytifpkhgcoopjnaa
open Go.RowKit

/-- Element j of a list that has grown. -/
def Mk.grownAt (xs : List Int) (j : Nat) : Int := if j < xs.length then xs.getD j 0 else (j : Int) * 2654435761
def Mk.grown (xs : List Int) (n : Nat) : List Int := (List.range n).map (Mk.grownAt xs)
theorem Mk.grown_length (xs : List Int) (n : Nat) : (Mk.grown xs n).length = n := by simp [Mk.grown]
theorem Mk.grown_succ (xs : List Int) (n : Nat) : Mk.grown xs (n + 1) = Mk.grown xs n ++ [Mk.grownAt xs n] := by simp [Mk.grown, List.range_succ]
theorem Mk.grown_take (xs : List Int) (m : Nat) (h : m ≤ xs.length) : xs.take m = Mk.grown xs m := by
  refine Mk.ext_getD (by rw [List.length_take, Mk.grown_length]; omega) fun i hi => ?_
  rw [List.length_take] at hi
  simp [List.getD, Mk.grown, Mk.grownAt, List.getElem?_take, show i < m by omega, show i < xs.length by omega]
theorem Mk.grown_getD (xs : List Int) (n i : Nat) (h : i < n) : (Mk.grown xs n).getD i 0 = Mk.grownAt xs i := by
  simp [Mk.grown, List.getD, h]

set_option maxHeartbeats 400000 in
theorem grown_any (v : Value) (xs : List Int) (n : Nat) (w : World) (hn : n ≤ 1000000) (hs : Sl .u64 w v xs) :
    Calls Try.prog 32 #[v, .int .i64 n] w fun e w' => ∃ v', e = .returned v' ∧ Own w.heap.size 22 .u64 w' v' (Mk.grown xs n) ∧ Below w.heap.size w w' := by
  have HS := hid hs
  obtain ⟨a, cap, rfl, hc, hm, ha, _⟩ := hs
  obtain ⟨m, hmm⟩ : ∃ m : Nat, min xs.length n = m := ⟨_, rfl⟩
  have hmi : min (xs.length : Int) (n : Int) = (m : Int) := by omega
  have hm0 : (0 : Int) ≤ (m : Int) := by omega
  have hmc : (m : Int) ≤ (cap : Int) := by omega
  go_enter Try.func32, Try.ntmps32
  go_wp2_with (at_builtin; apply Hid.out)
  refine hid ?_
  refine wpList_appendI elU64 rfl (.tmp 6) (.tmp 12) rfl w.heap.size [] (xs.take m) (.slice (some ⟨w.heap.size, 0, none⟩) 0 0) (.slice a m cap) rfl rfl (Own.empty _ _ _ w (Nat.le_refl _)) ((HS.out.take _ (by omega)).stays (aB w _)) (by simp; omega) (by simp) ?_
  intro v1 w1 ho1 hg1
  have hb1 : Below w.heap.size w w1 := (aB w _).trans ((Own.empty w.heap.size 22 .u64 w (Nat.le_refl _)).below hg1 (by simp))
  rw [List.nil_append, Mk.grown_take xs m (by omega)] at ho1
  have HO := hid ho1
  clear hg1 ho1 HS
  go_wp2_with fail
  go_loopw [5] (fun s wr => ∃ (k : Nat) (b : Option Addr) (c : Nat), s = .slice b k c ∧ m ≤ k ∧ k ≤ n ∧ Hid (Own w.heap.size 22 .u64 wr (.slice b k c) (Mk.grown xs k)) ∧ Below w.heap.size w wr) (fun s _ => match s with | .slice _ k _ => n - k | _ => 0)
  case atStart =>
    obtain ⟨b, c, hv, _⟩ := HO.out.sl
    rw [Mk.grown_length] at hv
    subst hv
    exact ⟨m, b, c, rfl, Nat.le_refl _, by omega, HO, hb1⟩
  case round =>
    obtain ⟨k, b, c, rfl, hmk, hkn, hown, hbel⟩ := hrel
    by_cases hlt : k < n
    · have w1 : IntKind.u64.wrap (k : Int) = (k : Int) := by rw [IntKind.wrap_u64]; omega
      have w2 : IntKind.u64.wrap ((k : Int) * 2654435761) = (k : Int) * 2654435761 := by rw [IntKind.wrap_u64]; omega
      go_wp2_with (at_builtin; apply Hid.out)
      refine hid ?_
      refine wpList_appendI elU64 rfl (.tmp 18) (.tmp 23) rfl w.heap.size (Mk.grown xs k) [(k : Int) * 2654435761] (.slice b k c) (.slice (some ⟨wr.heap.size, 0, none⟩) 1 1) rfl rfl (hown.out.kept (aB wr _)) (Sl.one _ wr _ _) (by rw [Mk.grown_length]; simp; omega) (by have := hbel.size; simp; omega) ?_
      intro v2 w2 ho2 hg2
      have hb2 : Below w.heap.size w w2 := (hbel.alloc hbel.size _).trans ((hown.out.kept (aB wr _)).below hg2 (by have := hbel.size; simp; omega))
      have hat : Mk.grownAt xs k = (k : Int) * 2654435761 := by unfold Mk.grownAt; rw [if_neg (by omega)]
      rw [← hat, ← Mk.grown_succ] at ho2
      have HO2 := hid ho2
      clear hg2
      obtain ⟨b2, c2, hv2, _⟩ := ho2.sl
      rw [Mk.grown_length] at hv2
      subst hv2
      clear ho2 hat
      go_wp2_with fail
      exact ⟨⟨k + 1, b2, c2, rfl, by omega, by omega, HO2, hb2⟩, by show n - (k + 1) < n - k; omega⟩
    · have hke : k = n := by omega
      subst hke
      go_wp2_with fail
      go_ret
      exact ⟨_, rfl, hown.out, hbel⟩
end Go.Proofs.Ytifpkhgcoopjnaa
