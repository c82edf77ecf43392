/- What the reference of the Merkle trees computes: half, Top, Root, Place, path, Open. Conditions: sizes. -/
import Derived.Test.YtifpkhgcoopjnaaMerkleHelp
import Derived.Test.YtifpkhgcoopjnaaDigestRef
import Derived.Test.YtifpkhgcoopjnaaMerklePlain
namespace Go.Proofs.Ytifpkhgcoopjnaa
open Go.RowKit

theorem Mk.path_le' {l : List Int} {i : Nat} (hi : i < l.length) : (Mk.path l i).length < l.length := by rw [Mk.path_length hi]; exact Mk.steps_length hi

set_option maxHeartbeats 400000 in
theorem rhalf_any (n : Nat) (w : World) (h2 : 2 ≤ n) (hn : n ≤ 1099511627776) :
    Calls Try.prog 58 #[.int .i64 n] w fun e w' => e = .returned (.int .i64 (Mk.half n)) ∧ w = w' := by
  go_enter Try.func58, Try.ntmps58
  go_wp2
  go_loopw [3] (fun k wr => ∃ k' e : Nat, k = .int .i64 k' ∧ Hid (k' = 2 ^ e) ∧ k' < n ∧ 0 < k' ∧ w = wr) (fun k _ => n - (intOf k).toNat)
  case atStart => exact ⟨1, 0, rfl, rfl, by omega, by omega, rfl⟩
  case round =>
    obtain ⟨k, e, rfl, he, hk, hk0, rfl⟩ := hrel
    by_cases hlt : 2 * k < n
    · go_wp2
      refine ⟨⟨2 * k, e + 1, by simp, ?_, hlt, by omega, by trivial⟩, by simp [intOf]; omega⟩
      show _ = _
      rw [he.out, Nat.pow_succ, Nat.mul_comm]
    · have hh := Mk.half_unique he.out hk (by omega)
      have HH := hid hh
      clear hh
      go_wp2
      go_ret
      exact ⟨by rw [← HH.out]; rfl, rfl⟩

set_option maxHeartbeats 400000 in
theorem rplace_any (n i : Int) (w : World) :
    Calls Try.prog 51 #[.int .i64 n, .int .i64 i] w fun e w' => e = .returned (.int .i64 (Mk.place n i)) ∧ w = w' := by
  by_cases h1 : 4096 < n
  · go_enter Try.func51, Try.ntmps51
    go_wp2
    go_ret
    exact ⟨by rw [show Mk.place n i = 2 from if_pos h1]; rfl, rfl⟩
  · by_cases h2 : i < 0
    · have d2 : decide (i < 0) = true := by simp; omega
      go_enter Try.func51, Try.ntmps51
      go_wp2
      go_ret
      exact ⟨by rw [show Mk.place n i = 1 from by unfold Mk.place; rw [if_neg (by omega), if_pos (.inl h2)]]; rfl, rfl⟩
    · have d2 : decide (i < 0) = false := by simp; omega
      by_cases h3 : n ≤ i
      · have d3 : decide (n ≤ i) = true := by simp; omega
        go_enter Try.func51, Try.ntmps51
        go_wp2
        go_ret
        exact ⟨by rw [show Mk.place n i = 1 from by unfold Mk.place; rw [if_neg (by omega), if_pos (.inr h3)]]; rfl, rfl⟩
      · have d3 : decide (n ≤ i) = false := by simp; omega
        go_enter Try.func51, Try.ntmps51
        go_wp2
        go_ret
        exact ⟨by rw [show Mk.place n i = 0 from by unfold Mk.place; rw [if_neg (by omega), if_neg (by omega)]]; rfl, rfl⟩

set_option maxRecDepth 100000 in
set_option maxHeartbeats 400000 in
theorem rtop_ind (N : Nat) : ∀ (v : Value) (xs : List Int) (w : World), xs.length ≤ N → N ≤ 1099511627776 → Sl .u64 w v xs →
    Calls Try.prog 50 #[v] w fun e w' => e = .returned (.int .u64 (I (Mk.top xs))) ∧ ∃ q, w' = w.drewN q := by
  induction N with
  | zero =>
    intro v xs w hx _ hs
    obtain rfl : xs = [] := List.eq_nil_of_length_eq_zero (by omega)
    obtain ⟨a, cap, rfl, _⟩ := hs
    go_enter Try.func50, Try.ntmps50
    go_wp2_with fail
    go_ret
    exact ⟨rfl, 0, rfl⟩
  | succ N ih =>
    intro v xs w hx hN hs
    by_cases h0 : xs.length = 0
    · exact ih v xs w (by omega) (by omega) hs
    · by_cases h1 : xs.length = 1
      · obtain ⟨x, rfl⟩ : ∃ x, xs = [x] := by
          match xs, h1 with
          | [x], _ => exact ⟨x, rfl⟩
        obtain ⟨a, cap, rfl, hf1, _, _, hf⟩ := hs
        obtain ⟨b, o, rfl, hb, hc⟩ := hf (by simp)
        have hc0 := hc 0 (by simp)
        rw [Nat.add_zero] at hc0
        have HC0 : w.cell? ⟨b, o, none⟩ = some (.int .u64 x) := hc0
        clear hc hf hc0 ih hx hN h0 h1
        go_enter Try.func50, Try.ntmps50
        go_wp2_with (go_at_call 26; refine (rjoin_any _ _ _).mono ?_; rintro e w' ⟨rfl, rfl⟩)
        go_ret
        refine ⟨?_, 0, rfl⟩
        rw [Mk.top_one]
        have hB0 : B 0 = 0#64 := by decide +kernel
        rw [← hB0]; rfl
      · have h2 : 2 ≤ xs.length := by omega
        have hh := Mk.half_lt h2
        have hp := Mk.half_pos xs.length
        have hs' := hs
        obtain ⟨a, cap, rfl, hcap, hmax, _, hf⟩ := hs
        obtain ⟨b, o, rfl, hb, _⟩ := hf (by omega)
        clear hf
        have z0 : ((xs.length : Int) == 0) = false := by rw [beq_eq_false_iff_ne]; omega
        have z1 : ((xs.length : Int) == 1) = false := by rw [beq_eq_false_iff_ne]; omega
        have cH := hid (fun w => rhalf_any xs.length w h2 (by omega))
        have HS := hid hs'
        have IH := hid ih
        obtain ⟨hf, hhf⟩ : ∃ hf, Mk.half xs.length = hf := ⟨_, rfl⟩
        have C1 := hid (fun u (hu : Below w.heap.size w u) => IH.out _ (xs.take (Mk.half xs.length)) u (by rw [List.length_take]; omega) (by omega) ((HS.out.take _ (by omega)).stays hu))
        have C2 := hid (fun u (hu : Below w.heap.size w u) => IH.out _ (xs.drop (Mk.half xs.length)) u (by rw [List.length_drop]; omega) (by omega) ((HS.out.drop _ (by omega)).stays hu))
        have HTOP := hid (Mk.top_many xs h2)
        rw [hhf] at hh hp C1 C2 HTOP
        obtain ⟨T1, hT1⟩ : ∃ T, I (Mk.top (xs.take hf)) = T := ⟨_, rfl⟩
        obtain ⟨T2, hT2⟩ : ∃ T, I (Mk.top (xs.drop hf)) = T := ⟨_, rfl⟩
        have cJ : ∀ u, Calls Try.prog 26 #[.int .u64 T1, .int .u64 T2] u fun e w' => e = .returned (.int .u64 (I (Mk.top xs))) ∧ w' = u := fun u => (rjoin_any _ _ _).mono (by rintro e w' ⟨rfl, rfl⟩; exact ⟨by rw [HTOP.out, ← hT1, ← hT2, B_I, B_I], rfl⟩)
        have CJ := hid cJ
        rw [hT1] at C1
        rw [hT2] at C2
        have HHF := hid hhf
        have k0 : (0 : Int) ≤ (hf : Int) := by omega
        have k1 : (hf : Int) ≤ (xs.length : Int) := by omega
        have k2 : (hf : Int) ≤ (cap : Int) := by omega
        have k3 : (xs.length : Int) ≤ (cap : Int) := by omega
        have k4 : ¬ hf = cap := by omega
        have k5 : ¬ cap = hf := by omega
        clear hs' ih hmax h0 h1 hb cJ hT1 hT2 hhf
        go_enter Try.func50, Try.ntmps50
        go_wp2_with fail
        refine (cH.out _).mono ?_
        rw [HHF.out]
        rintro e w1 ⟨rfl, rfl⟩
        go_wp2_with fail
        go_quiet ((first
          | (go_at_call 50; with_reducible exact Calls.quiet_of (C1.out _ (drewB' _ _ _)))
          | (go_at_call 50; with_reducible exact Calls.quiet_of (C2.out _ (drewB' _ _ _)))
          | (go_at_call 26; with_reducible exact Calls.quiet_of_same (CJ.out _))))
        go_wp2_with fail
        go_ret
        exact ⟨rfl, _, rfl⟩
theorem rtop_any (v : Value) (xs : List Int) (w : World) (hx : xs.length ≤ 1099511627776) (hs : Sl .u64 w v xs) :
    Calls Try.prog 50 #[v] w fun e w' => e = .returned (.int .u64 (I (Mk.top xs))) ∧ ∃ q, w' = w.drewN q :=
  rtop_ind xs.length v xs w (Nat.le_refl _) hx hs

set_option maxHeartbeats 400000 in
theorem rroot_any (v : Value) (xs : List Int) (w : World) (hx : xs.length ≤ 1099511627776) (hs : Sl .u64 w v xs) :
    Calls Try.prog 38 #[v] w fun e w' => e = .returned (.int .u64 (I (Mk.root xs))) ∧ ∃ q, w' = w.drewN q := by
  have HS := hid hs
  obtain ⟨a, cap, rfl, _⟩ := hs
  go_enter Try.func38, Try.ntmps38
  go_wp2_with fail
  refine (rtop_any _ _ _ hx HS.out).mono ?_
  rintro e w1 ⟨rfl, q1, rfl⟩
  go_wp2_with fail
  refine (rjoin_any _ _ _).mono ?_
  rintro e w' ⟨rfl, rfl⟩
  go_wp2_with fail
  go_ret
  refine ⟨?_, _, rfl⟩
  rw [B_I]; rfl

set_option maxRecDepth 100000 in
set_option maxHeartbeats 1000000 in
theorem rpath_ind (N : Nat) : ∀ (v : Value) (xs : List Int) (i : Nat) (w : World), xs.length ≤ N → N ≤ 4096 → i < xs.length → Sl .u64 w v xs →
    Calls Try.prog 49 #[v, .int .i64 i] w fun e w' => ∃ v', e = .returned v' ∧ Own w.heap.size 22 .u64 w' v' (Mk.path xs i) ∧ Below w.heap.size w w' := by
  induction N with
  | zero => intro v xs i w hx _ hi _; omega
  | succ N ih =>
    intro v xs i w hx hN hi hs
    by_cases h1 : xs.length = 1
    · have hp : Mk.path xs i = [] := by unfold Mk.path; rw [Mk.down_one i (by omega)]; rfl
      obtain ⟨a, cap, rfl, _⟩ := hs
      have z1 : ((xs.length : Int) == 1) = true := by rw [beq_iff_eq]; omega
      go_enter Try.func49, Try.ntmps49
      go_wp2_with fail
      go_ret
      exact ⟨_, rfl, by rw [hp]; exact Own.nil _ _ _ _, Below.refl _ _⟩
    · have h2 : 2 ≤ xs.length := by omega
      have hh := Mk.half_lt h2
      have hp := Mk.half_pos xs.length
      have hs' := hs
      obtain ⟨a, cap, rfl, hcap, hmax, _, hf⟩ := hs
      obtain ⟨b, o, rfl, hb, _⟩ := hf (by omega)
      clear hf
      have z1 : ((xs.length : Int) == 1) = false := by rw [beq_eq_false_iff_ne]; omega
      have cH := hid (fun w => rhalf_any xs.length w h2 (by omega))
      have HS := hid hs'
      have IH := hid ih
      obtain ⟨hf, hhf⟩ : ∃ hf, Mk.half xs.length = hf := ⟨_, rfl⟩
      have HHF := hid hhf
      rw [hhf] at hh hp
      have k0 : (0 : Int) ≤ (hf : Int) := by omega
      have k1 : (hf : Int) ≤ (xs.length : Int) := by omega
      have k2 : (hf : Int) ≤ (cap : Int) := by omega
      have k3 : (xs.length : Int) ≤ (cap : Int) := by omega
      have k4 : ¬ hf = cap := by omega
      have k5 : ¬ cap = hf := by omega
      have bD : Below w.heap.size w w.drew := dB w
      by_cases hl : i < hf
      · have hpath : Mk.path xs i = Mk.path (xs.take hf) i ++ [I (Mk.top (xs.drop hf))] := by
          unfold Mk.path; rw [Mk.down_left h2 (by omega), List.reverse_cons, hhf]
        have hpl := Mk.path_le' (l := xs.take hf) (i := i) (by rw [List.length_take]; omega)
        rw [List.length_take] at hpl
        have C1 := hid (IH.out _ (xs.take hf) i w.drew (by rw [List.length_take]; omega) (by omega) (by rw [List.length_take]; omega) ((HS.out.take hf (by omega)).stays bD))
        have C2 := hid (fun u (hu : Below w.heap.size w u) => rtop_any _ (xs.drop hf) u (by rw [List.length_drop]; omega) ((HS.out.drop hf (by omega)).stays hu))
        have HPA := hid hpath
        have t0 : decide ((i : Int) < (hf : Int)) = true := decide_eq_true (by omega)
        obtain ⟨T, hT⟩ : ∃ T, I (Mk.top (xs.drop hf)) = T := ⟨_, rfl⟩
        rw [hT] at C2 HPA
        clear hs' ih hmax hb hpath hhf hT
        go_enter Try.func49, Try.ntmps49
        go_wp2_with fail
        refine (cH.out _).mono ?_
        rw [HHF.out]
        rintro e w1 ⟨rfl, rfl⟩
        go_wp2_with fail
        go_region_held3 (fun _ => True) (trivial)
          (first
            | (go_at_call 49; (with_reducible refine C1.out.mono ?_); rintro e w1 ⟨v1, rfl, ho1, b1⟩)
            | (go_at_call 50; (with_reducible refine (C2.out _ (seqB bD b1)).mono ?_); rintro e w' ⟨rfl, q, rfl⟩)
            | (refine step_appendI elU64 ?_ (.tmp 19) (.tmp 24) ?_ w.heap.size (Mk.path (xs.take hf) i) [T] ?v ?u ?_ ?_ ?_ ?_ ?_ ?_ ?_
               rfl
               rfl
               rotate_left
               rotate_left
               rfl
               rfl
               (first | exact ((ho1.kept (aB w1 _)).kept (drewB _ _)) | exact ((ho1.kept (drewB w1 q)).kept (aB _ _)))
               (first | exact ((Sl.one .u64 w1 22 T).stays (drewB _ _)) | exact (Sl.one .u64 (w1.drewN q) 22 T))
               (simp; omega)
               (have := b1.size; simp at this ⊢; omega)
               intro v2 w2 ho2 b2)
            | fail)
        go_wp2_with fail
        go_ret
        refine ⟨_, rfl, by rw [HPA.out]; exact ho2, ?_⟩
        exact ((seqB bD b1).trans ((aB w1 _).mono (by have := b1.size; simpa using this))).trans ⟨b2.os, b2.tape, b2.output, b2.size, b2.block⟩
      · have hpath : Mk.path xs i = Mk.path (xs.drop hf) (i - hf) ++ [I (Mk.top (xs.take hf))] := by
          unfold Mk.path; rw [Mk.down_right h2 (by omega), List.reverse_cons, hhf]
        have hpl := Mk.path_le' (l := xs.drop hf) (i := i - hf) (by rw [List.length_drop]; omega)
        rw [List.length_drop] at hpl
        have C1 := hid (IH.out _ (xs.drop hf) (i - hf) w.drew (by rw [List.length_drop]; omega) (by omega) (by rw [List.length_drop]; omega) ((HS.out.drop hf (by omega)).stays bD))
        have C2 := hid (fun u (hu : Below w.heap.size w u) => rtop_any _ (xs.take hf) u (by rw [List.length_take]; omega) ((HS.out.take hf (by omega)).stays hu))
        have HPA := hid hpath
        have t0 : decide ((i : Int) < (hf : Int)) = false := decide_eq_false (by omega)
        have wi : IntKind.i64.wrap ((i : Int) - (hf : Int)) = ((i - hf : Nat) : Int) := by rw [IntWalk.i64_in _ (by omega)]; omega
        obtain ⟨T, hT⟩ : ∃ T, I (Mk.top (xs.take hf)) = T := ⟨_, rfl⟩
        rw [hT] at C2 HPA
        clear hs' ih hmax hb hpath hhf hT
        go_enter Try.func49, Try.ntmps49
        go_wp2_with fail
        refine (cH.out _).mono ?_
        rw [HHF.out]
        rintro e w1 ⟨rfl, rfl⟩
        go_wp2_with fail
        go_region_held3 (fun _ => True) (trivial)
          (first
            | (go_at_call 49; (with_reducible refine C1.out.mono ?_); rintro e w1 ⟨v1, rfl, ho1, b1⟩)
            | (go_at_call 50; (with_reducible refine (C2.out _ (seqB bD b1)).mono ?_); rintro e w' ⟨rfl, q, rfl⟩)
            | (refine step_appendI elU64 ?_ (.tmp 32) (.tmp 37) ?_ w.heap.size (Mk.path (xs.drop hf) (i - hf)) [T] ?v2 ?u2 ?_ ?_ ?_ ?_ ?_ ?_ ?_
               rfl
               rfl
               rotate_left
               rotate_left
               rfl
               rfl
               (first | exact ((ho1.kept (aB w1 _)).kept (drewB _ _)) | exact ((ho1.kept (drewB w1 q)).kept (aB _ _)))
               (first | exact ((Sl.one .u64 w1 22 T).stays (drewB _ _)) | exact (Sl.one .u64 (w1.drewN q) 22 T))
               (simp; omega)
               (have := b1.size; simp at this ⊢; omega)
               intro v2 w2 ho2 b2)
            | fail)
        go_wp2_with fail
        go_ret
        refine ⟨_, rfl, by rw [HPA.out]; exact ho2, ?_⟩
        exact ((seqB bD b1).trans ((aB w1 _).mono (by have := b1.size; simpa using this))).trans ⟨b2.os, b2.tape, b2.output, b2.size, b2.block⟩
end Go.Proofs.Ytifpkhgcoopjnaa
