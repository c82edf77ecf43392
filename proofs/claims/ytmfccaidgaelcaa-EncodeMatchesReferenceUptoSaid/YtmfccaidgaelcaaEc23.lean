/- Tops and roots of Merkle trees. No conditions. -/
import Derived.Test.YtmfccaidgaelcaaEc14
import Derived.Test.YtmfccaidgaelcaaEp5
import Derived.Test.YtmfccaidgaelcaaAbsE
set_option linter.unusedVariables false
set_option linter.unusedSimpArgs false
namespace Go.Proofs.Ytmfccaidgaelcaa
open Go.Abs Go Go.RowKit
def mI (l : List (BitVec 64)) : List Int := l.map Mk.I
theorem mI_len (l : List (BitVec 64)) : (mI l).length = l.length := by simp [mI]
theorem uL_ints (l : List (BitVec 64)) : uL l = ints .u64 (mI l) := by simp [uL, ints, mI, uA, Mk.I]
theorem uL_takeM (l : List (BitVec 64)) (k : Nat) : (uL l).take (k * 1) = uL (l.take k) := by rw [Nat.mul_one]; simp [uL]
theorem uL_dropM (l : List (BitVec 64)) (k : Nat) : (uL l).drop (k * 1) = uL (l.drop k) := by rw [Nat.mul_one]; simp [uL]
theorem mI_take (l : List (BitVec 64)) (k : Nat) : mI (l.take k) = (mI l).take k := by simp [mI]
theorem mI_drop (l : List (BitVec 64)) (k : Nat) : mI (l.drop k) = (mI l).drop k := by simp [mI]
theorem rdu_take (l : List (BitVec 64)) (k : Nat) (h : k ≤ l.length) : A.ro (iNat (k : Int)) ((uL l).take (iNat (k : Int) * 1)) = rdu (l.take k) := by
  show A.ro k ((uL l).take (k * 1)) = A.ro (l.take k).length (uL (l.take k))
  rw [uL_takeM, List.length_take, Nat.min_eq_left h]
theorem rdu_drop (l : List (BitVec 64)) (k : Nat) : A.ro (l.length - iNat (k : Int)) ((uL l).drop (iNat (k : Int) * 1)) = rdu (l.drop k) := by
  show A.ro (l.length - k) ((uL l).drop (k * 1)) = A.ro (l.drop k).length (uL (l.drop k))
  rw [uL_dropM, List.length_drop]
theorem join_fc (a b : BitVec 64) : FC Try.prog ge 58 [uA a, uA b] [] (uA (Dg.join a b)) [] NoP := by
  have c1 := step_fc 11820040416388919760#64 a
  have c2 := step_fc (Dg.step 11820040416388919760#64 a) b
  refine FC.of_AW tok Try.func58 (by kernel_rfl) rfl Try.ntmps58 [] rfl rfl rfl ?_; intro w0 X0 Y f0 hI0 hX0
  (repeat (first | refine RG.call rfl rfl rfl rfl (c1) [] rfl rfl rfl rfl (.nil _) (.nil _) (fun _ h => False.elim h) rfl (A.ren_free _ _ rfl) rfl ?_ | refine RG.call rfl rfl rfl rfl (c2) [] rfl rfl rfl rfl (.nil _) (.nil _) (fun _ h => False.elim h) rfl (A.ren_free _ _ rfl) rfl ?_ | refine K1 ?_ | refine K2 ?_ | refine K3 ?_ | refine K4 ?_ | refine K5 ?_ | refine K6 ?_ | refine K7 ?_ | refine L1 ?_ | refine L2 ?_ | refine L3 ?_ | refine RG.d ?_ | refine RG.dd ?_ | refine S1 ?_ | refine S2 ?_ | refine S3 ?_ | refine S4 ?_ | refine S5 ?_ | refine S7 ?_ | refine S8 ?_))
  (repeat (first | refine K1 ?_ | refine K2 ?_ | refine K3 ?_ | refine K4 ?_ | refine K5 ?_ | refine K6 ?_ | refine K7 ?_ | refine L1 ?_ | refine L2 ?_ | refine L3 ?_ | refine RG.d ?_ | refine RG.dd ?_ | refine S1 ?_ | refine S2 ?_ | refine S3 ?_ | refine S4 ?_ | refine S5 ?_ | refine S6 ?_ | refine S7 ?_ | refine S8 ?_))
  exact ⟨⟨_, rfl, rfl⟩, rfl, .nil _⟩
set_option maxHeartbeats 4000000 in
theorem halves_fc (l : List (BitVec 64)) (h2 : 2 ≤ l.length) (hB : l.length ≤ BW) : FC Try.prog ge 61 [rdu l] [] (.tup [rdu (l.take (Mk.half l.length)), rdu (l.drop (Mk.half l.length))]) [] NoP := by
  unfold BW at hB
  obtain ⟨hf, hhf⟩ : ∃ h, h = Mk.half l.length := ⟨_, rfl⟩
  have hlt := Mk.half_lt h2
  rw [← hhf] at hlt ⊢
  refine FC.of_AW tok Try.func61 (by kernel_rfl) rfl Try.ntmps61 [] rfl rfl rfl ?_; intro w0 X0 Y f0 hI0 hX0
  refine S1 ?_; (repeat (first | refine K1 ?_ | refine K2 ?_ | refine K3 ?_ | refine K4 ?_ | refine K5 ?_ | refine K6 ?_ | refine K7 ?_ | refine L1 ?_ | refine L2 ?_ | refine L3 ?_ | refine RG.d ?_ | refine RG.dd ?_ | refine S2 ?_ | refine S3 ?_ | refine S4 ?_ | refine S5 ?_ | refine S7 ?_ | refine S8 ?_)); refine S1 ?_; (repeat (first | refine K1 ?_ | refine K2 ?_ | refine K3 ?_ | refine K4 ?_ | refine K5 ?_ | refine K6 ?_ | refine K7 ?_ | refine L1 ?_ | refine L2 ?_ | refine L3 ?_ | refine RG.d ?_ | refine RG.dd ?_ | refine S2 ?_ | refine S3 ?_ | refine S4 ?_ | refine S5 ?_ | refine S7 ?_ | refine S8 ?_))
  refine AW.seqJ (fun _ : Unit => ⟨put 0 (some (rdu l)) (put 4 (some (i64 (hf : Int))) noE), noH, 0⟩) (fun _ => True) ?_ ?_
  · first | refine S4 ?_ | skip
    refine AW.loopS (fun k : Nat => ⟨put 0 (some (rdu l)) (put 4 (some (i64 (k : Int))) noE), noH, 0⟩) (fun k => (∃ e, k = 2 ^ e) ∧ k < l.length) (fun k => l.length - k) 1 ⟨⟨0, rfl⟩, by omega⟩ (Sub.of (by repeat (first | exact SubE.no _ | refine SubE.put rfl ?_)) (by repeat (first | exact SubH.no _ | refine SubH.put rfl ?_)) rfl) ?_
    rintro k ⟨⟨e, he⟩, hk⟩
    have hk0 : 1 ≤ k := by rw [he]; exact Nat.one_le_two_pow
    (repeat (first | refine K1 ?_ | refine K2 ?_ | refine K3 ?_ | refine K4 ?_ | refine K5 ?_ | refine K6 ?_ | refine K7 ?_ | refine L1 ?_ | refine L2 ?_ | refine L3 ?_ | refine RG.d ?_ | refine RG.dd ?_ | refine S1 ?_ | refine S2 ?_ | refine S3 ?_ | refine S4 ?_ | refine S5 ?_ | refine S7 ?_ | refine S8 ?_))
    refine AW.condD rfl (fun hc => ?_) (fun hc => ?_)
    · have hc2 : 2 * k < l.length := by
        have : (2 : Int) * (k : Int) < (l.length : Int) := hc
        omega
      (repeat (first | refine K1 ?_ | refine K2 ?_ | refine K3 ?_ | refine K4 ?_ | refine K5 ?_ | refine K6 ?_ | refine K7 ?_ | refine L1 ?_ | refine L2 ?_ | refine L3 ?_ | refine RG.d ?_ | refine RG.dd ?_ | refine S1 ?_ | refine S2 ?_ | refine S3 ?_ | refine S4 ?_ | refine S5 ?_ | refine S7 ?_ | refine S8 ?_))
      rw [show (k : Int) * 2 = ((2 * k : Nat) : Int) by omega]
      exact ⟨2 * k, ⟨⟨e + 1, by rw [he, Nat.pow_succ, Nat.mul_comm]⟩, hc2⟩, by omega, Sub.of (by repeat (first | exact SubE.no _ | refine SubE.put rfl ?_)) (by repeat (first | exact SubH.no _ | refine SubH.put rfl ?_)) rfl⟩
    · have hc2 : l.length ≤ 2 * k := by
        have : ¬ (2 : Int) * (k : Int) < (l.length : Int) := hc
        omega
      have hkh := Mk.half_unique he hk hc2
      rw [← hhf] at hkh
      subst hkh
      (repeat (first | refine K1 ?_ | refine K2 ?_ | refine K3 ?_ | refine K4 ?_ | refine K5 ?_ | refine K6 ?_ | refine K7 ?_ | refine L1 ?_ | refine L2 ?_ | refine L3 ?_ | refine RG.d ?_ | refine RG.dd ?_ | refine S1 ?_ | refine S2 ?_ | refine S3 ?_ | refine S4 ?_ | refine S5 ?_ | refine S7 ?_ | refine S8 ?_))
      exact ⟨(), trivial, Sub.of (by repeat (first | exact SubE.no _ | refine SubE.put rfl ?_)) (by repeat (first | exact SubH.no _ | refine SubH.put rfl ?_)) rfl⟩
  intro _ _
  (repeat (first | refine K1 ?_ | refine K2 ?_ | refine K3 ?_ | refine K4 ?_ | refine K5 ?_ | refine K6 ?_ | refine K7 ?_ | refine L1 ?_ | refine L2 ?_ | refine L3 ?_ | refine RG.d ?_ | refine RG.dd ?_ | refine S1 ?_ | refine S2 ?_ | refine S3 ?_ | refine S4 ?_ | refine S5 ?_ | refine S7 ?_ | refine S8 ?_))
  refine RG.val tok rfl rfl rfl (show 0 ≤ (hf : Int) ∧ (hf : Int) ≤ (l.length : Int) ∧ (uL l).length = l.length * 1 from ⟨by omega, by omega, by rw [uL_len, Nat.mul_one]⟩) rfl rfl ?_
  refine RG.put 14 rfl (rdu_take l hf (by omega)) ?_
  (repeat (first | refine K1 ?_ | refine K2 ?_ | refine K3 ?_ | refine K4 ?_ | refine K5 ?_ | refine K6 ?_ | refine K7 ?_ | refine L1 ?_ | refine L2 ?_ | refine L3 ?_ | refine RG.d ?_ | refine RG.dd ?_ | refine S1 ?_ | refine S2 ?_ | refine S3 ?_ | refine S4 ?_ | refine S5 ?_ | refine S7 ?_ | refine S8 ?_))
  refine RG.val tok rfl rfl rfl (show 0 ≤ (hf : Int) ∧ (hf : Int) ≤ (l.length : Int) ∧ (uL l).length = l.length * 1 from ⟨by omega, by omega, by rw [uL_len, Nat.mul_one]⟩) rfl rfl ?_
  refine RG.put 17 rfl (rdu_drop l hf) ?_
  (repeat (first | refine K1 ?_ | refine K2 ?_ | refine K3 ?_ | refine K4 ?_ | refine K5 ?_ | refine K6 ?_ | refine K7 ?_ | refine L1 ?_ | refine L2 ?_ | refine L3 ?_ | refine RG.d ?_ | refine RG.dd ?_ | refine S1 ?_ | refine S2 ?_ | refine S3 ?_ | refine S4 ?_ | refine S5 ?_ | refine S6 ?_ | refine S7 ?_ | refine S8 ?_))
  exact ⟨⟨_, rfl, rfl⟩, rfl, .nil _⟩
theorem top_fc : ∀ (N : Nat) (l : List (BitVec 64)), l.length ≤ N → l.length ≤ BW → FC Try.prog ge 59 [rdu l] [] (uA (Mk.top (mI l))) [] NoP
  | N, [], _, _ => by
    refine FC.of_AW tok Try.func59 (by kernel_rfl) rfl Try.ntmps59 [] rfl rfl rfl ?_; intro w0 X0 Y f0 hI0 hX0
    (repeat (first | refine K1 ?_ | refine K2 ?_ | refine K3 ?_ | refine K4 ?_ | refine K5 ?_ | refine K6 ?_ | refine K7 ?_ | refine L1 ?_ | refine L2 ?_ | refine L3 ?_ | refine RG.d ?_ | refine RG.dd ?_ | refine S1 ?_ | refine S2 ?_ | refine S3 ?_ | refine S4 ?_ | refine S5 ?_ | refine S6 ?_ | refine S7 ?_ | refine S8 ?_))
    exact ⟨⟨_, rfl, rfl⟩, rfl, .nil _⟩
  | N, [x], _, _ => by
    have c := join_fc 0#64 x
    rw [show Mk.top (mI [x]) = Dg.join 0#64 x by rw [show mI [x] = [Mk.I x] from rfl, Mk.top_one, Mk.B_I]]
    refine FC.of_AW tok Try.func59 (by kernel_rfl) rfl Try.ntmps59 [] rfl rfl rfl ?_; intro w0 X0 Y f0 hI0 hX0
    (repeat (first | refine K1 ?_ | refine K2 ?_ | refine K3 ?_ | refine K4 ?_ | refine K5 ?_ | refine K6 ?_ | refine K7 ?_ | refine L1 ?_ | refine L2 ?_ | refine L3 ?_ | refine RG.d ?_ | refine RG.dd ?_ | refine S1 ?_ | refine S2 ?_ | refine S3 ?_ | refine S4 ?_ | refine S5 ?_ | refine S7 ?_ | refine S8 ?_))
    refine RG.idx tok rfl rfl rfl rfl rfl rfl (show dropO (0 * 1) (uL [x]) = some [uA x] from rfl) ⟨by decide, by simp⟩ rfl ?_
    (repeat (first | refine RG.call rfl rfl rfl rfl (c) [] rfl rfl rfl rfl (.nil _) (.nil _) (fun _ h => False.elim h) rfl (A.ren_free _ _ rfl) rfl ?_ | refine K1 ?_ | refine K2 ?_ | refine K3 ?_ | refine K4 ?_ | refine K5 ?_ | refine K6 ?_ | refine K7 ?_ | refine L1 ?_ | refine L2 ?_ | refine L3 ?_ | refine RG.d ?_ | refine RG.dd ?_ | refine S1 ?_ | refine S2 ?_ | refine S3 ?_ | refine S4 ?_ | refine S5 ?_ | refine S7 ?_ | refine S8 ?_))
    (repeat (first | refine K1 ?_ | refine K2 ?_ | refine K3 ?_ | refine K4 ?_ | refine K5 ?_ | refine K6 ?_ | refine K7 ?_ | refine L1 ?_ | refine L2 ?_ | refine L3 ?_ | refine RG.d ?_ | refine RG.dd ?_ | refine S1 ?_ | refine S2 ?_ | refine S3 ?_ | refine S4 ?_ | refine S5 ?_ | refine S6 ?_ | refine S7 ?_ | refine S8 ?_))
    exact ⟨⟨_, rfl, rfl⟩, rfl, .nil _⟩
  | 0, x :: y :: l, h, _ => by simp at h
  | N + 1, x :: y :: l, h, hB => by
    obtain ⟨z, hz⟩ : ∃ z, z = x :: y :: l := ⟨_, rfl⟩
    rw [← hz] at h hB ⊢
    have h2 : 2 ≤ z.length := by rw [hz]; simp
    have h1 := Mk.half_lt h2
    have h0 := Mk.half_pos z.length
    have c1 := halves_fc z h2 hB
    have c2 := top_fc N (z.take (Mk.half z.length)) (by rw [List.length_take]; omega) (by rw [List.length_take]; omega)
    have c3 := top_fc N (z.drop (Mk.half z.length)) (by rw [List.length_drop]; omega) (by rw [List.length_drop]; omega)
    have c4 := join_fc (Mk.top (mI (z.take (Mk.half z.length)))) (Mk.top (mI (z.drop (Mk.half z.length))))
    rw [show Mk.top (mI z) = Dg.join (Mk.top (mI (z.take (Mk.half z.length)))) (Mk.top (mI (z.drop (Mk.half z.length)))) by rw [Mk.top_many _ (by rw [mI_len]; exact h2), mI_len, mI_take, mI_drop]]
    refine FC.of_AW tok Try.func59 (by kernel_rfl) rfl Try.ntmps59 [] rfl rfl rfl ?_; intro w0 X0 Y f0 hI0 hX0
    (repeat (first | refine K1 ?_ | refine K2 ?_ | refine K3 ?_ | refine K4 ?_ | refine K5 ?_ | refine K6 ?_ | refine K7 ?_ | refine L1 ?_ | refine L2 ?_ | refine L3 ?_ | refine RG.d ?_ | refine RG.dd ?_ | refine S1 ?_ | refine S2 ?_ | refine S3 ?_ | refine S4 ?_ | refine S5 ?_ | refine S7 ?_ | refine S8 ?_))
    refine AW.condD rfl (fun k => absurd (show (z.length : Int) = 0 from k) (by omega)) (fun _ => ?_)
    (repeat (first | refine K1 ?_ | refine K2 ?_ | refine K3 ?_ | refine K4 ?_ | refine K5 ?_ | refine K6 ?_ | refine K7 ?_ | refine L1 ?_ | refine L2 ?_ | refine L3 ?_ | refine RG.d ?_ | refine RG.dd ?_ | refine S1 ?_ | refine S2 ?_ | refine S3 ?_ | refine S4 ?_ | refine S5 ?_ | refine S7 ?_ | refine S8 ?_))
    refine AW.condD rfl (fun k => absurd (show (z.length : Int) = 1 from k) (by omega)) (fun _ => ?_)
    (repeat (first | refine RG.call rfl rfl rfl rfl (c1) [] rfl rfl rfl rfl (.nil _) (.nil _) (fun _ h => False.elim h) rfl (A.ren_free _ _ rfl) rfl ?_ | refine RG.call rfl rfl rfl rfl (c2) [] rfl rfl rfl rfl (.nil _) (.nil _) (fun _ h => False.elim h) rfl (A.ren_free _ _ rfl) rfl ?_ | refine RG.call rfl rfl rfl rfl (c3) [] rfl rfl rfl rfl (.nil _) (.nil _) (fun _ h => False.elim h) rfl (A.ren_free _ _ rfl) rfl ?_ | refine RG.call rfl rfl rfl rfl (c4) [] rfl rfl rfl rfl (.nil _) (.nil _) (fun _ h => False.elim h) rfl (A.ren_free _ _ rfl) rfl ?_ | refine K1 ?_ | refine K2 ?_ | refine K3 ?_ | refine K4 ?_ | refine K5 ?_ | refine K6 ?_ | refine K7 ?_ | refine L1 ?_ | refine L2 ?_ | refine L3 ?_ | refine RG.d ?_ | refine RG.dd ?_ | refine S1 ?_ | refine S2 ?_ | refine S3 ?_ | refine S4 ?_ | refine S5 ?_ | refine S7 ?_ | refine S8 ?_))
    (repeat (first | refine K1 ?_ | refine K2 ?_ | refine K3 ?_ | refine K4 ?_ | refine K5 ?_ | refine K6 ?_ | refine K7 ?_ | refine L1 ?_ | refine L2 ?_ | refine L3 ?_ | refine RG.d ?_ | refine RG.dd ?_ | refine S1 ?_ | refine S2 ?_ | refine S3 ?_ | refine S4 ?_ | refine S5 ?_ | refine S6 ?_ | refine S7 ?_ | refine S8 ?_))
    exact ⟨⟨_, rfl, rfl⟩, rfl, .nil _⟩
theorem root_fc (l : List (BitVec 64)) (hB : l.length ≤ BW) : FC Try.prog ge 30 [rdu l] [] (uA (Mk.root (mI l))) [] NoP := by
  have c1 := top_fc l.length l (Nat.le_refl _) hB
  have c2 := join_fc (Dg.B l.length) (Mk.top (mI l))
  rw [show Mk.root (mI l) = Dg.join (Dg.B l.length) (Mk.top (mI l)) by unfold Mk.root; rw [mI_len]]
  refine FC.of_AW tok Try.func30 (by kernel_rfl) rfl Try.ntmps30 [] rfl rfl rfl ?_; intro w0 X0 Y f0 hI0 hX0
  (repeat (first | refine K1 ?_ | refine K2 ?_ | refine K3 ?_ | refine K4 ?_ | refine K5 ?_ | refine K6 ?_ | refine K7 ?_ | refine L1 ?_ | refine L2 ?_ | refine L3 ?_ | refine RG.d ?_ | refine RG.dd ?_ | refine S1 ?_ | refine S2 ?_ | refine S3 ?_ | refine S4 ?_ | refine S5 ?_ | refine S7 ?_ | refine S8 ?_))
  refine RG.put 5 rfl (Option.some.inj (cvE (l.length : Int))) ?_
  (repeat (first | refine RG.call rfl rfl rfl rfl (c1) [] rfl rfl rfl rfl (.nil _) (.nil _) (fun _ h => False.elim h) rfl (A.ren_free _ _ rfl) rfl ?_ | refine RG.call rfl rfl rfl rfl (c2) [] rfl rfl rfl rfl (.nil _) (.nil _) (fun _ h => False.elim h) rfl (A.ren_free _ _ rfl) rfl ?_ | refine K1 ?_ | refine K2 ?_ | refine K3 ?_ | refine K4 ?_ | refine K5 ?_ | refine K6 ?_ | refine K7 ?_ | refine L1 ?_ | refine L2 ?_ | refine L3 ?_ | refine RG.d ?_ | refine RG.dd ?_ | refine S1 ?_ | refine S2 ?_ | refine S3 ?_ | refine S4 ?_ | refine S5 ?_ | refine S7 ?_ | refine S8 ?_))
  (repeat (first | refine K1 ?_ | refine K2 ?_ | refine K3 ?_ | refine K4 ?_ | refine K5 ?_ | refine K6 ?_ | refine K7 ?_ | refine L1 ?_ | refine L2 ?_ | refine L3 ?_ | refine RG.d ?_ | refine RG.dd ?_ | refine S1 ?_ | refine S2 ?_ | refine S3 ?_ | refine S4 ?_ | refine S5 ?_ | refine S6 ?_ | refine S7 ?_ | refine S8 ?_))
  exact ⟨⟨_, rfl, rfl⟩, rfl, .nil _⟩
end Go.Proofs.Ytmfccaidgaelcaa
