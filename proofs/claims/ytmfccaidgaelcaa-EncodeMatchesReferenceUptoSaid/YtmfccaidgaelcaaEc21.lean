/- Lists of digests compared; leaves of changed definitions. No conditions. -/
import Derived.Test.YtmfccaidgaelcaaEc15
import Derived.Test.YtmfccaidgaelcaaEc17
import Derived.Test.YtmfccaidgaelcaaAbsE
set_option linter.unusedVariables false
set_option linter.unusedSimpArgs false
namespace Go.Proofs.Ytmfccaidgaelcaa
open Go.Abs Go Go.RowKit
theorem uL_cut (l : List (BitVec 64)) (i : Nat) (x : BitVec 64) (h : l[i]? = some x) : dropO (iNat (i : Int) * 1) (uL l) = some (uA x :: uL (l.drop (i + 1))) := by
  have hi := (List.getElem?_eq_some_iff.1 h).1
  have hx := (List.getElem?_eq_some_iff.1 h).2
  have e : l = l.take i ++ x :: l.drop (i + 1) := by rw [← hx, List.getElem_cons_drop, List.take_append_drop]
  conv => lhs; rw [e, uL_app]
  rw [show iNat (i : Int) = i from rfl, Nat.mul_one, dropO_add _ _ _ (by rw [uL_len, List.length_take]; omega)]
  rfl
set_option maxHeartbeats 4000000 in
theorem same04_fc (a b : List (BitVec 64)) (ha : a.length ≤ BW) (hb : b.length ≤ BW) : FC Try.prog ge 17 [rdu a, rdu b] [] (.val (.bool (decide (a = b)))) [] NoP := by
  unfold BW at ha hb
  obtain ⟨r, hr⟩ : ∃ r, r = decide (a = b) := ⟨_, rfl⟩
  rw [← hr]
  by_cases hl : a.length = b.length
  · refine FC.of_AW tok Try.func17 (by kernel_rfl) rfl Try.ntmps17 [] rfl rfl rfl ?_; intro w0 X0 Y f0 hI0 hX0
    refine S1 ?_; (repeat (first | refine K1 ?_ | refine K2 ?_ | refine K3 ?_ | refine K4 ?_ | refine L1 ?_ | refine L2 ?_ | refine L3 ?_ | refine RG.d ?_ | refine RG.dd ?_ | refine S2 ?_ | refine S3 ?_ | refine S4 ?_ | refine S5 ?_ | refine S7 ?_ | refine S8 ?_))
    refine S1 ?_
    (repeat (first | refine K1 ?_ | refine K2 ?_ | refine K3 ?_ | refine K4 ?_ | refine L1 ?_ | refine L2 ?_ | refine L3 ?_ | refine RG.d ?_ | refine RG.dd ?_ | refine S1 ?_ | refine S2 ?_ | refine S3 ?_ | refine S4 ?_ | refine S5 ?_ | refine S7 ?_ | refine S8 ?_))
    refine AW.condD rfl (fun k => absurd (show (a.length : Int) = b.length by omega) k) (fun _ => ?_)
    refine S3 ?_
    refine AW.seqJ (fun _ : Unit => ⟨noE, noH, 0⟩) (fun _ => a = b) ?_ ?_
    · refine S1 ?_; (repeat (first | refine K1 ?_ | refine K2 ?_ | refine K3 ?_ | refine K4 ?_ | refine L1 ?_ | refine L2 ?_ | refine L3 ?_ | refine RG.d ?_ | refine RG.dd ?_ | refine S2 ?_ | refine S3 ?_ | refine S4 ?_ | refine S5 ?_ | refine S7 ?_ | refine S8 ?_))
      refine AW.loopS (fun i : Nat => ⟨put 0 (some (rdu a)) (put 1 (some (rdu b)) (put 5 (some (i64 (i : Int))) noE)), noH, 0⟩) (fun i => i ≤ a.length ∧ a.take i = b.take i) (fun i => a.length - i) 0 ⟨Nat.zero_le _, by simp⟩ (Sub.of (by repeat (first | exact SubE.no _ | refine SubE.put rfl ?_)) (by repeat (first | exact SubH.no _ | refine SubH.put rfl ?_)) rfl) ?_
      rintro i ⟨hi, he⟩
      (repeat (first | refine K1 ?_ | refine K2 ?_ | refine K3 ?_ | refine K4 ?_ | refine L1 ?_ | refine L2 ?_ | refine L3 ?_ | refine RG.d ?_ | refine RG.dd ?_ | refine S1 ?_ | refine S2 ?_ | refine S3 ?_ | refine S4 ?_ | refine S5 ?_ | refine S7 ?_ | refine S8 ?_))
      refine AW.condD rfl (fun k => ?_) (fun k => ?_)
      rotate_left
      · have hi2 : i = a.length := by
          have : ¬ (i : Int) < (a.length : Int) := k
          omega
        (repeat (first | refine K1 ?_ | refine K2 ?_ | refine K3 ?_ | refine K4 ?_ | refine L1 ?_ | refine L2 ?_ | refine L3 ?_ | refine RG.d ?_ | refine RG.dd ?_ | refine S1 ?_ | refine S2 ?_ | refine S3 ?_ | refine S4 ?_ | refine S5 ?_ | refine S7 ?_ | refine S8 ?_))
        rw [hi2, List.take_length, hl, List.take_length] at he
        exact ⟨(), he, Sub.of (by repeat (first | exact SubE.no _ | refine SubE.put rfl ?_)) (by repeat (first | exact SubH.no _ | refine SubH.put rfl ?_)) rfl⟩
      have hi2 : i < a.length := by
        have : (i : Int) < (a.length : Int) := k
        omega
      obtain ⟨x, hx⟩ : ∃ x, a[i]? = some x := ⟨_, List.getElem?_eq_getElem hi2⟩
      obtain ⟨y, hy⟩ : ∃ y, b[i]? = some y := ⟨_, List.getElem?_eq_getElem (by omega)⟩
      have hatx := uL_cut a i x hx
      have haty := uL_cut b i y hy
      refine S3 ?_
      repeat (first | refine S1 ?_ | refine S4 ?_)
      refine S2 ?_
      (first | refine K1 ?_ | refine K2 ?_ | refine K3 ?_ | refine K4 ?_ | refine L1 ?_ | refine L2 ?_ | refine L3 ?_)
      (first | refine K1 ?_ | refine K2 ?_ | refine K3 ?_ | refine K4 ?_ | refine L1 ?_ | refine L2 ?_ | refine L3 ?_)
      refine RG.idx tok rfl rfl rfl rfl rfl rfl hatx ⟨by omega, by omega⟩ rfl ?_
      (first | refine K1 ?_ | refine K2 ?_ | refine K3 ?_ | refine K4 ?_ | refine L1 ?_ | refine L2 ?_ | refine L3 ?_)
      (first | refine K1 ?_ | refine K2 ?_ | refine K3 ?_ | refine K4 ?_ | refine L1 ?_ | refine L2 ?_ | refine L3 ?_)
      (first | refine K1 ?_ | refine K2 ?_ | refine K3 ?_ | refine K4 ?_ | refine L1 ?_ | refine L2 ?_ | refine L3 ?_)
      refine RG.idx tok rfl rfl rfl rfl rfl rfl haty ⟨by omega, by omega⟩ rfl ?_
      (repeat (first | refine K1 ?_ | refine K2 ?_ | refine K3 ?_ | refine K4 ?_ | refine L1 ?_ | refine L2 ?_ | refine L3 ?_ | refine RG.d ?_ | refine RG.dd ?_ | refine S1 ?_ | refine S2 ?_ | refine S3 ?_ | refine S4 ?_ | refine S5 ?_ | refine S7 ?_ | refine S8 ?_))
      refine AW.condD rfl (fun k2 => ?_) (fun k2 => ?_)
      · have k2' : x ≠ y := fun h => (show ¬ (x.toNat : Int) = (y.toNat : Int) from k2) (by rw [h])
        have e : r = false := by
          rw [hr, decide_eq_false_iff_not]
          rintro rfl
          rw [hx] at hy
          exact k2' (Option.some.inj hy)
        rw [e]
        (repeat (first | refine K1 ?_ | refine K2 ?_ | refine K3 ?_ | refine K4 ?_ | refine L1 ?_ | refine L2 ?_ | refine L3 ?_ | refine RG.d ?_ | refine RG.dd ?_ | refine S1 ?_ | refine S2 ?_ | refine S3 ?_ | refine S4 ?_ | refine S5 ?_ | refine S6 ?_ | refine S7 ?_ | refine S8 ?_))
        exact ⟨⟨_, rfl, rfl⟩, rfl, .nil _⟩
      · have k2' : x = y := by
          by_cases h : (x.toNat : Int) = (y.toNat : Int)
          · exact BitVec.eq_of_toNat_eq (by omega)
          · exact absurd (show (x.toNat : Int) ≠ (y.toNat : Int) from h) k2
        (repeat (first | refine K1 ?_ | refine K2 ?_ | refine K3 ?_ | refine K4 ?_ | refine L1 ?_ | refine L2 ?_ | refine L3 ?_ | refine RG.d ?_ | refine RG.dd ?_ | refine S1 ?_ | refine S2 ?_ | refine S3 ?_ | refine S4 ?_ | refine S5 ?_ | refine S7 ?_ | refine S8 ?_))
        exact ⟨i + 1, ⟨by omega, by rw [List.take_add_one, List.take_add_one, hx, hy, he, k2']⟩, by show a.length - (i + 1) < a.length - i; omega, Sub.of (by repeat (first | exact SubE.no _ | refine SubE.put rfl ?_)) (by repeat (first | exact SubH.no _ | refine SubH.put rfl ?_)) rfl⟩
    intro _ he
    have e : r = true := by rw [hr, decide_eq_true_iff]; exact he
    rw [e]
    (repeat (first | refine K1 ?_ | refine K2 ?_ | refine K3 ?_ | refine K4 ?_ | refine L1 ?_ | refine L2 ?_ | refine L3 ?_ | refine RG.d ?_ | refine RG.dd ?_ | refine S1 ?_ | refine S2 ?_ | refine S3 ?_ | refine S4 ?_ | refine S5 ?_ | refine S6 ?_ | refine S7 ?_ | refine S8 ?_))
    exact ⟨⟨_, rfl, rfl⟩, rfl, .nil _⟩
  · have e : r = false := by
      rw [hr, decide_eq_false_iff_not]
      rintro rfl
      exact hl rfl
    rw [e]
    refine FC.of_AW tok Try.func17 (by kernel_rfl) rfl Try.ntmps17 [] rfl rfl rfl ?_; intro w0 X0 Y f0 hI0 hX0
    (repeat (first | refine K1 ?_ | refine K2 ?_ | refine K3 ?_ | refine K4 ?_ | refine L1 ?_ | refine L2 ?_ | refine L3 ?_ | refine RG.d ?_ | refine RG.dd ?_ | refine S1 ?_ | refine S2 ?_ | refine S3 ?_ | refine S4 ?_ | refine S5 ?_ | refine S7 ?_ | refine S8 ?_))
    refine AW.condD rfl (fun _ => ?_) (fun k => absurd (show ¬ (a.length : Int) = b.length by omega) k)
    (repeat (first | refine K1 ?_ | refine K2 ?_ | refine K3 ?_ | refine K4 ?_ | refine L1 ?_ | refine L2 ?_ | refine L3 ?_ | refine RG.d ?_ | refine RG.dd ?_ | refine S1 ?_ | refine S2 ?_ | refine S3 ?_ | refine S4 ?_ | refine S5 ?_ | refine S6 ?_ | refine S7 ?_ | refine S8 ?_))
    exact ⟨⟨_, rfl, rfl⟩, rfl, .nil _⟩
end Go.Proofs.Ytmfccaidgaelcaa
