/- The reference's leaves and commitments. No conditions. -/
import Derived.Test.YtmfccaidgaelcaaEc24
set_option linter.unusedVariables false
set_option linter.unusedSimpArgs false
namespace Go.Proofs.Ytmfccaidgaelcaa
open Go.Abs Go Go.RowKit
theorem rstep_fc (h w : BitVec 64) : FC Try.prog ge 87 [uA h, uA w] [] (uA (Dg.step h w)) [] NoP := by
  refine FC.of_AW tok Try.func87 (by kernel_rfl) rfl Try.ntmps87 [] rfl rfl rfl ?_; intro w0 X0 Y f0 hI0 hX0
  refine S1 ?_; (repeat (first | refine K1 ?_ | refine K2 ?_ | refine K3 ?_ | refine K4 ?_ | refine K5 ?_ | refine K6 ?_ | refine K7 ?_ | refine L1 ?_ | refine L2 ?_ | refine L3 ?_ | refine RG.d ?_ | refine RG.dd ?_ | refine S2 ?_ | refine S3 ?_ | refine S4 ?_ | refine S5 ?_ | refine S7 ?_ | refine S8 ?_))
  refine S1 ?_
  refine S2 ?_
  (first | refine K1 ?_ | refine K2 ?_ | refine K3 ?_ | refine K4 ?_ | refine K5 ?_ | refine K6 ?_ | refine K7 ?_ | refine L1 ?_ | refine L2 ?_ | refine L3 ?_)
  (first | refine K1 ?_ | refine K2 ?_ | refine K3 ?_ | refine K4 ?_ | refine K5 ?_ | refine K6 ?_ | refine K7 ?_ | refine L1 ?_ | refine L2 ?_ | refine L3 ?_)
  refine RG.val tok rfl rfl rfl trivial rfl (xorE h w) ?_
  (repeat (first | refine K1 ?_ | refine K2 ?_ | refine K3 ?_ | refine K4 ?_ | refine K5 ?_ | refine K6 ?_ | refine K7 ?_ | refine L1 ?_ | refine L2 ?_ | refine L3 ?_ | refine RG.d ?_ | refine RG.dd ?_ | refine S2 ?_ | refine S3 ?_ | refine S4 ?_ | refine S5 ?_ | refine S7 ?_ | refine S8 ?_))
  refine S1 ?_
  refine S2 ?_
  (first | refine K1 ?_ | refine K2 ?_ | refine K3 ?_ | refine K4 ?_ | refine K5 ?_ | refine K6 ?_ | refine K7 ?_ | refine L1 ?_ | refine L2 ?_ | refine L3 ?_)
  refine RG.val tok rfl rfl rfl trivial rfl (mulE (h ^^^ w) Dg.mulA 11400714819323198485 rfl) ?_
  obtain ⟨x, hx⟩ : ∃ x, x = (h ^^^ w) * Dg.mulA := ⟨_, rfl⟩
  rw [show Dg.step h w = (x ^^^ x >>> 29) * Dg.mulB ^^^ ((x ^^^ x >>> 29) * Dg.mulB) >>> 32 by rw [hx]; rfl, ← hx]
  (repeat (first | refine K1 ?_ | refine K2 ?_ | refine K3 ?_ | refine K4 ?_ | refine K5 ?_ | refine K6 ?_ | refine K7 ?_ | refine L1 ?_ | refine L2 ?_ | refine L3 ?_ | refine RG.d ?_ | refine RG.dd ?_ | refine S2 ?_ | refine S3 ?_ | refine S4 ?_ | refine S5 ?_ | refine S7 ?_ | refine S8 ?_))
  refine S1 ?_
  refine S2 ?_
  (first | refine K1 ?_ | refine K2 ?_ | refine K3 ?_ | refine K4 ?_ | refine K5 ?_ | refine K6 ?_ | refine K7 ?_ | refine L1 ?_ | refine L2 ?_ | refine L3 ?_)
  (first | refine K1 ?_ | refine K2 ?_ | refine K3 ?_ | refine K4 ?_ | refine K5 ?_ | refine K6 ?_ | refine K7 ?_ | refine L1 ?_ | refine L2 ?_ | refine L3 ?_)
  refine RG.val tok rfl rfl rfl (show (0 : Int) ≤ 29 by decide) rfl (shrE x 29 (by decide)) ?_
  refine RG.val tok rfl rfl rfl trivial rfl (xorE x (x >>> 29)) ?_
  (repeat (first | refine K1 ?_ | refine K2 ?_ | refine K3 ?_ | refine K4 ?_ | refine K5 ?_ | refine K6 ?_ | refine K7 ?_ | refine L1 ?_ | refine L2 ?_ | refine L3 ?_ | refine RG.d ?_ | refine RG.dd ?_ | refine S2 ?_ | refine S3 ?_ | refine S4 ?_ | refine S5 ?_ | refine S7 ?_ | refine S8 ?_))
  refine S1 ?_
  refine S2 ?_
  (first | refine K1 ?_ | refine K2 ?_ | refine K3 ?_ | refine K4 ?_ | refine K5 ?_ | refine K6 ?_ | refine K7 ?_ | refine L1 ?_ | refine L2 ?_ | refine L3 ?_)
  refine RG.val tok rfl rfl rfl trivial rfl (mulE (x ^^^ x >>> 29) Dg.mulB 13787848793156543929 rfl) ?_
  obtain ⟨y, hy⟩ : ∃ y, y = (x ^^^ x >>> 29) * Dg.mulB := ⟨_, rfl⟩
  rw [← hy]
  (repeat (first | refine K1 ?_ | refine K2 ?_ | refine K3 ?_ | refine K4 ?_ | refine K5 ?_ | refine K6 ?_ | refine K7 ?_ | refine L1 ?_ | refine L2 ?_ | refine L3 ?_ | refine RG.d ?_ | refine RG.dd ?_ | refine S2 ?_ | refine S3 ?_ | refine S4 ?_ | refine S5 ?_ | refine S7 ?_ | refine S8 ?_))
  refine S1 ?_
  refine S2 ?_
  (first | refine K1 ?_ | refine K2 ?_ | refine K3 ?_ | refine K4 ?_ | refine K5 ?_ | refine K6 ?_ | refine K7 ?_ | refine L1 ?_ | refine L2 ?_ | refine L3 ?_)
  (first | refine K1 ?_ | refine K2 ?_ | refine K3 ?_ | refine K4 ?_ | refine K5 ?_ | refine K6 ?_ | refine K7 ?_ | refine L1 ?_ | refine L2 ?_ | refine L3 ?_)
  refine RG.val tok rfl rfl rfl (show (0 : Int) ≤ 32 by decide) rfl (shrE y 32 (by decide)) ?_
  refine RG.val tok rfl rfl rfl trivial rfl (xorE y (y >>> 32)) ?_
  (repeat (first | refine K1 ?_ | refine K2 ?_ | refine K3 ?_ | refine K4 ?_ | refine K5 ?_ | refine K6 ?_ | refine K7 ?_ | refine L1 ?_ | refine L2 ?_ | refine L3 ?_ | refine RG.d ?_ | refine RG.dd ?_ | refine S1 ?_ | refine S2 ?_ | refine S3 ?_ | refine S4 ?_ | refine S5 ?_ | refine S6 ?_ | refine S7 ?_ | refine S8 ?_))
  exact ⟨⟨_, rfl, rfl⟩, rfl, .nil _⟩
theorem rwords_fc (l : List Int) (hl : l.length ≤ BW) : FC Try.prog ge 47 [rdi l] [] (uA (Dg.words l)) [] NoP := by
  unfold BW at hl
  have c0 := rstep_fc 2611923443488327891#64 (Dg.B l.length)
  obtain ⟨W, hW⟩ : ∃ W, W = Dg.words l := ⟨_, rfl⟩
  rw [← hW]
  refine FC.of_AW tok Try.func47 (by kernel_rfl) rfl Try.ntmps47 [] rfl rfl rfl ?_; intro w0 X0 Y f0 hI0 hX0
  refine S1 ?_; (repeat (first | refine K1 ?_ | refine K2 ?_ | refine K3 ?_ | refine K4 ?_ | refine K5 ?_ | refine K6 ?_ | refine K7 ?_ | refine L1 ?_ | refine L2 ?_ | refine L3 ?_ | refine RG.d ?_ | refine RG.dd ?_ | refine S2 ?_ | refine S3 ?_ | refine S4 ?_ | refine S5 ?_ | refine S7 ?_ | refine S8 ?_))
  refine S1 ?_
  refine S2 ?_
  (first | refine K1 ?_ | refine K2 ?_ | refine K3 ?_ | refine K4 ?_ | refine K5 ?_ | refine K6 ?_ | refine K7 ?_ | refine L1 ?_ | refine L2 ?_ | refine L3 ?_)
  (first | refine K1 ?_ | refine K2 ?_ | refine K3 ?_ | refine K4 ?_ | refine K5 ?_ | refine K6 ?_ | refine K7 ?_ | refine L1 ?_ | refine L2 ?_ | refine L3 ?_)
  refine RG.val tok rfl rfl rfl trivial rfl (cvE (l.length : Int)) ?_
  refine RG.call rfl rfl rfl rfl (c0) [] rfl rfl rfl rfl (.nil _) (.nil _) (fun _ h => False.elim h) rfl (A.ren_free _ _ rfl) rfl ?_
  (repeat (first | refine K1 ?_ | refine K2 ?_ | refine K3 ?_ | refine K4 ?_ | refine K5 ?_ | refine K6 ?_ | refine K7 ?_ | refine L1 ?_ | refine L2 ?_ | refine L3 ?_ | refine RG.d ?_ | refine RG.dd ?_ | refine S2 ?_ | refine S3 ?_ | refine S4 ?_ | refine S5 ?_ | refine S7 ?_ | refine S8 ?_))
  refine AW.seqJ (fun _ : Unit => ⟨put 3 (some (uA W)) noE, noH, 0⟩) (fun _ => True) ?_ ?_
  · refine S1 ?_; (repeat (first | refine K1 ?_ | refine K2 ?_ | refine K3 ?_ | refine K4 ?_ | refine K5 ?_ | refine K6 ?_ | refine K7 ?_ | refine L1 ?_ | refine L2 ?_ | refine L3 ?_ | refine RG.d ?_ | refine RG.dd ?_ | refine S2 ?_ | refine S3 ?_ | refine S4 ?_ | refine S5 ?_ | refine S7 ?_ | refine S8 ?_))
    refine AW.loopS (fun i : Nat => ⟨put 0 (some (rdi l)) (put 3 (some (uA (Dg.fold (Dg.step 2611923443488327891#64 (Dg.B l.length)) (l.take i)))) (put 4 (some (i64 (i : Int))) noE)), noH, 0⟩)
      (fun i => i ≤ l.length) (fun i => l.length - i) 0 (Nat.zero_le _) (Sub.of (by repeat (first | exact SubE.no _ | refine SubE.put rfl ?_)) (by repeat (first | exact SubH.no _ | refine SubH.put rfl ?_)) rfl) ?_
    intro i hi
    (repeat (first | refine K1 ?_ | refine K2 ?_ | refine K3 ?_ | refine K4 ?_ | refine K5 ?_ | refine K6 ?_ | refine K7 ?_ | refine L1 ?_ | refine L2 ?_ | refine L3 ?_ | refine RG.d ?_ | refine RG.dd ?_ | refine S1 ?_ | refine S2 ?_ | refine S3 ?_ | refine S4 ?_ | refine S5 ?_ | refine S7 ?_ | refine S8 ?_))
    refine AW.condD rfl (fun k => ?_) (fun k => ?_)
    rotate_left
    · have hi2 : i = l.length := by
        have : ¬ (i : Int) < (l.length : Int) := k
        omega
      rw [hi2, List.take_length, ← Dg.words_fold, ← hW]
      (repeat (first | refine K1 ?_ | refine K2 ?_ | refine K3 ?_ | refine K4 ?_ | refine K5 ?_ | refine K6 ?_ | refine K7 ?_ | refine L1 ?_ | refine L2 ?_ | refine L3 ?_ | refine RG.d ?_ | refine RG.dd ?_ | refine S1 ?_ | refine S2 ?_ | refine S3 ?_ | refine S4 ?_ | refine S5 ?_ | refine S7 ?_ | refine S8 ?_))
      exact ⟨(), trivial, Sub.of (by repeat (first | exact SubE.no _ | refine SubE.put rfl ?_)) (by repeat (first | exact SubH.no _ | refine SubH.put rfl ?_)) rfl⟩
    have hi2 : i < l.length := by
      have : (i : Int) < (l.length : Int) := k
      omega
    obtain ⟨x, hx⟩ : ∃ x, l[i]? = some x := ⟨_, List.getElem?_eq_getElem hi2⟩
    have cx := rstep_fc (Dg.fold (Dg.step 2611923443488327891#64 (Dg.B l.length)) (l.take i)) (Dg.B x)
    rw [show Dg.step (Dg.fold (Dg.step 2611923443488327891#64 (Dg.B l.length)) (l.take i)) (Dg.B x) = Dg.fold (Dg.step 2611923443488327891#64 (Dg.B l.length)) (l.take (i + 1)) by rw [take_snoc l i x hx, Dg.fold_append]; rfl] at cx
    have hgx : l.getD i 0 = x := by simp [List.getD, hx]
    (repeat (first | refine K1 ?_ | refine K2 ?_ | refine K3 ?_ | refine K4 ?_ | refine K5 ?_ | refine K6 ?_ | refine K7 ?_ | refine L1 ?_ | refine L2 ?_ | refine L3 ?_ | refine RG.d ?_ | refine RG.dd ?_ | refine S1 ?_ | refine S2 ?_ | refine S3 ?_ | refine S4 ?_ | refine S5 ?_ | refine S7 ?_ | refine S8 ?_))
    refine RG.put 20 rfl (v' := uA (Dg.B x)) (by rw [hgx]; exact Option.some.inj (cvE x)) ?_
    (repeat (first | refine RG.call rfl rfl rfl rfl (cx) [] rfl rfl rfl rfl (.nil _) (.nil _) (fun _ h => False.elim h) rfl (A.ren_free _ _ rfl) rfl ?_ | refine K1 ?_ | refine K2 ?_ | refine K3 ?_ | refine K4 ?_ | refine K5 ?_ | refine K6 ?_ | refine K7 ?_ | refine L1 ?_ | refine L2 ?_ | refine L3 ?_ | refine RG.d ?_ | refine RG.dd ?_ | refine S1 ?_ | refine S2 ?_ | refine S3 ?_ | refine S4 ?_ | refine S5 ?_ | refine S7 ?_ | refine S8 ?_))
    exact ⟨i + 1, by show i + 1 ≤ l.length; omega, by show l.length - (i + 1) < l.length - i; omega, Sub.of (by repeat (first | exact SubE.no _ | refine SubE.put rfl ?_)) (by repeat (first | exact SubH.no _ | refine SubH.put rfl ?_)) rfl⟩
  intro _ _
  (repeat (first | refine K1 ?_ | refine K2 ?_ | refine K3 ?_ | refine K4 ?_ | refine K5 ?_ | refine K6 ?_ | refine K7 ?_ | refine L1 ?_ | refine L2 ?_ | refine L3 ?_ | refine RG.d ?_ | refine RG.dd ?_ | refine S1 ?_ | refine S2 ?_ | refine S3 ?_ | refine S4 ?_ | refine S5 ?_ | refine S6 ?_ | refine S7 ?_ | refine S8 ?_))
  exact ⟨⟨_, rfl, rfl⟩, rfl, .nil _⟩
theorem rjoin_fc (a b : BitVec 64) : FC Try.prog ge 88 [uA a, uA b] [] (uA (Dg.join a b)) [] NoP := by
  have c1 := rstep_fc 11820040416388919760#64 a
  have c2 := rstep_fc (Dg.step 11820040416388919760#64 a) b
  refine FC.of_AW tok Try.func88 (by kernel_rfl) rfl Try.ntmps88 [] rfl rfl rfl ?_; intro w0 X0 Y f0 hI0 hX0
  (repeat (first | refine RG.call rfl rfl rfl rfl (c1) [] rfl rfl rfl rfl (.nil _) (.nil _) (fun _ h => False.elim h) rfl (A.ren_free _ _ rfl) rfl ?_ | refine RG.call rfl rfl rfl rfl (c2) [] rfl rfl rfl rfl (.nil _) (.nil _) (fun _ h => False.elim h) rfl (A.ren_free _ _ rfl) rfl ?_ | refine K1 ?_ | refine K2 ?_ | refine K3 ?_ | refine K4 ?_ | refine K5 ?_ | refine K6 ?_ | refine K7 ?_ | refine L1 ?_ | refine L2 ?_ | refine L3 ?_ | refine RG.d ?_ | refine RG.dd ?_ | refine S1 ?_ | refine S2 ?_ | refine S3 ?_ | refine S4 ?_ | refine S5 ?_ | refine S7 ?_ | refine S8 ?_))
  (repeat (first | refine K1 ?_ | refine K2 ?_ | refine K3 ?_ | refine K4 ?_ | refine K5 ?_ | refine K6 ?_ | refine K7 ?_ | refine L1 ?_ | refine L2 ?_ | refine L3 ?_ | refine RG.d ?_ | refine RG.dd ?_ | refine S1 ?_ | refine S2 ?_ | refine S3 ?_ | refine S4 ?_ | refine S5 ?_ | refine S6 ?_ | refine S7 ?_ | refine S8 ?_))
  exact ⟨⟨_, rfl, rfl⟩, rfl, .nil _⟩
set_option maxHeartbeats 4000000 in
theorem rhalf_fc (n : Nat) (h2 : 2 ≤ n) (hB : n ≤ BW) : FC Try.prog ge 112 [i64 (n : Int)] [] (i64 (Mk.half n : Int)) [] NoP := by
  unfold BW at hB
  obtain ⟨hf, hhf⟩ : ∃ h, h = Mk.half n := ⟨_, rfl⟩
  have hlt := Mk.half_lt h2
  rw [← hhf] at hlt ⊢
  refine FC.of_AW tok Try.func112 (by kernel_rfl) rfl Try.ntmps112 [] rfl rfl rfl ?_; intro w0 X0 Y f0 hI0 hX0
  refine S1 ?_; (repeat (first | refine K1 ?_ | refine K2 ?_ | refine K3 ?_ | refine K4 ?_ | refine K5 ?_ | refine K6 ?_ | refine K7 ?_ | refine L1 ?_ | refine L2 ?_ | refine L3 ?_ | refine RG.d ?_ | refine RG.dd ?_ | refine S2 ?_ | refine S3 ?_ | refine S4 ?_ | refine S5 ?_ | refine S7 ?_ | refine S8 ?_)); refine S1 ?_; (repeat (first | refine K1 ?_ | refine K2 ?_ | refine K3 ?_ | refine K4 ?_ | refine K5 ?_ | refine K6 ?_ | refine K7 ?_ | refine L1 ?_ | refine L2 ?_ | refine L3 ?_ | refine RG.d ?_ | refine RG.dd ?_ | refine S2 ?_ | refine S3 ?_ | refine S4 ?_ | refine S5 ?_ | refine S7 ?_ | refine S8 ?_))
  refine AW.seqJ (fun _ : Unit => ⟨put 3 (some (i64 (hf : Int))) noE, noH, 0⟩) (fun _ => True) ?_ ?_
  · first | refine S4 ?_ | skip
    refine AW.loopS (fun k : Nat => ⟨put 0 (some (i64 (n : Int))) (put 3 (some (i64 (k : Int))) noE), noH, 0⟩) (fun k => (∃ e, k = 2 ^ e) ∧ k < n) (fun k => n - k) 1 ⟨⟨0, rfl⟩, by omega⟩ (Sub.of (by repeat (first | exact SubE.no _ | refine SubE.put rfl ?_)) (by repeat (first | exact SubH.no _ | refine SubH.put rfl ?_)) rfl) ?_
    rintro k ⟨⟨e, he⟩, hk⟩
    have hk0 : 1 ≤ k := by rw [he]; exact Nat.one_le_two_pow
    (repeat (first | refine K1 ?_ | refine K2 ?_ | refine K3 ?_ | refine K4 ?_ | refine K5 ?_ | refine K6 ?_ | refine K7 ?_ | refine L1 ?_ | refine L2 ?_ | refine L3 ?_ | refine RG.d ?_ | refine RG.dd ?_ | refine S1 ?_ | refine S2 ?_ | refine S3 ?_ | refine S4 ?_ | refine S5 ?_ | refine S7 ?_ | refine S8 ?_))
    refine AW.condD rfl (fun hc => ?_) (fun hc => ?_)
    · have hc2 : 2 * k < n := by
        have : (2 : Int) * (k : Int) < (n : Int) := hc
        omega
      (repeat (first | refine K1 ?_ | refine K2 ?_ | refine K3 ?_ | refine K4 ?_ | refine K5 ?_ | refine K6 ?_ | refine K7 ?_ | refine L1 ?_ | refine L2 ?_ | refine L3 ?_ | refine RG.d ?_ | refine RG.dd ?_ | refine S1 ?_ | refine S2 ?_ | refine S3 ?_ | refine S4 ?_ | refine S5 ?_ | refine S7 ?_ | refine S8 ?_))
      rw [show 2 * (k : Int) = ((2 * k : Nat) : Int) by omega]
      exact ⟨2 * k, ⟨⟨e + 1, by rw [he, Nat.pow_succ, Nat.mul_comm]⟩, hc2⟩, by omega, Sub.of (by repeat (first | exact SubE.no _ | refine SubE.put rfl ?_)) (by repeat (first | exact SubH.no _ | refine SubH.put rfl ?_)) rfl⟩
    · have hc2 : n ≤ 2 * k := by
        have : ¬ (2 : Int) * (k : Int) < (n : Int) := hc
        omega
      have hkh := Mk.half_unique he hk hc2
      rw [← hhf] at hkh
      subst hkh
      (repeat (first | refine K1 ?_ | refine K2 ?_ | refine K3 ?_ | refine K4 ?_ | refine K5 ?_ | refine K6 ?_ | refine K7 ?_ | refine L1 ?_ | refine L2 ?_ | refine L3 ?_ | refine RG.d ?_ | refine RG.dd ?_ | refine S1 ?_ | refine S2 ?_ | refine S3 ?_ | refine S4 ?_ | refine S5 ?_ | refine S7 ?_ | refine S8 ?_))
      exact ⟨(), trivial, Sub.of (by repeat (first | exact SubE.no _ | refine SubE.put rfl ?_)) (by repeat (first | exact SubH.no _ | refine SubH.put rfl ?_)) rfl⟩
  intro _ _
  (repeat (first | refine K1 ?_ | refine K2 ?_ | refine K3 ?_ | refine K4 ?_ | refine K5 ?_ | refine K6 ?_ | refine K7 ?_ | refine L1 ?_ | refine L2 ?_ | refine L3 ?_ | refine RG.d ?_ | refine RG.dd ?_ | refine S1 ?_ | refine S2 ?_ | refine S3 ?_ | refine S4 ?_ | refine S5 ?_ | refine S6 ?_ | refine S7 ?_ | refine S8 ?_))
  exact ⟨⟨_, rfl, rfl⟩, rfl, .nil _⟩
set_option maxHeartbeats 4000000 in
theorem rtop_fc : ∀ (N : Nat) (l : List (BitVec 64)), l.length ≤ N → l.length ≤ BW → FC Try.prog ge 89 [rdu l] [] (uA (Mk.top (mI l))) [] NoP
  | N, [], _, _ => by
    refine FC.of_AW tok Try.func89 (by kernel_rfl) rfl Try.ntmps89 [] rfl rfl rfl ?_; intro w0 X0 Y f0 hI0 hX0
    (repeat (first | refine K1 ?_ | refine K2 ?_ | refine K3 ?_ | refine K4 ?_ | refine K5 ?_ | refine K6 ?_ | refine K7 ?_ | refine L1 ?_ | refine L2 ?_ | refine L3 ?_ | refine RG.d ?_ | refine RG.dd ?_ | refine S1 ?_ | refine S2 ?_ | refine S3 ?_ | refine S4 ?_ | refine S5 ?_ | refine S6 ?_ | refine S7 ?_ | refine S8 ?_))
    exact ⟨⟨_, rfl, rfl⟩, rfl, .nil _⟩
  | N, [x], _, _ => by
    have c := rjoin_fc 0#64 x
    rw [show Mk.top (mI [x]) = Dg.join 0#64 x by rw [show mI [x] = [Mk.I x] from rfl, Mk.top_one, Mk.B_I]]
    refine FC.of_AW tok Try.func89 (by kernel_rfl) rfl Try.ntmps89 [] rfl rfl rfl ?_; intro w0 X0 Y f0 hI0 hX0
    (repeat (first | refine K1 ?_ | refine K2 ?_ | refine K3 ?_ | refine K4 ?_ | refine K5 ?_ | refine K6 ?_ | refine K7 ?_ | refine L1 ?_ | refine L2 ?_ | refine L3 ?_ | refine RG.d ?_ | refine RG.dd ?_ | refine S1 ?_ | refine S2 ?_ | refine S3 ?_ | refine S4 ?_ | refine S5 ?_ | refine S7 ?_ | refine S8 ?_))
    refine RG.idx tok rfl rfl rfl rfl rfl rfl (show dropO (0 * 1) (uL [x]) = some [uA x] from rfl) ⟨by decide, by simp⟩ rfl ?_
    (repeat (first | refine RG.call rfl rfl rfl rfl (c) [] rfl rfl rfl rfl (.nil _) (.nil _) (fun _ h => False.elim h) rfl (A.ren_free _ _ rfl) rfl ?_ | refine K1 ?_ | refine K2 ?_ | refine K3 ?_ | refine K4 ?_ | refine K5 ?_ | refine K6 ?_ | refine K7 ?_ | refine L1 ?_ | refine L2 ?_ | refine L3 ?_ | refine RG.d ?_ | refine RG.dd ?_ | refine S1 ?_ | refine S2 ?_ | refine S3 ?_ | refine S4 ?_ | refine S5 ?_ | refine S7 ?_ | refine S8 ?_))
    (repeat (first | refine K1 ?_ | refine K2 ?_ | refine K3 ?_ | refine K4 ?_ | refine K5 ?_ | refine K6 ?_ | refine K7 ?_ | refine L1 ?_ | refine L2 ?_ | refine L3 ?_ | refine RG.d ?_ | refine RG.dd ?_ | refine S1 ?_ | refine S2 ?_ | refine S3 ?_ | refine S4 ?_ | refine S5 ?_ | refine S6 ?_ | refine S7 ?_ | refine S8 ?_))
    exact ⟨⟨_, rfl, rfl⟩, rfl, .nil _⟩
  | 0, x :: y :: l, h, _ => by simp at h
  | N + 1, x :: y :: l, h, hB => by
    obtain ⟨z, hz⟩ : ∃ z, z = x :: y :: l := ⟨_, rfl⟩
    rw [← hz] at h hB ⊢
    have h2 : 2 ≤ z.length := by rw [hz]; simp
    have h1 := Mk.half_lt h2
    have h0 := Mk.half_pos z.length
    have c1 := rhalf_fc z.length h2 hB
    have c2 := rtop_fc N (z.take (Mk.half z.length)) (by rw [List.length_take]; omega) (by rw [List.length_take]; omega)
    have c3 := rtop_fc N (z.drop (Mk.half z.length)) (by rw [List.length_drop]; omega) (by rw [List.length_drop]; omega)
    have c4 := rjoin_fc (Mk.top (mI (z.take (Mk.half z.length)))) (Mk.top (mI (z.drop (Mk.half z.length))))
    rw [show Mk.top (mI z) = Dg.join (Mk.top (mI (z.take (Mk.half z.length)))) (Mk.top (mI (z.drop (Mk.half z.length)))) by rw [Mk.top_many _ (by rw [mI_len]; exact h2), mI_len, mI_take, mI_drop]]
    obtain ⟨hf, hhf⟩ : ∃ h, h = Mk.half z.length := ⟨_, rfl⟩
    rw [← hhf] at c1 c2 c3 c4 h1 h0 ⊢
    unfold BW at hB
    refine FC.of_AW tok Try.func89 (by kernel_rfl) rfl Try.ntmps89 [] rfl rfl rfl ?_; intro w0 X0 Y f0 hI0 hX0
    (repeat (first | refine K1 ?_ | refine K2 ?_ | refine K3 ?_ | refine K4 ?_ | refine K5 ?_ | refine K6 ?_ | refine K7 ?_ | refine L1 ?_ | refine L2 ?_ | refine L3 ?_ | refine RG.d ?_ | refine RG.dd ?_ | refine S1 ?_ | refine S2 ?_ | refine S3 ?_ | refine S4 ?_ | refine S5 ?_ | refine S7 ?_ | refine S8 ?_))
    refine AW.condD rfl (fun k => absurd (show (z.length : Int) = 0 from k) (by omega)) (fun _ => ?_)
    (repeat (first | refine K1 ?_ | refine K2 ?_ | refine K3 ?_ | refine K4 ?_ | refine K5 ?_ | refine K6 ?_ | refine K7 ?_ | refine L1 ?_ | refine L2 ?_ | refine L3 ?_ | refine RG.d ?_ | refine RG.dd ?_ | refine S1 ?_ | refine S2 ?_ | refine S3 ?_ | refine S4 ?_ | refine S5 ?_ | refine S7 ?_ | refine S8 ?_))
    refine AW.condD rfl (fun k => absurd (show (z.length : Int) = 1 from k) (by omega)) (fun _ => ?_)
    (repeat (first | refine RG.call rfl rfl rfl rfl (c1) [] rfl rfl rfl rfl (.nil _) (.nil _) (fun _ h => False.elim h) rfl (A.ren_free _ _ rfl) rfl ?_ | refine K1 ?_ | refine K2 ?_ | refine K3 ?_ | refine K4 ?_ | refine K5 ?_ | refine K6 ?_ | refine K7 ?_ | refine L1 ?_ | refine L2 ?_ | refine L3 ?_ | refine RG.d ?_ | refine RG.dd ?_ | refine S1 ?_ | refine S2 ?_ | refine S3 ?_ | refine S4 ?_ | refine S5 ?_ | refine S7 ?_ | refine S8 ?_))
    refine RG.val tok rfl rfl rfl (show 0 ≤ (hf : Int) ∧ (hf : Int) ≤ (z.length : Int) ∧ (uL z).length = z.length * 1 from ⟨by omega, by omega, by rw [uL_len, Nat.mul_one]⟩) rfl rfl ?_
    refine RG.put 19 rfl (rdu_take z hf (by omega)) ?_
    (repeat (first | refine RG.call rfl rfl rfl rfl (c2) [] rfl rfl rfl rfl (.nil _) (.nil _) (fun _ h => False.elim h) rfl (A.ren_free _ _ rfl) rfl ?_ | refine K1 ?_ | refine K2 ?_ | refine K3 ?_ | refine K4 ?_ | refine K5 ?_ | refine K6 ?_ | refine K7 ?_ | refine L1 ?_ | refine L2 ?_ | refine L3 ?_ | refine RG.d ?_ | refine RG.dd ?_ | refine S1 ?_ | refine S2 ?_ | refine S3 ?_ | refine S4 ?_ | refine S5 ?_ | refine S7 ?_ | refine S8 ?_))
    refine RG.val tok rfl rfl rfl (show 0 ≤ (hf : Int) ∧ (hf : Int) ≤ (z.length : Int) ∧ (uL z).length = z.length * 1 from ⟨by omega, by omega, by rw [uL_len, Nat.mul_one]⟩) rfl rfl ?_
    refine RG.put 23 rfl (rdu_drop z hf) ?_
    (repeat (first | refine RG.call rfl rfl rfl rfl (c3) [] rfl rfl rfl rfl (.nil _) (.nil _) (fun _ h => False.elim h) rfl (A.ren_free _ _ rfl) rfl ?_ | refine RG.call rfl rfl rfl rfl (c4) [] rfl rfl rfl rfl (.nil _) (.nil _) (fun _ h => False.elim h) rfl (A.ren_free _ _ rfl) rfl ?_ | refine K1 ?_ | refine K2 ?_ | refine K3 ?_ | refine K4 ?_ | refine K5 ?_ | refine K6 ?_ | refine K7 ?_ | refine L1 ?_ | refine L2 ?_ | refine L3 ?_ | refine RG.d ?_ | refine RG.dd ?_ | refine S1 ?_ | refine S2 ?_ | refine S3 ?_ | refine S4 ?_ | refine S5 ?_ | refine S7 ?_ | refine S8 ?_))
    (repeat (first | refine K1 ?_ | refine K2 ?_ | refine K3 ?_ | refine K4 ?_ | refine K5 ?_ | refine K6 ?_ | refine K7 ?_ | refine L1 ?_ | refine L2 ?_ | refine L3 ?_ | refine RG.d ?_ | refine RG.dd ?_ | refine S1 ?_ | refine S2 ?_ | refine S3 ?_ | refine S4 ?_ | refine S5 ?_ | refine S6 ?_ | refine S7 ?_ | refine S8 ?_))
    exact ⟨⟨_, rfl, rfl⟩, rfl, .nil _⟩
theorem rroot_fc (l : List (BitVec 64)) (hB : l.length ≤ BW) : FC Try.prog ge 49 [rdu l] [] (uA (Mk.root (mI l))) [] NoP := by
  have c1 := rtop_fc l.length l (Nat.le_refl _) hB
  have c2 := rjoin_fc (Dg.B l.length) (Mk.top (mI l))
  rw [show Mk.root (mI l) = Dg.join (Dg.B l.length) (Mk.top (mI l)) by unfold Mk.root; rw [mI_len]]
  refine FC.of_AW tok Try.func49 (by kernel_rfl) rfl Try.ntmps49 [] rfl rfl rfl ?_; intro w0 X0 Y f0 hI0 hX0
  (repeat (first | refine K1 ?_ | refine K2 ?_ | refine K3 ?_ | refine K4 ?_ | refine K5 ?_ | refine K6 ?_ | refine K7 ?_ | refine L1 ?_ | refine L2 ?_ | refine L3 ?_ | refine RG.d ?_ | refine RG.dd ?_ | refine S1 ?_ | refine S2 ?_ | refine S3 ?_ | refine S4 ?_ | refine S5 ?_ | refine S7 ?_ | refine S8 ?_))
  refine RG.put 5 rfl (Option.some.inj (cvE (l.length : Int))) ?_
  (repeat (first | refine RG.call rfl rfl rfl rfl (c1) [] rfl rfl rfl rfl (.nil _) (.nil _) (fun _ h => False.elim h) rfl (A.ren_free _ _ rfl) rfl ?_ | refine RG.call rfl rfl rfl rfl (c2) [] rfl rfl rfl rfl (.nil _) (.nil _) (fun _ h => False.elim h) rfl (A.ren_free _ _ rfl) rfl ?_ | refine K1 ?_ | refine K2 ?_ | refine K3 ?_ | refine K4 ?_ | refine K5 ?_ | refine K6 ?_ | refine K7 ?_ | refine L1 ?_ | refine L2 ?_ | refine L3 ?_ | refine RG.d ?_ | refine RG.dd ?_ | refine S1 ?_ | refine S2 ?_ | refine S3 ?_ | refine S4 ?_ | refine S5 ?_ | refine S7 ?_ | refine S8 ?_))
  (repeat (first | refine K1 ?_ | refine K2 ?_ | refine K3 ?_ | refine K4 ?_ | refine K5 ?_ | refine K6 ?_ | refine K7 ?_ | refine L1 ?_ | refine L2 ?_ | refine L3 ?_ | refine RG.d ?_ | refine RG.dd ?_ | refine S1 ?_ | refine S2 ?_ | refine S3 ?_ | refine S4 ?_ | refine S5 ?_ | refine S6 ?_ | refine S7 ?_ | refine S8 ?_))
  exact ⟨⟨_, rfl, rfl⟩, rfl, .nil _⟩
theorem rdefNil_fc (d : Df) (ok : d.ok) (hB : d.w.length ≤ BW) : FC Try.prog ge 33 [.agg [i64 d.id, i64 d.site, strA (unb d.name), i64 d.firm, i64 d.part, .ro d.params.length (flC Rg.cl d.params), .ro d.given.length (flC Rg.cl d.given), i64 d.vars, i64 d.refs, .ro d.arrays.length (flC Ar.cl d.arrays), i64 d.budget, .val (.slice none 0 0)]] [] (rdi d.hd.w) [] NoP := by
  have c := rdef_fc d.hd ok (Nat.le_trans (hd_le d) hB)
  refine c.wk (.cons (Wk.agg ?_) .nil)
  simp only [Df.cl, Df.hd]
  repeat (first | exact WkL.nil | refine WkL.cons (Wk.refl _) ?_ | refine WkL.cons Wk.nil ?_)
set_option maxHeartbeats 8000000 in
theorem rleaves_fc (d : Df) (ok : d.ok) (hB : d.w.length ≤ BW) : FC Try.prog ge 22 [.agg d.cl] [] (rdu (leavesP d)) [] NoP := by
  have c1 := rdefNil_fc d ok hB
  have c2 := rwords_fc d.hd.w (Nat.le_trans (hd_le d) hB)
  have hbl := body_len d
  unfold BW at hB
  obtain ⟨W, hW⟩ : ∃ W, W = leavesP d := ⟨_, rfl⟩
  rw [← hW]
  obtain ⟨h0, hh0⟩ : ∃ h, h = Dg.words d.hd.w := ⟨_, rfl⟩
  have hW2 : W = h0 :: d.body.map (fun s => Dg.words s.w) := by rw [hW, hh0]; rfl
  rw [← hh0] at c2
  simp only [Df.cl]
  refine FC.of_AW tok Try.func22 (by kernel_rfl) rfl Try.ntmps22 [] rfl rfl rfl ?_; intro w0 X0 Y f0 hI0 hX0
  refine S1 ?_; (repeat (first | refine K1 ?_ | refine K2 ?_ | refine K3 ?_ | refine K4 ?_ | refine K5 ?_ | refine K6 ?_ | refine K7 ?_ | refine L1 ?_ | refine L2 ?_ | refine L3 ?_ | refine RG.d ?_ | refine RG.dd ?_ | refine S2 ?_ | refine S3 ?_ | refine S4 ?_ | refine S5 ?_ | refine S7 ?_ | refine S8 ?_))
  refine S1 ?_; (repeat (first | refine K1 ?_ | refine K2 ?_ | refine K3 ?_ | refine K4 ?_ | refine K5 ?_ | refine K6 ?_ | refine K7 ?_ | refine L1 ?_ | refine L2 ?_ | refine L3 ?_ | refine RG.d ?_ | refine RG.dd ?_ | refine S2 ?_ | refine S3 ?_ | refine S4 ?_ | refine S5 ?_ | refine S7 ?_ | refine S8 ?_))
  refine S1 ?_; (repeat (first | refine K1 ?_ | refine K2 ?_ | refine K3 ?_ | refine K4 ?_ | refine K5 ?_ | refine K6 ?_ | refine K7 ?_ | refine L1 ?_ | refine L2 ?_ | refine L3 ?_ | refine RG.d ?_ | refine RG.dd ?_ | refine S2 ?_ | refine S3 ?_ | refine S4 ?_ | refine S5 ?_ | refine S7 ?_ | refine S8 ?_))
  refine S1 ?_; (repeat (first | refine RG.call rfl rfl rfl rfl (c1) [] rfl rfl rfl rfl (.nil _) (.nil _) (fun _ h => False.elim h) rfl (A.ren_free _ _ rfl) rfl ?_ | refine RG.call rfl rfl rfl rfl (c2) [] rfl rfl rfl rfl (.nil _) (.nil _) (fun _ h => False.elim h) rfl (A.ren_free _ _ rfl) rfl ?_ | refine K1 ?_ | refine K2 ?_ | refine K3 ?_ | refine K4 ?_ | refine K5 ?_ | refine K6 ?_ | refine K7 ?_ | refine L1 ?_ | refine L2 ?_ | refine L3 ?_ | refine RG.d ?_ | refine RG.dd ?_ | refine S2 ?_ | refine S3 ?_ | refine S4 ?_ | refine S5 ?_ | refine S7 ?_ | refine S8 ?_))
  (repeat (first | refine K1 ?_ | refine K2 ?_ | refine K3 ?_ | refine K4 ?_ | refine K5 ?_ | refine K6 ?_ | refine K7 ?_ | refine L1 ?_ | refine L2 ?_ | refine L3 ?_ | refine RG.d ?_ | refine RG.dd ?_ | refine S2 ?_ | refine S3 ?_ | refine S4 ?_ | refine S5 ?_ | refine S7 ?_ | refine S8 ?_))
  refine AW.seqJ (fun _ : Unit => ⟨put 4 (some (rdu W)) noE, noH, 0⟩) (fun _ => True) ?_ ?_
  · refine S1 ?_; (repeat (first | refine K1 ?_ | refine K2 ?_ | refine K3 ?_ | refine K4 ?_ | refine K5 ?_ | refine K6 ?_ | refine K7 ?_ | refine L1 ?_ | refine L2 ?_ | refine L3 ?_ | refine RG.d ?_ | refine RG.dd ?_ | refine S2 ?_ | refine S3 ?_ | refine S4 ?_ | refine S5 ?_ | refine S7 ?_ | refine S8 ?_))
    refine AW.loopS (fun p : Nat × List (BitVec 64) => ⟨put 1 (some (.ptr 0 [] 0)) (put 4 (some (.sl 2 [] 1 0 p.2.length)) (put 5 (some (i64 (p.1 : Int))) noE)), hput 0 (.one ([i64 d.id, i64 d.site, strA (unb d.name), i64 d.firm, i64 d.part, .ro d.params.length (flC Rg.cl d.params), .ro d.given.length (flC Rg.cl d.given), i64 d.vars, i64 d.refs, .ro d.arrays.length (flC Ar.cl d.arrays), i64 d.budget, .ro d.body.length (flC Sm.cl d.body)])) (hput 2 (.one (uL p.2)) noH), 3⟩)
      (fun p => p.1 ≤ d.body.length ∧ p.2 = h0 :: (d.body.take p.1).map (fun s => Dg.words s.w)) (fun p => d.body.length - p.1) (0, [h0]) ⟨Nat.zero_le _, by simp⟩ (Sub.of (by repeat (first | exact SubE.no _ | refine SubE.put rfl ?_)) (by repeat (first | exact SubH.no _ | refine SubH.put rfl ?_)) rfl) ?_
    rintro ⟨i, U⟩ ⟨hi, hU⟩
    dsimp only at hi hU
    (repeat (first | refine K1 ?_ | refine K2 ?_ | refine K3 ?_ | refine K4 ?_ | refine K5 ?_ | refine K6 ?_ | refine K7 ?_ | refine L1 ?_ | refine L2 ?_ | refine L3 ?_ | refine RG.d ?_ | refine RG.dd ?_ | refine S1 ?_ | refine S2 ?_ | refine S3 ?_ | refine S4 ?_ | refine S5 ?_ | refine S7 ?_ | refine S8 ?_))
    refine AW.condD rfl (fun k => ?_) (fun k => ?_)
    rotate_left
    · have hi2 : i = d.body.length := by
        have : ¬ (i : Int) < (d.body.length : Int) := k
        omega
      rw [hi2, List.take_length, ← hW2] at hU
      subst hU
      (repeat (first | refine K1 ?_ | refine K2 ?_ | refine K3 ?_ | refine K4 ?_ | refine K5 ?_ | refine K6 ?_ | refine K7 ?_ | refine L1 ?_ | refine L2 ?_ | refine L3 ?_ | refine RG.d ?_ | refine RG.dd ?_ | refine S1 ?_ | refine S2 ?_ | refine S3 ?_ | refine S4 ?_ | refine S5 ?_ | refine S7 ?_ | refine S8 ?_))
      exact ⟨(), trivial, Sub.trans (Sub.frz (ks := [2]) 4 rfl (frzC rfl (by decide) (by rw [uL_len, Nat.mul_one]) (uL_free _))) (Sub.down (by repeat (first | exact SubE.no _ | refine SubE.put rfl ?_)) (by repeat (first | exact SubH.no _ | refine SubH.put rfl ?_)) (by repeat (first | exact LtE.no _ | refine LtE.put rfl ?_)) (by repeat (first | exact LtH.no _ | refine LtH.put rfl rfl ?_)) rfl)⟩
    have hi2 : i < d.body.length := by
      have : (i : Int) < (d.body.length : Int) := k
      omega
    obtain ⟨x, hx⟩ : ∃ x, d.body[i]? = some x := ⟨_, List.getElem?_eq_getElem hi2⟩
    have hat := flC_at Sm.cl_len d.body i x hx
    have hle := body_le d x (List.mem_of_getElem? hx)
    have cs := rsm_fc x (by unfold BW; omega)
    have cw := rwords_fc x.w (by unfold BW; omega)
    have hU2 : (d.body.take (i + 1)).map (fun s => Dg.words s.w) = (d.body.take i).map (fun s => Dg.words s.w) ++ [Dg.words x.w] := map_snoc (fun s : Sm => Dg.words s.w) d.body i x hx
    have hUl : U.length = i + 1 := by rw [hU, List.length_cons, List.length_map, List.length_take]; omega
    obtain ⟨z, hz⟩ : ∃ z, z = Dg.words x.w := ⟨_, rfl⟩
    obtain ⟨xw, hxw⟩ : ∃ z, z = x.w := ⟨_, rfl⟩
    rw [← hz] at cw hU2
    rw [← hxw] at cw cs
    obtain ⟨Z, hZ⟩ : ∃ Z, Z = U ++ [z] := ⟨_, rfl⟩
    have lZ : U.length + 1 = Z.length := by rw [hZ, List.length_append]; rfl
    obtain ⟨site, op, n, m, v, ⟨x1, x2, x3, x4⟩, ⟨y1, y2, y3, y4⟩, ⟨q1, q2, q3⟩, args, ptrs, body, els⟩ := x
    simp only [Sm.cl, Ex.cl, Co.cl, List.cons_append, List.nil_append] at hat cs
    (repeat (first | refine K1 ?_ | refine K2 ?_ | refine K3 ?_ | refine K4 ?_ | refine K5 ?_ | refine K6 ?_ | refine K7 ?_ | refine L1 ?_ | refine L2 ?_ | refine L3 ?_ | refine RG.d ?_ | refine RG.dd ?_ | refine S1 ?_ | refine S2 ?_ | refine S3 ?_ | refine S4 ?_ | refine S5 ?_ | refine S7 ?_ | refine S8 ?_))
    refine RG.idx tok rfl rfl rfl rfl rfl rfl hat ⟨by omega, by omega⟩ rfl ?_
    (repeat (first | refine K1 ?_ | refine K2 ?_ | refine K3 ?_ | refine K4 ?_ | refine K5 ?_ | refine K6 ?_ | refine K7 ?_ | refine L1 ?_ | refine L2 ?_ | refine L3 ?_ | refine RG.d ?_ | refine RG.dd ?_ | refine S1 ?_ | refine S2 ?_ | refine S3 ?_ | refine S4 ?_ | refine S5 ?_ | refine S7 ?_ | refine S8 ?_))
    refine RG.call rfl rfl rfl rfl (cs) [] rfl rfl rfl rfl (.nil _) (.nil _) (fun _ h => False.elim h) rfl (A.ren_free _ _ rfl) rfl ?_
    (repeat (first | refine K1 ?_ | refine K2 ?_ | refine K3 ?_ | refine K4 ?_ | refine K5 ?_ | refine K6 ?_ | refine K7 ?_ | refine L1 ?_ | refine L2 ?_ | refine L3 ?_ | refine RG.d ?_ | refine RG.dd ?_ | refine S1 ?_ | refine S2 ?_ | refine S3 ?_ | refine S4 ?_ | refine S5 ?_ | refine S7 ?_ | refine S8 ?_))
    refine RG.call rfl rfl rfl rfl (cw) [] rfl rfl rfl rfl (.nil _) (.nil _) (fun _ h => False.elim h) rfl (A.ren_free _ _ rfl) rfl ?_
    (repeat (first | refine K1 ?_ | refine K2 ?_ | refine K3 ?_ | refine K4 ?_ | refine K5 ?_ | refine K6 ?_ | refine K7 ?_ | refine L1 ?_ | refine L2 ?_ | refine L3 ?_ | refine RG.d ?_ | refine RG.dd ?_ | refine S1 ?_ | refine S2 ?_ | refine S3 ?_ | refine S4 ?_ | refine S5 ?_ | refine S7 ?_ | refine S8 ?_))
    refine RG.append tok rfl rfl rfl rfl rfl rfl rfl rfl (n1 := U.length) (c := uL U) (ks := [2]) rfl (m := 1) (l := uL [z]) (ks' := [3]) rfl rfl (by rw [uL_len]; omega) (uL_cell _) (by omega) (by omega) rfl (c' := uL Z) (by rw [uL_take, hZ, uL_app]) ?_
    rw [lZ]
    (repeat (first | refine K1 ?_ | refine K2 ?_ | refine K3 ?_ | refine K4 ?_ | refine K5 ?_ | refine K6 ?_ | refine K7 ?_ | refine L1 ?_ | refine L2 ?_ | refine L3 ?_ | refine RG.d ?_ | refine RG.dd ?_ | refine S1 ?_ | refine S2 ?_ | refine S3 ?_ | refine S4 ?_ | refine S5 ?_ | refine S7 ?_ | refine S8 ?_))
    refine ⟨(i + 1, Z), ⟨by dsimp only; omega, by dsimp only; rw [hU2, hZ, hU]; rfl⟩, by dsimp only; omega, Sub.renB sigM ?_ ?_ sigM_inj (fun a ha => sigM_hi a ha) (fun a ha => absurd ha (Nat.not_lt_zero _))⟩
    · exact SubEr.put rfl (SubEr.put rfl (SubEr.put rfl (SubEr.no _ _)))
    · exact SubHr.put rfl rfl (SubHr.put rfl (uL_free _) (SubHr.no _ _))
  intro _ _
  (repeat (first | refine K1 ?_ | refine K2 ?_ | refine K3 ?_ | refine K4 ?_ | refine K5 ?_ | refine K6 ?_ | refine K7 ?_ | refine L1 ?_ | refine L2 ?_ | refine L3 ?_ | refine RG.d ?_ | refine RG.dd ?_ | refine S1 ?_ | refine S2 ?_ | refine S3 ?_ | refine S4 ?_ | refine S5 ?_ | refine S6 ?_ | refine S7 ?_ | refine S8 ?_))
  exact ⟨⟨_, rfl, rfl⟩, rfl, .nil _⟩
set_option maxHeartbeats 4000000 in
theorem rcommit_fc (d : Df) (salt : Int) (ok : d.ok) (hB : d.w.length ≤ 1048576) : FC Try.prog ge 24 [.agg d.cl, i64 salt] [] (uA (Mk.root (mI (openP d salt)))) [] NoP := by
  have hbl := body_len d
  have c1 := rwords_fc [salt] (by simp [BW])
  have c2 := rleaves_fc d ok (by unfold BW; omega)
  have hl := leavesP_len d
  have c3 := rroot_fc (openP d salt) (by unfold openP BW; rw [List.length_cons]; omega)
  obtain ⟨L, hL⟩ : ∃ L, L = leavesP d := ⟨_, rfl⟩
  obtain ⟨s0, hs0⟩ : ∃ x, x = Dg.words [salt] := ⟨_, rfl⟩
  rw [← hL] at c2 hl
  rw [← hs0] at c1
  rw [show openP d salt = s0 :: L by unfold openP; rw [hL, hs0]] at c3 ⊢
  have hcl : d.cl = [i64 d.id, i64 d.site, strA (unb d.name), i64 d.firm, i64 d.part, .ro d.params.length (flC Rg.cl d.params), .ro d.given.length (flC Rg.cl d.given), i64 d.vars, i64 d.refs, .ro d.arrays.length (flC Ar.cl d.arrays), i64 d.budget, .ro d.body.length (flC Sm.cl d.body)] := rfl
  rw [hcl] at c2 ⊢
  refine FC.of_AW tok Try.func24 (by kernel_rfl) rfl Try.ntmps24 [] rfl rfl rfl ?_; intro w0 X0 Y f0 hI0 hX0
  (repeat (first | refine K1 ?_ | refine K2 ?_ | refine K3 ?_ | refine K4 ?_ | refine K5 ?_ | refine K6 ?_ | refine K7 ?_ | refine L1 ?_ | refine L2 ?_ | refine L3 ?_ | refine RG.d ?_ | refine RG.dd ?_ | refine S1 ?_ | refine S2 ?_ | refine S3 ?_ | refine S4 ?_ | refine S5 ?_ | refine S7 ?_ | refine S8 ?_))
  refine RG.callG rfl rfl rfl rfl (c1) [] [1] rfl rfl (.cons (FView.sl (l := [i64 salt]) rfl (by decide) (rfl) (FViews.reflL _ _ _) (rfl) rfl) .nil) rfl rfl (.nil _) (.nil _) rfl (fun _ h => False.elim h) rfl (A.ren_free _ _ rfl) rfl ?_
  (repeat (first | refine RG.call rfl rfl rfl rfl (c2) [] rfl rfl rfl rfl (.nil _) (.nil _) (fun _ h => False.elim h) rfl (A.ren_free _ _ rfl) rfl ?_ | refine K1 ?_ | refine K2 ?_ | refine K3 ?_ | refine K4 ?_ | refine K5 ?_ | refine K6 ?_ | refine K7 ?_ | refine L1 ?_ | refine L2 ?_ | refine L3 ?_ | refine RG.d ?_ | refine RG.dd ?_ | refine S1 ?_ | refine S2 ?_ | refine S3 ?_ | refine S4 ?_ | refine S5 ?_ | refine S7 ?_ | refine S8 ?_))
  obtain ⟨Z, hZ⟩ : ∃ Z, Z = s0 :: L := ⟨_, rfl⟩
  have lZ : Z.length = 1 + L.length := by rw [hZ, List.length_cons]; omega
  refine RG.append tok rfl rfl rfl rfl rfl rfl rfl rfl (n1 := 1) (c := uL [s0]) (ks := [2]) rfl (m := L.length) (l := uL L) (ks' := []) rfl (by rw [uL_len, Nat.mul_one]) (by rw [uL_len]; simp) (uL_cell _) (by omega) (by omega) rfl (c' := uL Z) (by rw [hZ]; rfl) ?_
  rw [← hZ] at c3 ⊢
  rw [← lZ]
  (repeat (first | refine K1 ?_ | refine K2 ?_ | refine K3 ?_ | refine K4 ?_ | refine K5 ?_ | refine K6 ?_ | refine K7 ?_ | refine L1 ?_ | refine L2 ?_ | refine L3 ?_ | refine RG.d ?_ | refine RG.dd ?_ | refine S1 ?_ | refine S2 ?_ | refine S3 ?_ | refine S4 ?_ | refine S5 ?_ | refine S7 ?_ | refine S8 ?_))
  refine RG.callG rfl rfl rfl rfl (c3) [] [3] rfl rfl (.cons (FView.sl (l := uL Z) rfl (by decide) (by rw [List.drop_zero, Nat.mul_one, List.take_of_length_le (by rw [uL_len]; exact Nat.le_refl _)]) (FViews.reflL _ _ _) (uL_free _) rfl) .nil) rfl rfl (.nil _) (.nil _) rfl (fun _ h => False.elim h) rfl (A.ren_free _ _ rfl) rfl ?_
  (repeat (first | refine K1 ?_ | refine K2 ?_ | refine K3 ?_ | refine K4 ?_ | refine K5 ?_ | refine K6 ?_ | refine K7 ?_ | refine L1 ?_ | refine L2 ?_ | refine L3 ?_ | refine RG.d ?_ | refine RG.dd ?_ | refine S1 ?_ | refine S2 ?_ | refine S3 ?_ | refine S4 ?_ | refine S5 ?_ | refine S6 ?_ | refine S7 ?_ | refine S8 ?_))
  exact ⟨⟨_, rfl, rfl⟩, rfl, .nil _⟩
end Go.Proofs.Ytmfccaidgaelcaa
