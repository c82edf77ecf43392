/- How a definition is read of bytes; digests of words; leaves. No conditions. -/
import Derived.Test.YtmfccaidgaelcaaEc12
import Derived.Test.YtmfccaidgaelcaaEp3
import Derived.Test.YtmfccaidgaelcaaAbsE
set_option linter.unusedVariables false
set_option linter.unusedSimpArgs false
namespace Go.Proofs.Ytmfccaidgaelcaa
open Go.Abs Go Go.RowKit
def rdAll (ws t : List Int) : Option Df := match rdDf 200000 ws with
  | some (d, []) => if t = [] then some d else none
  | _ => none
def readA : Option Df → A
  | some d => .agg (d.cl ++ [i64 0])
  | none => .agg (zdef.map A.val ++ [i64 3])
def wholeA : Option Df → A
  | some d => .tup [.agg d.cl, i64 0]
  | none => .tup [.agg (zdef.map A.val), i64 3]
/-- Some bytes, that are words and less than a word behind them. -/
abbrev btA (ws t : List Int) : A := .ro (8 * ws.length + t.length) (ints .u8 (bsL ws ++ t))
theorem whole_fc (ws t : List Int) (ht : t.length < 8) (hi : ∀ x, x ∈ ws → I64' x) (hsz : 8 * ws.length + t.length ≤ 800000) :
    FC Try.prog ge 56 [btA ws t, .fn 57 [] []] [] (wholeA (rdAll ws t)) [] NoP := by
  have cr := df_rd t ht 200000 (by omega) ws (by omega) hi
  unfold rdAll
  cases h : rdDf 200000 ws with
  | none =>
    rw [h] at cr
    exact whole_def_bad ws t (by omega) hsz (.inl cr)
  | some p =>
    obtain ⟨d, w⟩ := p
    rw [h] at cr
    cases w with
    | nil =>
      by_cases h2 : t = []
      · subst h2
        have := whole_def_ok ws d (by omega) cr
        simp only [if_true, wholeA, btA, List.append_nil, List.length_nil, Nat.add_zero]
        exact this
      · simp only [if_neg h2]
        refine whole_def_bad ws t (by omega) hsz (.inr ⟨d, [], ?_, cr⟩)
        cases t with
        | nil => exact absurd rfl h2
        | cons x t => simp
    | cons x w => exact whole_def_bad ws t (by omega) hsz (.inr ⟨d, x :: w, by simp only [List.length_cons]; omega, cr⟩)
theorem readDef_fc (ws t : List Int) (ht : t.length < 8) (hi : ∀ x, x ∈ ws → I64' x) (hsz : 8 * ws.length + t.length ≤ 800000) :
    FC Try.prog ge 29 [btA ws t] [] (wholeA (rdAll ws t)) [] NoP := by
  have c := whole_fc ws t ht hi hsz
  cases h : rdAll ws t with
  | none =>
    rw [h] at c
    simp only [wholeA] at c ⊢
    refine FC.of_AW tok Try.func29 (by kernel_rfl) rfl Try.ntmps29 [] rfl rfl rfl ?_; intro w0 X0 Y f0 hI0 hX0
    (repeat (first | refine RG.call rfl rfl rfl rfl (c) [] rfl rfl rfl rfl (.nil _) (.nil _) (fun _ h => False.elim h) rfl (A.ren_free _ _ rfl) rfl ?_ | refine K4 ?_ | refine L2 ?_ | refine L3 ?_ | refine RG.d ?_ | refine S1 ?_ | refine S2 ?_))
    (repeat (first | refine S6 ?_))
    exact ⟨⟨_, rfl, rfl⟩, rfl, .nil _⟩
  | some d =>
    rw [h] at c
    simp only [wholeA, Df.cl] at c ⊢
    refine FC.of_AW tok Try.func29 (by kernel_rfl) rfl Try.ntmps29 [] rfl rfl rfl ?_; intro w0 X0 Y f0 hI0 hX0
    (repeat (first | refine RG.call rfl rfl rfl rfl (c) [] rfl rfl rfl rfl (.nil _) (.nil _) (fun _ h => False.elim h) rfl (A.ren_free _ _ rfl) rfl ?_ | refine K4 ?_ | refine L2 ?_ | refine L3 ?_ | refine RG.d ?_ | refine S1 ?_ | refine S2 ?_))
    (repeat (first | refine S6 ?_))
    exact ⟨⟨_, rfl, rfl⟩, rfl, .nil _⟩
theorem lread_fc (ws t : List Int) (ht : t.length < 8) (hi : ∀ x, x ∈ ws → I64' x) (hsz : 8 * ws.length + t.length ≤ 800000) :
    FC Try.prog ge 13 [btA ws t] [] (readA (rdAll ws t)) [] NoP := by
  have c := readDef_fc ws t ht hi hsz
  cases h : rdAll ws t with
  | none =>
    rw [h] at c
    simp only [wholeA, readA] at c ⊢
    refine FC.of_AW tok Try.func13 (by kernel_rfl) rfl Try.ntmps13 [] rfl rfl rfl ?_; intro w0 X0 Y f0 hI0 hX0
    (repeat (first | refine RG.call rfl rfl rfl rfl (c) [] rfl rfl rfl rfl (.nil _) (.nil _) (fun _ h => False.elim h) rfl (A.ren_free _ _ rfl) rfl ?_ | refine K4 ?_ | refine L1 ?_ | refine L2 ?_ | refine L3 ?_ | refine RG.d ?_ | refine S1 ?_ | refine S2 ?_))
    (repeat (first | refine S6 ?_))
    exact ⟨⟨_, rfl, rfl⟩, rfl, .nil _⟩
  | some d =>
    rw [h] at c
    simp only [wholeA, readA, Df.cl, List.cons_append, List.nil_append] at c ⊢
    refine FC.of_AW tok Try.func13 (by kernel_rfl) rfl Try.ntmps13 [] rfl rfl rfl ?_; intro w0 X0 Y f0 hI0 hX0
    (repeat (first | refine RG.call rfl rfl rfl rfl (c) [] rfl rfl rfl rfl (.nil _) (.nil _) (fun _ h => False.elim h) rfl (A.ren_free _ _ rfl) rfl ?_ | refine K4 ?_ | refine L1 ?_ | refine L2 ?_ | refine L3 ?_ | refine RG.d ?_ | refine S1 ?_ | refine S2 ?_))
    (repeat (first | refine S6 ?_))
    exact ⟨⟨_, rfl, rfl⟩, rfl, .nil _⟩
theorem lreadBig_fc (n : Nat) (l : List A) (hn : 800000 < n) : FC Try.prog ge 13 [.ro n l] [] (.agg (zdef.map A.val ++ [i64 2])) [] NoP := by
  have c0 := whole_def_big n l hn
  have c : FC Try.prog ge 29 [.ro n l] [] (.tup [.agg (zdef.map A.val), i64 2]) [] NoP := by
    refine FC.of_AW tok Try.func29 (by kernel_rfl) rfl Try.ntmps29 [] rfl rfl rfl ?_; intro w0 X0 Y f0 hI0 hX0
    (repeat (first | refine RG.call rfl rfl rfl rfl (c0) [] rfl rfl rfl rfl (.nil _) (.nil _) (fun _ h => False.elim h) rfl (A.ren_free _ _ rfl) rfl ?_ | refine K4 ?_ | refine L2 ?_ | refine L3 ?_ | refine RG.d ?_ | refine S1 ?_ | refine S2 ?_))
    (repeat (first | refine S6 ?_))
    exact ⟨⟨_, rfl, rfl⟩, rfl, .nil _⟩
  refine FC.of_AW tok Try.func13 (by kernel_rfl) rfl Try.ntmps13 [] rfl rfl rfl ?_; intro w0 X0 Y f0 hI0 hX0
  (repeat (first | refine RG.call rfl rfl rfl rfl (c) [] rfl rfl rfl rfl (.nil _) (.nil _) (fun _ h => False.elim h) rfl (A.ren_free _ _ rfl) rfl ?_ | refine K4 ?_ | refine L1 ?_ | refine L2 ?_ | refine L3 ?_ | refine RG.d ?_ | refine S1 ?_ | refine S2 ?_))
  (repeat (first | refine S6 ?_))
  exact ⟨⟨_, rfl, rfl⟩, rfl, .nil _⟩
/-! ### Digests -/
def uA (x : BitVec 64) : A := .val (.int .u64 (x.toNat : Int))
theorem wrap_bv (x : BitVec 64) : IntKind.u64.wrap (x.toNat : Int) = (x.toNat : Int) := by
  have := x.isLt
  exact wrap_u64 ⟨by omega, by omega⟩
theorem xorE (x y : BitVec 64) : some (A.val (.int .u64 (IntKind.u64.wrap ((BitVec.ofInt 64 (x.toNat : Int) ^^^ BitVec.ofInt 64 (y.toNat : Int)).toNat : Nat)))) = some (uA (x ^^^ y)) := by
  rw [show BitVec.ofInt 64 (x.toNat : Int) = x by rw [BitVec.ofInt_natCast]; simp, show BitVec.ofInt 64 (y.toNat : Int) = y by rw [BitVec.ofInt_natCast]; simp, wrap_bv]; rfl
theorem mulE (x c : BitVec 64) (n : Int) (hc : (c.toNat : Int) = n) : some (A.val (.int .u64 (IntKind.u64.wrap ((x.toNat : Int) * n)))) = some (uA (x * c)) := by
  subst hc
  unfold uA
  rw [BitVec.toNat_mul, IntKind.wrap_u64]
  simp
theorem shrE (x : BitVec 64) (k : Nat) (hk : k < 64) : some (A.val (.int .u64 ((x.toNat : Int).fdiv (2 ^ min ((k : Nat) : Int).toNat 64)))) = some (uA (x >>> k)) := by
  rw [Int.toNat_natCast, Nat.min_eq_left (by omega), Int.fdiv_eq_ediv_of_nonneg _ (Int.le_of_lt (Int.pow_pos (by decide)))]
  unfold uA
  rw [BitVec.toNat_ushiftRight, Nat.shiftRight_eq_div_pow]
  simp
theorem cvE (x : Int) : some (A.val (.int .u64 (IntKind.u64.wrap x))) = some (uA (Dg.B x)) := by
  unfold uA Dg.B
  rw [IntKind.wrap_u64, BitVec.toNat_ofInt]
  congr 3
  omega
theorem step_fc (h w : BitVec 64) : FC Try.prog ge 43 [uA h, uA w] [] (uA (Dg.step h w)) [] NoP := by
  refine FC.of_AW tok Try.func43 (by kernel_rfl) rfl Try.ntmps43 [] rfl rfl rfl ?_; intro w0 X0 Y f0 hI0 hX0
  refine S1 ?_; (repeat (first | refine K4 ?_ | refine RG.d ?_ | refine S2 ?_))
  refine S1 ?_
  refine S2 ?_
  (first | refine K4 ?_)
  (first | refine K4 ?_)
  refine RG.val tok rfl rfl rfl trivial rfl (xorE h w) ?_
  refine RG.val tok rfl rfl rfl trivial rfl (mulE (h ^^^ w) Dg.mulA 11400714819323198485 rfl) ?_
  obtain ⟨x, hx⟩ : ∃ x, x = (h ^^^ w) * Dg.mulA := ⟨_, rfl⟩
  rw [show Dg.step h w = (x ^^^ x >>> 29) * Dg.mulB ^^^ ((x ^^^ x >>> 29) * Dg.mulB) >>> 32 by rw [hx]; rfl, ← hx]
  (repeat (first | refine K4 ?_ | refine RG.d ?_))
  refine S1 ?_
  refine S2 ?_
  (first | refine K4 ?_)
  (first | refine K4 ?_)
  refine RG.val tok rfl rfl rfl (show (0 : Int) ≤ 29 by decide) rfl (shrE x 29 (by decide)) ?_
  refine RG.val tok rfl rfl rfl trivial rfl (xorE x (x >>> 29)) ?_
  refine RG.val tok rfl rfl rfl trivial rfl (mulE (x ^^^ x >>> 29) Dg.mulB 13787848793156543929 rfl) ?_
  obtain ⟨y, hy⟩ : ∃ y, y = (x ^^^ x >>> 29) * Dg.mulB := ⟨_, rfl⟩
  rw [← hy]
  (repeat (first | refine K4 ?_ | refine RG.d ?_))
  refine S1 ?_
  refine S2 ?_
  (first | refine K4 ?_)
  (first | refine K4 ?_)
  refine RG.val tok rfl rfl rfl (show (0 : Int) ≤ 32 by decide) rfl (shrE y 32 (by decide)) ?_
  refine RG.val tok rfl rfl rfl trivial rfl (xorE y (y >>> 32)) ?_
  (repeat (first | refine K4 ?_ | refine RG.d ?_ | refine S6 ?_))
  exact ⟨⟨_, rfl, rfl⟩, rfl, .nil _⟩
theorem words_fc (l : List Int) (hl : l.length ≤ BW) : FC Try.prog ge 18 [rdi l] [] (uA (Dg.words l)) [] NoP := by
  unfold BW at hl
  have c0 := step_fc 2611923443488327891#64 (Dg.B l.length)
  obtain ⟨W, hW⟩ : ∃ W, W = Dg.words l := ⟨_, rfl⟩
  rw [← hW]
  refine FC.of_AW tok Try.func18 (by kernel_rfl) rfl Try.ntmps18 [] rfl rfl rfl ?_; intro w0 X0 Y f0 hI0 hX0
  refine S1 ?_; (repeat (first | refine K4 ?_ | refine RG.d ?_ | refine S2 ?_))
  refine S1 ?_
  refine S2 ?_
  (first | refine K4 ?_)
  (first | refine K4 ?_)
  refine RG.val tok rfl rfl rfl trivial rfl (cvE (l.length : Int)) ?_
  refine RG.call rfl rfl rfl rfl (c0) [] rfl rfl rfl rfl (.nil _) (.nil _) (fun _ h => False.elim h) rfl (A.ren_free _ _ rfl) rfl ?_
  (repeat (first | refine K4 ?_ | refine RG.d ?_))
  refine AW.seqJ (fun _ : Unit => ⟨put 3 (some (uA W)) noE, noH, 0⟩) (fun _ => True) ?_ ?_
  · refine S1 ?_; (repeat (first | refine K4 ?_ | refine RG.d ?_ | refine S2 ?_ | refine S4 ?_))
    refine AW.loopS (fun i : Nat => ⟨put 3 (some (uA (Dg.fold (Dg.step 2611923443488327891#64 (Dg.B l.length)) (l.take i)))) (put 10 (some (rdi l)) (put 11 (some (i64 (l.length : Int))) (put 12 (some (i64 (i : Int))) noE))), noH, 0⟩)
      (fun i => i ≤ l.length) (fun i => l.length - i) 0 (Nat.zero_le _) (Sub.of (by repeat (first | exact SubE.no _ | refine SubE.put rfl ?_)) (by repeat (first | exact SubH.no _ | refine SubH.put rfl ?_)) rfl) ?_
    intro i hi
    (repeat (first | refine K4 ?_ | refine RG.d ?_ | refine S1 ?_ | refine S2 ?_))
    refine AW.condD rfl (fun k => ?_) (fun k => ?_)
    rotate_left
    · have hi2 : i = l.length := by
        have : ¬ (i : Int) < (l.length : Int) := k
        omega
      rw [hi2, List.take_length, ← Dg.words_fold, ← hW]
      (repeat (first | refine S5 ?_))
      exact ⟨(), trivial, Sub.of (by repeat (first | exact SubE.no _ | refine SubE.put rfl ?_)) (by repeat (first | exact SubH.no _ | refine SubH.put rfl ?_)) rfl⟩
    have hi2 : i < l.length := by
      have : (i : Int) < (l.length : Int) := k
      omega
    obtain ⟨x, hx⟩ : ∃ x, l[i]? = some x := ⟨_, List.getElem?_eq_getElem hi2⟩
    have hat := ints_cut l i x hx .i64
    have cx := step_fc (Dg.fold (Dg.step 2611923443488327891#64 (Dg.B l.length)) (l.take i)) (Dg.B x)
    rw [show Dg.step (Dg.fold (Dg.step 2611923443488327891#64 (Dg.B l.length)) (l.take i)) (Dg.B x) = Dg.fold (Dg.step 2611923443488327891#64 (Dg.B l.length)) (l.take (i + 1)) by rw [take_snoc l i x hx, Dg.fold_append]; rfl] at cx
    refine S3 ?_
    refine S1 ?_; (repeat (first | refine S4 ?_))
    refine S1 ?_
    refine S2 ?_
    refine RG.idx tok rfl rfl rfl rfl rfl rfl hat ⟨by omega, by omega⟩ rfl ?_
    (first | refine L1 ?_)
    (first | refine K4 ?_)
    (first | refine RG.d ?_ | refine RG.dd ?_)
    refine S2 ?_
    (first | refine K4 ?_)
    (first | refine K4 ?_)
    refine RG.val tok rfl rfl rfl trivial rfl (cvE x) ?_
    refine RG.call rfl rfl rfl rfl (cx) [] rfl rfl rfl rfl (.nil _) (.nil _) (fun _ h => False.elim h) rfl (A.ren_free _ _ rfl) rfl ?_
    (repeat (first | refine K2 ?_ | refine K4 ?_ | refine RG.d ?_ | refine S2 ?_))
    exact ⟨i + 1, by show i + 1 ≤ l.length; omega, by show l.length - (i + 1) < l.length - i; omega, Sub.of (by repeat (first | exact SubE.no _ | refine SubE.put rfl ?_)) (by repeat (first | exact SubH.no _ | refine SubH.put rfl ?_)) rfl⟩
  intro _ _
  (repeat (first | refine K4 ?_ | refine RG.d ?_ | refine S1 ?_ | refine S2 ?_ | refine S6 ?_))
  exact ⟨⟨_, rfl, rfl⟩, rfl, .nil _⟩
end Go.Proofs.Ytmfccaidgaelcaa
