/- Bytes as the reference writes them; what is written; comparing. No conditions. -/
import Derived.Test.YtmfccaidgaelcaaEc5
import Derived.Test.YtmfccaidgaelcaaAbsE
set_option linter.unusedVariables false
set_option linter.unusedSimpArgs false
namespace Go.Proofs.Ytmfccaidgaelcaa
open Go.Abs Go Go.RowKit
abbrev byA (l : List Int) : A := .ro (8 * l.length) (ints .u8 (bsL l))
theorem u64_uns (x : Int) : some (A.val (.int .u64 (IntKind.u64.wrap x))) = some (A.val (.int .u64 (uns x : Int))) := by
  rw [IntKind.wrap_u64]
  unfold uns W64
  congr 3
  omega
set_option maxHeartbeats 8000000 in
theorem rbytes_fc (l : List Int) (hB : l.length ≤ BW) : FC Try.prog ge 19 [rdi l] [] (byA l) [] NoP := by
  unfold BW at hB
  obtain ⟨W, hW⟩ : ∃ W, W = bsL l := ⟨_, rfl⟩
  have hWl : 8 * l.length = W.length := by rw [hW, bsL_len]
  unfold byA
  rw [hWl, ← hW]
  refine FC.of_AW tok Try.func19 (by kernel_rfl) rfl Try.ntmps19 [] rfl rfl rfl ?_; intro w0 X0 Y f0 hI0 hX0
  refine S1 ?_; (repeat (first | refine K4 ?_ | refine RG.d ?_ | refine S2 ?_)); refine S1 ?_; (repeat (first | refine K4 ?_ | refine L2 ?_ | refine RG.d ?_ | refine S2 ?_))
  refine AW.seqJ (fun _ : Unit => ⟨put 3 (some (.ro W.length (ints .u8 W))) noE, noH, 0⟩) (fun _ => True) ?_ ?_
  · refine S1 ?_; (repeat (first | refine K4 ?_ | refine RG.d ?_ | refine S2 ?_ | refine S4 ?_))
    refine AW.loopS (fun p : Nat × List Int => ⟨put 0 (some (rdi l)) (put 3 (some (.sl 0 [] 1 0 p.2.length)) (put 4 (some (i64 (p.1 : Int))) noE)), hput 0 (.one (ints .u8 p.2)) noH, 1⟩)
      (fun p => p.1 ≤ l.length ∧ p.2 = bsL (l.take p.1)) (fun p => l.length - p.1) (0, []) ⟨Nat.zero_le _, by simp [bsL]⟩ (Sub.of (by repeat (first | exact SubE.no _ | refine SubE.put rfl ?_)) (by repeat (first | exact SubH.no _ | refine SubH.put rfl ?_)) rfl) ?_
    rintro ⟨i, U⟩ ⟨hi, hU⟩
    dsimp only at hi hU
    (repeat (first | refine K4 ?_ | refine RG.d ?_ | refine S1 ?_ | refine S2 ?_))
    refine AW.condD rfl (fun k => ?_) (fun k => ?_)
    rotate_left
    · have hi2 : i = l.length := by
        have : ¬ (i : Int) < (l.length : Int) := k
        omega
      rw [hi2, List.take_length, ← hW] at hU
      subst hU
      (repeat (first | refine S5 ?_))
      exact ⟨(), trivial, Sub.trans (Sub.frz (ks := [0]) 3 rfl (frzI rfl (by decide) rfl)) (Sub.down (by repeat (first | exact SubE.no _ | refine SubE.put rfl ?_)) (by repeat (first | exact SubH.no _ | refine SubH.put rfl ?_)) (by repeat (first | exact LtE.no _ | refine LtE.put rfl ?_)) (by repeat (first | exact LtH.no _ | refine LtH.put rfl rfl ?_)) rfl)⟩
    have hi2 : i < l.length := by
      have : (i : Int) < (l.length : Int) := k
      omega
    obtain ⟨x, hx⟩ : ∃ x, l[i]? = some x := ⟨_, List.getElem?_eq_getElem hi2⟩
    have hat := ints_cut l i x hx .i64
    have hU2 := bsL_take l i x hx
    have hUl : U.length = 8 * i := by rw [hU, bsL_len, List.length_take]; omega
    refine S3 ?_
    refine S1 ?_; (repeat (first | refine S4 ?_))
    refine S1 ?_
    refine S2 ?_
    (first | refine K4 ?_)
    (first | refine K4 ?_)
    refine RG.idx tok rfl rfl rfl rfl rfl rfl hat ⟨by omega, by omega⟩ rfl ?_
    (first | refine L1 ?_)
    refine RG.val tok rfl rfl rfl trivial rfl (u64_uns x) ?_
    (repeat (first | refine K4 ?_ | refine RG.d ?_))
    refine S1 ?_; (repeat (first | refine K4 ?_ | refine RG.d ?_ | refine S2 ?_ | refine S4 ?_))
    · refine AW.loopS (fun k : Nat => ⟨put 0 (some (rdi l)) (put 3 (some (.sl 0 [] 1 0 (U ++ (byW x).take k).length)) (put 4 (some (i64 (i : Int))) (put 5 (some (.val (.int .u64 ((uns x / 256 ^ k : Nat) : Int)))) (put 6 (some (i64 (k : Int))) noE)))), hput 0 (.one (ints .u8 (U ++ (byW x).take k))) noH, 1⟩) (fun k => k ≤ 8) (fun k => 8 - k) 0 (by omega) (by dsimp only; rw [List.take_zero, List.append_nil, Nat.pow_zero, Nat.div_one]; exact Sub.of (by repeat (first | exact SubE.no _ | refine SubE.put rfl ?_)) (by repeat (first | exact SubH.no _ | refine SubH.put rfl ?_)) rfl) ?_
      intro k hk
      (repeat (first | refine K4 ?_ | refine RG.d ?_ | refine S1 ?_ | refine S2 ?_))
      refine AW.condD rfl (fun h => ?_) (fun h => ?_)
      rotate_left
      · have h' : ¬ (k : Int) < 8 := h
        rw [List.take_of_length_le (by rw [byW_len]; omega)]
        (repeat (first | refine K2 ?_ | refine K4 ?_ | refine RG.d ?_ | refine S2 ?_ | refine S5 ?_))
        exact ⟨(i + 1, U ++ byW x), ⟨by dsimp only; omega, by dsimp only; rw [hU2, hU]⟩, by dsimp only; omega, Sub.of (by repeat (first | exact SubE.no _ | refine SubE.put rfl ?_)) (by repeat (first | exact SubH.no _ | refine SubH.put rfl ?_)) rfl⟩
      have hk2 : k < 8 := by
        have h' : (k : Int) < 8 := h
        omega
      have hlen : (U ++ (byW x).take k).length = 8 * i + k := by rw [List.length_append, hUl, List.length_take, byW_len]; omega
      have ht := byW_take x k hk2
      obtain ⟨m, hm⟩ : ∃ m, m = uns x / 256 ^ k := ⟨_, rfl⟩
      have hmb : m < 18446744073709551616 := by
        have := uns_lt x
        have h2 : uns x / 256 ^ k ≤ uns x := Nat.div_le_self _ _
        omega
      have hm2 : uns x / 256 ^ (k + 1) = m / 256 := by rw [hm, Nat.pow_succ, Nat.div_div_eq_div_mul]
      rw [← hm] at ht ⊢
      refine S3 ?_
      repeat (first | refine S1 ?_ | refine S4 ?_)
      refine S2 ?_
      (first | refine K4 ?_)
      (first | refine K4 ?_)
      refine RG.val tok rfl rfl rfl (show (256 : Int) ≠ 0 by decide) rfl (show some (A.val (.int .u64 ((m : Int).tmod 256))) = some (A.val (.int .u64 ((m % 256 : Nat) : Int))) from rfl) ?_
      refine RG.val tok rfl rfl rfl trivial rfl (iv_u8 (n := ((m % 256 : Nat) : Int)) (by omega)) ?_
      (first | refine L2 ?_)
      refine RG.append tok rfl rfl rfl rfl rfl rfl rfl rfl (n1 := (U ++ (byW x).take k).length) (c := ints .u8 (U ++ (byW x).take k)) (ks := [0]) rfl (m := 1) (l := ints .u8 [((m % 256 : Nat) : Int)]) (ks' := [1]) rfl rfl (by rw [ints_length]; omega) (ints_cell _ _) (by omega) (by omega) rfl (c' := ints .u8 (U ++ (byW x).take (k + 1))) (by rw [ints_take _ _ _ rfl, ← ints_append, ht, List.append_assoc]) ?_
      rw [show (U ++ (byW x).take k).length + 1 = (U ++ (byW x).take (k + 1)).length by rw [ht]; simp only [List.length_append, List.length_cons, List.length_nil]; omega]
      (first | refine K4 ?_)
      (first | refine RG.d ?_ | refine RG.dd ?_)
      refine S2 ?_
      (first | refine K4 ?_)
      refine RG.val tok rfl rfl rfl (show (256 : Int) ≠ 0 by decide) rfl (show some (A.val (.int .u64 (IntKind.u64.wrap ((m : Int).tdiv 256)))) = some (A.val (.int .u64 ((uns x / 256 ^ (k + 1) : Nat) : Int))) by rw [hm2, show ((m : Int).tdiv 256) = ((m / 256 : Nat) : Int) from rfl, wrap_u64 (by omega)]) ?_
      (repeat (first | refine K2 ?_ | refine K4 ?_ | refine RG.d ?_ | refine S2 ?_))
      refine ⟨k + 1, by show k + 1 ≤ 8; omega, by show 8 - (k + 1) < 8 - k; omega, Sub.renB (fun a => a + 2) ?_ ?_ (fun a b h => by simpa using h) (fun a ha => ?_) (fun a ha => absurd ha (Nat.not_lt_zero _))⟩
      · exact SubEr.put rfl (SubEr.put rfl (SubEr.put rfl (SubEr.put rfl (SubEr.put rfl (SubEr.no _ _)))))
      · exact SubHr.put rfl (ints_free _ _ _) (SubHr.no _ _)
      · have ha : 1 ≤ a := ha
        show 3 ≤ a + 2
        omega
  intro _ _
  (repeat (first | refine K4 ?_ | refine RG.d ?_ | refine S1 ?_ | refine S2 ?_ | refine S6 ?_))
  exact ⟨⟨_, rfl, rfl⟩, rfl, .nil _⟩
theorem same_fc (a b : List Int) (ha : a.length ≤ BW) (hb : b.length ≤ BW) : FC Try.prog ge 35 [rdi a, rdi b] [] (.val (.bool (decide (a = b)))) [] NoP := by
  unfold BW at ha hb
  obtain ⟨r, hr⟩ : ∃ r, r = decide (a = b) := ⟨_, rfl⟩
  rw [← hr]
  by_cases hl : a.length = b.length
  · refine FC.of_AW tok Try.func35 (by kernel_rfl) rfl Try.ntmps35 [] rfl rfl rfl ?_; intro w0 X0 Y f0 hI0 hX0
    refine S1 ?_; (repeat (first | refine K4 ?_ | refine RG.d ?_ | refine S2 ?_))
    refine S1 ?_
    (repeat (first | refine K4 ?_ | refine RG.d ?_ | refine S1 ?_ | refine S2 ?_))
    refine AW.condD rfl (fun k => absurd (show (a.length : Int) = b.length by omega) k) (fun _ => ?_)
    refine S3 ?_
    refine AW.seqJ (fun _ : Unit => ⟨noE, noH, 0⟩) (fun _ => a = b) ?_ ?_
    · refine S1 ?_; (repeat (first | refine K4 ?_ | refine RG.d ?_ | refine S2 ?_ | refine S4 ?_))
      refine AW.loopS (fun i : Nat => ⟨put 0 (some (rdi a)) (put 1 (some (rdi b)) (put 5 (some (i64 (i : Int))) noE)), noH, 0⟩) (fun i => i ≤ a.length ∧ a.take i = b.take i) (fun i => a.length - i) 0 ⟨Nat.zero_le _, by simp⟩ (Sub.of (by repeat (first | exact SubE.no _ | refine SubE.put rfl ?_)) (by repeat (first | exact SubH.no _ | refine SubH.put rfl ?_)) rfl) ?_
      rintro i ⟨hi, he⟩
      (repeat (first | refine K4 ?_ | refine RG.d ?_ | refine S1 ?_ | refine S2 ?_))
      refine AW.condD rfl (fun k => ?_) (fun k => ?_)
      rotate_left
      · have hi2 : i = a.length := by
          have : ¬ (i : Int) < (a.length : Int) := k
          omega
        (repeat (first | refine S5 ?_))
        rw [hi2, List.take_length, hl, List.take_length] at he
        exact ⟨(), he, Sub.of (by repeat (first | exact SubE.no _ | refine SubE.put rfl ?_)) (by repeat (first | exact SubH.no _ | refine SubH.put rfl ?_)) rfl⟩
      have hi2 : i < a.length := by
        have : (i : Int) < (a.length : Int) := k
        omega
      obtain ⟨x, hx⟩ : ∃ x, a[i]? = some x := ⟨_, List.getElem?_eq_getElem hi2⟩
      obtain ⟨y, hy⟩ : ∃ y, b[i]? = some y := ⟨_, List.getElem?_eq_getElem (by omega)⟩
      have hatx := ints_cut a i x hx .i64
      have haty := ints_cut b i y hy .i64
      refine S3 ?_
      repeat (first | refine S1 ?_ | refine S4 ?_)
      refine S2 ?_
      (first | refine K4 ?_)
      (first | refine K4 ?_)
      refine RG.idx tok rfl rfl rfl rfl rfl rfl hatx ⟨by omega, by omega⟩ rfl ?_
      (first | refine L1 ?_)
      (first | refine K4 ?_)
      (first | refine K4 ?_)
      refine RG.idx tok rfl rfl rfl rfl rfl rfl haty ⟨by omega, by omega⟩ rfl ?_
      (repeat (first | refine K4 ?_ | refine L1 ?_ | refine RG.dd ?_))
      refine AW.condD rfl (fun k2 => ?_) (fun k2 => ?_)
      · have k2' : x ≠ y := k2
        have e : r = false := by
          rw [hr, decide_eq_false_iff_not]
          rintro rfl
          rw [hx] at hy
          exact k2' (Option.some.inj hy)
        rw [e]
        (repeat (first | refine K4 ?_ | refine RG.d ?_ | refine S1 ?_ | refine S2 ?_ | refine S6 ?_))
        exact ⟨⟨_, rfl, rfl⟩, rfl, .nil _⟩
      · have k2' : x = y := by
          by_cases h : x = y
          · exact h
          · exact absurd h k2
        (repeat (first | refine K2 ?_ | refine K4 ?_ | refine RG.d ?_ | refine S2 ?_ | refine S3 ?_))
        exact ⟨i + 1, ⟨by omega, by rw [take_snoc a i x hx, take_snoc b i y hy, he, k2']⟩, by show a.length - (i + 1) < a.length - i; omega, Sub.of (by repeat (first | exact SubE.no _ | refine SubE.put rfl ?_)) (by repeat (first | exact SubH.no _ | refine SubH.put rfl ?_)) rfl⟩
    intro _ he
    have e : r = true := by rw [hr, decide_eq_true_iff]; exact he
    rw [e]
    (repeat (first | refine K4 ?_ | refine RG.d ?_ | refine S1 ?_ | refine S2 ?_ | refine S6 ?_))
    exact ⟨⟨_, rfl, rfl⟩, rfl, .nil _⟩
  · have e : r = false := by
      rw [hr, decide_eq_false_iff_not]
      rintro rfl
      exact hl rfl
    rw [e]
    refine FC.of_AW tok Try.func35 (by kernel_rfl) rfl Try.ntmps35 [] rfl rfl rfl ?_; intro w0 X0 Y f0 hI0 hX0
    (repeat (first | refine K4 ?_ | refine RG.d ?_ | refine S1 ?_ | refine S2 ?_))
    refine AW.condD rfl (fun _ => ?_) (fun k => absurd (show ¬ (a.length : Int) = b.length by omega) k)
    (repeat (first | refine K4 ?_ | refine RG.d ?_ | refine S1 ?_ | refine S2 ?_ | refine S6 ?_))
    exact ⟨⟨_, rfl, rfl⟩, rfl, .nil _⟩
theorem sameDef_fc (d e : Df) (od : d.ok) (oe : e.ok) (hd : d.w.length ≤ BW) (he : e.w.length ≤ BW) : FC Try.prog ge 14 [.agg d.cl, .agg e.cl] [] (.val (.bool (decide (d.w = e.w)))) [] NoP := by
  have c1 := rdef_fc d od hd
  have c2 := rdef_fc e oe he
  have c3 := same_fc d.w e.w hd he
  obtain ⟨u, hu⟩ : ∃ u, u = d.w := ⟨_, rfl⟩
  obtain ⟨v, hv⟩ : ∃ u, u = e.w := ⟨_, rfl⟩
  rw [← hu] at c1 c3 ⊢
  rw [← hv] at c2 c3 ⊢
  simp only [Df.cl] at c1 c2 ⊢
  refine FC.of_AW tok Try.func14 (by kernel_rfl) rfl Try.ntmps14 [] rfl rfl rfl ?_; intro w0 X0 Y f0 hI0 hX0
  (repeat (first | refine RG.call rfl rfl rfl rfl (c1) [] rfl rfl rfl rfl (.nil _) (.nil _) (fun _ h => False.elim h) rfl (A.ren_free _ _ rfl) rfl ?_ | refine RG.call rfl rfl rfl rfl (c2) [] rfl rfl rfl rfl (.nil _) (.nil _) (fun _ h => False.elim h) rfl (A.ren_free _ _ rfl) rfl ?_ | refine RG.call rfl rfl rfl rfl (c3) [] rfl rfl rfl rfl (.nil _) (.nil _) (fun _ h => False.elim h) rfl (A.ren_free _ _ rfl) rfl ?_ | refine K4 ?_ | refine L1 ?_ | refine L2 ?_ | refine RG.d ?_ | refine RG.dd ?_ | refine S1 ?_ | refine S2 ?_))
  (repeat (first | refine S6 ?_))
  exact ⟨⟨_, rfl, rfl⟩, rfl, .nil _⟩
theorem small_fc (d : Df) (od : d.ok) (hd : d.w.length ≤ BW) : FC Try.prog ge 11 [.agg d.cl] [] (.val (.bool (decide ((d.w.length : Int) ≤ 4000)))) [] NoP := by
  have c1 := rdef_fc d od hd
  obtain ⟨u, hu⟩ : ∃ u, u = d.w := ⟨_, rfl⟩
  rw [← hu] at c1 ⊢
  simp only [Df.cl] at c1 ⊢
  refine FC.of_AW tok Try.func11 (by kernel_rfl) rfl Try.ntmps11 [] rfl rfl rfl ?_; intro w0 X0 Y f0 hI0 hX0
  (repeat (first | refine RG.call rfl rfl rfl rfl (c1) [] rfl rfl rfl rfl (.nil _) (.nil _) (fun _ h => False.elim h) rfl (A.ren_free _ _ rfl) rfl ?_ | refine K4 ?_ | refine L1 ?_ | refine L2 ?_ | refine RG.d ?_ | refine S1 ?_ | refine S2 ?_))
  (repeat (first | refine S6 ?_))
  exact ⟨⟨_, rfl, rfl⟩, rfl, .nil _⟩
theorem encDef_fc (d : Df) (od : d.ok) (hd : d.w.length ≤ 100000) : FC Try.prog ge 34 [.agg d.cl] [] (.tup [byA d.w, i64 0]) [] NoP := by
  have c1 := def_fc d od (by unfold BW; omega)
  have c2 := bytes_fc d.w (by unfold BW; omega)
  unfold bytesA at c2
  rw [if_neg (by omega)] at c2
  obtain ⟨u, hu⟩ : ∃ u, u = d.w := ⟨_, rfl⟩
  rw [← hu] at c1 c2 ⊢
  simp only [Df.cl] at c1 ⊢
  refine FC.of_AW tok Try.func34 (by kernel_rfl) rfl Try.ntmps34 [] rfl rfl rfl ?_; intro w0 X0 Y f0 hI0 hX0
  (repeat (first | refine RG.call rfl rfl rfl rfl (c1) [] rfl rfl rfl rfl (.nil _) (.nil _) (fun _ h => False.elim h) rfl (A.ren_free _ _ rfl) rfl ?_ | refine RG.call rfl rfl rfl rfl (c2) [] rfl rfl rfl rfl (.nil _) (.nil _) (fun _ h => False.elim h) rfl (A.ren_free _ _ rfl) rfl ?_ | refine K4 ?_ | refine L1 ?_ | refine L2 ?_ | refine RG.d ?_ | refine S1 ?_ | refine S2 ?_))
  (repeat (first | refine S6 ?_))
  exact ⟨⟨_, rfl, rfl⟩, rfl, .nil _⟩
theorem encDefBig_fc (d : Df) (od : d.ok) (hd : d.w.length ≤ BW) (hb : 100000 < d.w.length) : FC Try.prog ge 34 [.agg d.cl] [] (.tup [.ro 0 [], i64 2]) [] NoP := by
  have c1 := def_fc d od hd
  have c2 := bytes_fc d.w hd
  unfold bytesA at c2
  rw [if_pos hb] at c2
  obtain ⟨u, hu⟩ : ∃ u, u = d.w := ⟨_, rfl⟩
  rw [← hu] at c1 c2
  simp only [Df.cl] at c1 ⊢
  refine FC.of_AW tok Try.func34 (by kernel_rfl) rfl Try.ntmps34 [] rfl rfl rfl ?_; intro w0 X0 Y f0 hI0 hX0
  (repeat (first | refine RG.call rfl rfl rfl rfl (c1) [] rfl rfl rfl rfl (.nil _) (.nil _) (fun _ h => False.elim h) rfl (A.ren_free _ _ rfl) rfl ?_ | refine RG.call rfl rfl rfl rfl (c2) [] rfl rfl rfl rfl (.nil _) (.nil _) (fun _ h => False.elim h) rfl (A.ren_free _ _ rfl) rfl ?_ | refine K4 ?_ | refine L1 ?_ | refine L2 ?_ | refine RG.d ?_ | refine S1 ?_ | refine S2 ?_))
  (repeat (first | refine S6 ?_))
  exact ⟨⟨_, rfl, rfl⟩, rfl, .nil _⟩
theorem lwritten_fc (d : Df) (od : d.ok) (hd : d.w.length ≤ 100000) : FC Try.prog ge 12 [.agg d.cl] [] (.agg [byA d.w, i64 0]) [] NoP := by
  have c := encDef_fc d od hd
  unfold byA at c ⊢
  obtain ⟨u, hu⟩ : ∃ u, u = d.w := ⟨_, rfl⟩
  rw [← hu] at c ⊢
  simp only [Df.cl] at c ⊢
  refine FC.of_AW tok Try.func12 (by kernel_rfl) rfl Try.ntmps12 [] rfl rfl rfl ?_; intro w0 X0 Y f0 hI0 hX0
  (repeat (first | refine RG.call rfl rfl rfl rfl (c) [] rfl rfl rfl rfl (.nil _) (.nil _) (fun _ h => False.elim h) rfl (A.ren_free _ _ rfl) rfl ?_ | refine K4 ?_ | refine L1 ?_ | refine L2 ?_ | refine L3 ?_ | refine RG.d ?_ | refine S1 ?_ | refine S2 ?_))
  (repeat (first | refine S6 ?_))
  exact ⟨⟨_, rfl, rfl⟩, rfl, .nil _⟩
theorem lwrittenBig_fc (d : Df) (od : d.ok) (hd : d.w.length ≤ BW) (hb : 100000 < d.w.length) : FC Try.prog ge 12 [.agg d.cl] [] (.agg [.ro 0 [], i64 2]) [] NoP := by
  have c := encDefBig_fc d od hd hb
  simp only [Df.cl] at c ⊢
  refine FC.of_AW tok Try.func12 (by kernel_rfl) rfl Try.ntmps12 [] rfl rfl rfl ?_; intro w0 X0 Y f0 hI0 hX0
  (repeat (first | refine RG.call rfl rfl rfl rfl (c) [] rfl rfl rfl rfl (.nil _) (.nil _) (fun _ h => False.elim h) rfl (A.ren_free _ _ rfl) rfl ?_ | refine K4 ?_ | refine L1 ?_ | refine L2 ?_ | refine L3 ?_ | refine RG.d ?_ | refine S1 ?_ | refine S2 ?_))
  (repeat (first | refine S6 ?_))
  exact ⟨⟨_, rfl, rfl⟩, rfl, .nil _⟩
theorem rwritten_fc (l : List Int) (hl : l.length ≤ 100000) : FC Try.prog ge 46 [rdi l] [] (.agg [byA l, i64 0]) [] NoP := by
  have c := rbytes_fc l (by unfold BW; omega)
  unfold byA at c ⊢
  refine FC.of_AW tok Try.func46 (by kernel_rfl) rfl Try.ntmps46 [] rfl rfl rfl ?_; intro w0 X0 Y f0 hI0 hX0
  (repeat (first | refine K4 ?_ | refine L2 ?_ | refine RG.d ?_ | refine S1 ?_ | refine S2 ?_))
  refine AW.condD rfl (fun k => absurd (show (100000 : Int) < (l.length : Int) from k) (by omega)) (fun _ => ?_)
  (repeat (first | refine RG.call rfl rfl rfl rfl (c) [] rfl rfl rfl rfl (.nil _) (.nil _) (fun _ h => False.elim h) rfl (A.ren_free _ _ rfl) rfl ?_ | refine K4 ?_ | refine L3 ?_ | refine RG.d ?_ | refine S1 ?_ | refine S2 ?_ | refine S3 ?_))
  (repeat (first | refine S6 ?_))
  exact ⟨⟨_, rfl, rfl⟩, rfl, .nil _⟩
theorem rdefIn_fc (d : Df) (od : d.ok) (hd : d.w.length ≤ 100000) : FC Try.prog ge 21 [.agg d.cl] [] (.agg [byA d.w, i64 0]) [] NoP := by
  have c1 := rdef_fc d od (by unfold BW; omega)
  have c2 := rwritten_fc d.w hd
  obtain ⟨u, hu⟩ : ∃ u, u = d.w := ⟨_, rfl⟩
  rw [← hu] at c1 c2 ⊢
  simp only [Df.cl] at c1 ⊢
  refine FC.of_AW tok Try.func21 (by kernel_rfl) rfl Try.ntmps21 [] rfl rfl rfl ?_; intro w0 X0 Y f0 hI0 hX0
  (repeat (first | refine RG.call rfl rfl rfl rfl (c1) [] rfl rfl rfl rfl (.nil _) (.nil _) (fun _ h => False.elim h) rfl (A.ren_free _ _ rfl) rfl ?_ | refine RG.call rfl rfl rfl rfl (c2) [] rfl rfl rfl rfl (.nil _) (.nil _) (fun _ h => False.elim h) rfl (A.ren_free _ _ rfl) rfl ?_ | refine L1 ?_ | refine L2 ?_ | refine L3 ?_ | refine RG.d ?_ | refine S1 ?_ | refine S2 ?_))
  (repeat (first | refine S6 ?_))
  exact ⟨⟨_, rfl, rfl⟩, rfl, .nil _⟩
end Go.Proofs.Ytmfccaidgaelcaa
