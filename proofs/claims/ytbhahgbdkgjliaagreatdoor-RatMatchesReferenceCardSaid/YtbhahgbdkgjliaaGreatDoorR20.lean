/- What rat.Parse reads of any text. No conditions. -/
import Derived.Test.YtbhahgbdkgjliaaGreatDoorR9p
import Derived.Test.YtbhahgbdkgjliaaGreatDoorSqA
set_option linter.unusedVariables false
set_option linter.unusedSimpArgs false
namespace Go.Proofs.YtbhahgbdkgjliaaGreatDoor
open Go.Abs Go Go.RowKit
namespace Rt
theorem toList_inj {a b : ByteArray} (h : a.toList = b.toList) : a = b := by
  rw [ByteArray.toList_eq, ByteArray.toList_eq] at h
  exact ByteArray.ext (Array.toList_inj.1 h)
theorem textS_list (n d : Int) : (textS n d).data.toList = if d = 1 then Lib.itoa n else Lib.itoa n ++ 47 :: Lib.itoa d := by
  unfold textS
  by_cases h : d = 1
  · rw [if_pos h, if_pos h]
  · rw [if_neg h, if_neg h, ByteArray.data_append, ByteArray.data_append, Array.toList_append, Array.toList_append]; rfl
open Classical in
/-- What is read of a text: the fraction whose text it is. -/
noncomputable def rd (s : ByteArray) : R := if h : ∃ q, Fit q ∧ textS q.num q.den = s then ok h.choose else bad
theorem rd_cases (s : ByteArray) : rd s = bad ∨ ∃ q, Fit q ∧ textS q.num q.den = s ∧ rd s = ok q := by
  unfold rd
  split
  · rename_i h; exact .inr ⟨_, h.choose_spec.1, h.choose_spec.2, rfl⟩
  · exact .inl rfl
theorem fit_valid {q : Rat} (h : Fit q) : validB q.num q.den = true := by
  have h1 := h.1
  have h2 := h.2
  have h3 := q.den_pos
  have h4 := q.reduced
  unfold M at h1 h2
  have e1 : (1 : Int) ≤ (q.den : Int) := by omega
  have e2 : (q.den : Int) ≤ 4611686018427387904 := by omega
  have e3 : -4611686018427387904 ≤ q.num := by omega
  have e4 : q.num ≤ 4611686018427387904 := by omega
  have e5 : Nat.gcd q.num.natAbs q.den = 1 := h4
  simp [validB, e1, e2, e3, e4, e5]
theorem valid_fit {n d : Int} (h : validB n d = true) : ∃ q : Rat, Fit q ∧ q.num = n ∧ (q.den : Int) = d := by
  simp only [validB, Bool.and_eq_true, decide_eq_true_eq] at h
  obtain ⟨⟨⟨⟨h1, h2⟩, h3⟩, h4⟩, h5⟩ := h
  obtain ⟨e, rfl⟩ : ∃ e : Nat, d = e := ⟨d.toNat, by omega⟩
  rw [Int.natAbs_natCast] at h5
  refine ⟨⟨n, e, by omega, h5⟩, ⟨?_, ?_⟩, rfl, rfl⟩
  · show n.natAbs ≤ M
    unfold M; omega
  · show e ≤ M
    unfold M; omega
theorem rd_of {s : ByteArray} {n d : Int} (h : ∀ q, Fit q → textS q.num q.den = s → n = q.num ∧ d = q.den) : parseR s n d = rd s := by
  unfold rd
  split
  · rename_i hq
    obtain ⟨h1, h2⟩ := hq.choose_spec
    obtain ⟨e1, e2⟩ := h _ h1 h2
    unfold parseR
    rw [e1, e2, if_pos ⟨fit_valid h1, by rw [h2]⟩]; rfl
  · rename_i hq
    unfold parseR
    rw [if_neg]
    rintro ⟨hv, ht⟩
    obtain ⟨q, h1, h2, h3⟩ := valid_fit hv
    exact hq ⟨q, h1, by rw [h2, h3]; exact toList_inj ht⟩
theorem rd_text {q : Rat} (hq : Fit q) {n d : Int} (h : ∀ q', Fit q' → textS q'.num q'.den = textS q.num q.den → n = q'.num ∧ d = q'.den) : rd (textS q.num q.den) = ok q := by
  rw [← rd_of h]
  obtain ⟨e1, e2⟩ := h q hq rfl
  unfold parseR
  rw [e1, e2, if_pos ⟨fit_valid hq, rfl⟩]; rfl
end Rt
theorem gi_S {w : World} (h : gi.p w) : ∃ tp v, w.var? Tryz.prog "strconv.ErrSyntax" = some #[.iface tp v] := (show _ ∧ _ ∧ _ from h).2.1
theorem gi_R {w : World} (h : gi.p w) : ∃ tp v, w.var? Tryz.prog "strconv.ErrRange" = some #[.iface tp v] := (show _ ∧ _ ∧ _ from h).2.2
theorem atoi_any (s : ByteArray) (hl : s.size ≤ 281474976710656) : ∃ n : Int, (-9223372036854775808 ≤ n ∧ n ≤ 9223372036854775807) ∧ (∀ m, Lib.atoiAll s.data.toList = .ok m → n = m) ∧
    FC Tryz.prog gi 67 [strA' s] [] (.tup [i64 n, .any]) [] NoP := by
  cases h : Lib.atoiAll s.data.toList with
  | ok v =>
    refine ⟨v, Lib.atoiAll_bounds h, fun m e => by cases e; rfl, FC_of_calls (enter_of Tryz.func67 rfl rfl) fun w vs _ hv => ?_⟩
    obtain ⟨a, rfl, e1⟩ := VL1 hv
    rw [e1.val]
    refine (Tryz.strconv_Atoi_ok s (by omega) v h w).mono ?_
    rintro e w' ⟨rfl, hw⟩
    refine ⟨_, rfl, fun Y hY => by unfold V; exact ⟨_, rfl, .cons (by simp only [V]) (.cons (by simp only [V]) .nil)⟩, ?_⟩
    rcases hw with rfl | ⟨t, rfl⟩
    · exact Below.refl _ _
    · exact Lib.bytesWorld_below _ _ _
  | «syntax» =>
    refine ⟨0, by omega, fun m e => (by cases e), FC_of_calls (enter_of Tryz.func67 rfl rfl) fun w vs hI hv => ?_⟩
    obtain ⟨a, rfl, e1⟩ := VL1 hv
    rw [e1.val]
    obtain ⟨tp, v, hvar⟩ := gi_S hI
    refine (Tryz.strconv_Atoi_syntax_var s hl h tp v w hvar).mono ?_
    rintro e w' ⟨N, rfl, _, _, hb⟩
    exact ⟨_, rfl, fun Y hY => by unfold V; exact ⟨_, rfl, .cons (by simp only [V]) (.cons (by simp only [V]) .nil)⟩, hb⟩
  | range =>
    refine ⟨Lib.atoiSat s.data.toList, Lib.atoiSat_bounds _, fun m e => (by cases e), FC_of_calls (enter_of Tryz.func67 rfl rfl) fun w vs hI hv => ?_⟩
    obtain ⟨a, rfl, e1⟩ := VL1 hv
    rw [e1.val]
    obtain ⟨tp, v, hvar⟩ := gi_R hI
    refine (Tryz.strconv_Atoi_range_var s hl h tp v w hvar).mono ?_
    rintro e w' ⟨N, rfl, _, _, hb⟩
    exact ⟨_, rfl, fun Y hY => by unfold V; exact ⟨_, rfl, .cons (by simp only [V]) (.cons (by simp only [V]) .nil)⟩, hb⟩
set_option maxHeartbeats 8000000 in
theorem parseA_fc (s : ByteArray) (n : Int) (hl : s.size ≤ 9223372036854775807) (hn : -9223372036854775808 ≤ n ∧ n ≤ 9223372036854775807) (hi : Lib.indexByte s.data.toList 47 = -1) (c2 : FC Tryz.prog gi 67 [strA' s] [] (.tup [i64 n, .any]) [] NoP) : FC Tryz.prog gi 50 [strA' s] [] (rtA (parseR s n 1)) [] NoP := by
  have c1 := cut_fc s 47 hl
  unfold cutA at c1
  rw [hi, if_neg (by decide)] at c1
  have c3 := valid_fc n 1 hn (by omega)
  have c4 := text_fc n 1 hn (by omega)
  unfold parseR
  cases hv : validB n 1 with
  | false =>
    rw [if_neg (by simp), Rt.bad]
    rw [hv] at c3
    refine FC.of_AW tok Tryz.func50 (by kernel_rfl) rfl Tryz.ntmps50 [] rfl rfl rfl ?_; intro w0 X0 Y f0 hI0 hX0
    (repeat (first | refine RG.call rfl rfl rfl rfl (c1) [] rfl rfl rfl rfl (.nil _) (.nil _) (fun _ h => False.elim h) rfl (A.ren_free _ _ rfl) rfl ?_ | refine RG.call rfl rfl rfl rfl (c2) [] rfl rfl rfl rfl (.nil _) (.nil _) (fun _ h => False.elim h) rfl (A.ren_free _ _ rfl) rfl ?_ | refine RG.call rfl rfl rfl rfl (c3) [] rfl rfl rfl rfl (.nil _) (.nil _) (fun _ h => False.elim h) rfl (A.ren_free _ _ rfl) rfl ?_ | refine RG.skip rfl rfl rfl ?_ | refine RG.val tok rfl rfl rfl trivial rfl (iv_i64 (by omega)) ?_ | refine RG.val tok rfl rfl rfl trivial rfl (iv_u64 (by omega)) ?_ | refine RG.val tok rfl rfl rfl trivial rfl rfl ?_ | refine RG.val tok rfl rfl rfl (by omega) rfl rfl ?_ | refine RG.idx tok rfl rfl rfl rfl rfl rfl (Go.Abs.ints_at (by omega)) ⟨by omega, by omega⟩ rfl ?_ | refine RG.idx tok rfl rfl rfl rfl rfl rfl (Go.Abs.rows_at (by omega)) ⟨by omega, by omega⟩ rfl ?_ | refine RG.eqS eok rfl rfl rfl rfl rfl rfl rfl rfl rfl rfl rfl ?_ | refine RG.eqA eok rfl rfl rfl rfl rfl rfl rfl rfl rfl rfl rfl rfl ?_ | refine RG.load tok rfl rfl rfl rfl rfl rfl ?_ | refine RG.new tok rfl rfl rfl trivial rfl rfl ?_ | refine RG.store tok rfl rfl rfl rfl rfl rfl rfl rfl ?_ | refine RG.done rfl ?_ | refine RG.doneD (by kernel_rfl) rfl (by kernel_rfl) ?_ | refine AW.seq ?_ | refine AW.region ?_ | refine AW.skip ?_ | refine AW.block ?_ | refine AW.exit ?_ | refine AW.condT rfl ?_ | refine AW.condF rfl ?_))
    (repeat (first | refine RG.skip rfl rfl rfl ?_ | refine RG.val tok rfl rfl rfl trivial rfl (iv_i64 (by omega)) ?_ | refine RG.val tok rfl rfl rfl trivial rfl (iv_u64 (by omega)) ?_ | refine RG.val tok rfl rfl rfl trivial rfl rfl ?_ | refine RG.val tok rfl rfl rfl (by omega) rfl rfl ?_ | refine RG.idx tok rfl rfl rfl rfl rfl rfl (Go.Abs.ints_at (by omega)) ⟨by omega, by omega⟩ rfl ?_ | refine RG.idx tok rfl rfl rfl rfl rfl rfl (Go.Abs.rows_at (by omega)) ⟨by omega, by omega⟩ rfl ?_ | refine RG.eqS eok rfl rfl rfl rfl rfl rfl rfl rfl rfl rfl rfl ?_ | refine RG.eqA eok rfl rfl rfl rfl rfl rfl rfl rfl rfl rfl rfl rfl ?_ | refine RG.load tok rfl rfl rfl rfl rfl rfl ?_ | refine RG.new tok rfl rfl rfl trivial rfl rfl ?_ | refine RG.store tok rfl rfl rfl rfl rfl rfl rfl rfl ?_ | refine RG.done rfl ?_ | refine RG.doneD (by kernel_rfl) rfl (by kernel_rfl) ?_ | refine AW.seq ?_ | refine AW.region ?_ | refine AW.skip ?_ | refine AW.block ?_ | refine AW.exit ?_ | refine AW.ret ?_ | refine AW.condT rfl ?_ | refine AW.condF rfl ?_))
    exact ⟨⟨_, rfl, rfl⟩, rfl, .nil _⟩
  | true =>
    rw [hv] at c3
    by_cases ht : (textS n 1).toList = s.toList
    · rw [if_pos ⟨rfl, ht⟩]
      refine FC.of_AW tok Tryz.func50 (by kernel_rfl) rfl Tryz.ntmps50 [] rfl rfl rfl ?_; intro w0 X0 Y f0 hI0 hX0
      (repeat (first | refine RG.call rfl rfl rfl rfl (c1) [] rfl rfl rfl rfl (.nil _) (.nil _) (fun _ h => False.elim h) rfl (A.ren_free _ _ rfl) rfl ?_ | refine RG.call rfl rfl rfl rfl (c2) [] rfl rfl rfl rfl (.nil _) (.nil _) (fun _ h => False.elim h) rfl (A.ren_free _ _ rfl) rfl ?_ | refine RG.call rfl rfl rfl rfl (c3) [] rfl rfl rfl rfl (.nil _) (.nil _) (fun _ h => False.elim h) rfl (A.ren_free _ _ rfl) rfl ?_ | refine RG.call rfl rfl rfl rfl (c4) [] rfl rfl rfl rfl (.nil _) (.nil _) (fun _ h => False.elim h) rfl (A.ren_free _ _ rfl) rfl ?_ | refine RG.skip rfl rfl rfl ?_ | refine RG.val tok rfl rfl rfl trivial rfl (iv_i64 (by omega)) ?_ | refine RG.val tok rfl rfl rfl trivial rfl (iv_u64 (by omega)) ?_ | refine RG.val tok rfl rfl rfl trivial rfl rfl ?_ | refine RG.val tok rfl rfl rfl (by omega) rfl rfl ?_ | refine RG.idx tok rfl rfl rfl rfl rfl rfl (Go.Abs.ints_at (by omega)) ⟨by omega, by omega⟩ rfl ?_ | refine RG.idx tok rfl rfl rfl rfl rfl rfl (Go.Abs.rows_at (by omega)) ⟨by omega, by omega⟩ rfl ?_ | refine RG.eqS eok rfl rfl rfl rfl rfl rfl rfl rfl rfl rfl rfl ?_ | refine RG.eqA eok rfl rfl rfl rfl rfl rfl rfl rfl rfl rfl rfl rfl ?_ | refine RG.load tok rfl rfl rfl rfl rfl rfl ?_ | refine RG.new tok rfl rfl rfl trivial rfl rfl ?_ | refine RG.store tok rfl rfl rfl rfl rfl rfl rfl rfl ?_ | refine RG.done rfl ?_ | refine RG.doneD (by kernel_rfl) rfl (by kernel_rfl) ?_ | refine AW.seq ?_ | refine AW.region ?_ | refine AW.skip ?_ | refine AW.block ?_ | refine AW.exit ?_ | refine AW.condT rfl ?_ | refine AW.condF rfl ?_))
      refine AW.cond rfl (fun k => absurd k (by simp [ht])) (fun _ => ?_)
      (repeat (first | refine RG.skip rfl rfl rfl ?_ | refine RG.val tok rfl rfl rfl trivial rfl (iv_i64 (by omega)) ?_ | refine RG.val tok rfl rfl rfl trivial rfl (iv_u64 (by omega)) ?_ | refine RG.val tok rfl rfl rfl trivial rfl rfl ?_ | refine RG.val tok rfl rfl rfl (by omega) rfl rfl ?_ | refine RG.idx tok rfl rfl rfl rfl rfl rfl (Go.Abs.ints_at (by omega)) ⟨by omega, by omega⟩ rfl ?_ | refine RG.idx tok rfl rfl rfl rfl rfl rfl (Go.Abs.rows_at (by omega)) ⟨by omega, by omega⟩ rfl ?_ | refine RG.eqS eok rfl rfl rfl rfl rfl rfl rfl rfl rfl rfl rfl ?_ | refine RG.eqA eok rfl rfl rfl rfl rfl rfl rfl rfl rfl rfl rfl rfl ?_ | refine RG.load tok rfl rfl rfl rfl rfl rfl ?_ | refine RG.new tok rfl rfl rfl trivial rfl rfl ?_ | refine RG.store tok rfl rfl rfl rfl rfl rfl rfl rfl ?_ | refine RG.done rfl ?_ | refine RG.doneD (by kernel_rfl) rfl (by kernel_rfl) ?_ | refine AW.seq ?_ | refine AW.region ?_ | refine AW.skip ?_ | refine AW.block ?_ | refine AW.exit ?_ | refine AW.ret ?_ | refine AW.condT rfl ?_ | refine AW.condF rfl ?_))
      exact ⟨⟨_, rfl, rfl⟩, rfl, .nil _⟩
    · rw [if_neg (fun h => ht h.2), Rt.bad]
      refine FC.of_AW tok Tryz.func50 (by kernel_rfl) rfl Tryz.ntmps50 [] rfl rfl rfl ?_; intro w0 X0 Y f0 hI0 hX0
      (repeat (first | refine RG.call rfl rfl rfl rfl (c1) [] rfl rfl rfl rfl (.nil _) (.nil _) (fun _ h => False.elim h) rfl (A.ren_free _ _ rfl) rfl ?_ | refine RG.call rfl rfl rfl rfl (c2) [] rfl rfl rfl rfl (.nil _) (.nil _) (fun _ h => False.elim h) rfl (A.ren_free _ _ rfl) rfl ?_ | refine RG.call rfl rfl rfl rfl (c3) [] rfl rfl rfl rfl (.nil _) (.nil _) (fun _ h => False.elim h) rfl (A.ren_free _ _ rfl) rfl ?_ | refine RG.call rfl rfl rfl rfl (c4) [] rfl rfl rfl rfl (.nil _) (.nil _) (fun _ h => False.elim h) rfl (A.ren_free _ _ rfl) rfl ?_ | refine RG.skip rfl rfl rfl ?_ | refine RG.val tok rfl rfl rfl trivial rfl (iv_i64 (by omega)) ?_ | refine RG.val tok rfl rfl rfl trivial rfl (iv_u64 (by omega)) ?_ | refine RG.val tok rfl rfl rfl trivial rfl rfl ?_ | refine RG.val tok rfl rfl rfl (by omega) rfl rfl ?_ | refine RG.idx tok rfl rfl rfl rfl rfl rfl (Go.Abs.ints_at (by omega)) ⟨by omega, by omega⟩ rfl ?_ | refine RG.idx tok rfl rfl rfl rfl rfl rfl (Go.Abs.rows_at (by omega)) ⟨by omega, by omega⟩ rfl ?_ | refine RG.eqS eok rfl rfl rfl rfl rfl rfl rfl rfl rfl rfl rfl ?_ | refine RG.eqA eok rfl rfl rfl rfl rfl rfl rfl rfl rfl rfl rfl rfl ?_ | refine RG.load tok rfl rfl rfl rfl rfl rfl ?_ | refine RG.new tok rfl rfl rfl trivial rfl rfl ?_ | refine RG.store tok rfl rfl rfl rfl rfl rfl rfl rfl ?_ | refine RG.done rfl ?_ | refine RG.doneD (by kernel_rfl) rfl (by kernel_rfl) ?_ | refine AW.seq ?_ | refine AW.region ?_ | refine AW.skip ?_ | refine AW.block ?_ | refine AW.exit ?_ | refine AW.condT rfl ?_ | refine AW.condF rfl ?_))
      refine AW.cond rfl (fun _ => ?_) (fun k => absurd k (by simp [ht]))
      (repeat (first | refine RG.skip rfl rfl rfl ?_ | refine RG.val tok rfl rfl rfl trivial rfl (iv_i64 (by omega)) ?_ | refine RG.val tok rfl rfl rfl trivial rfl (iv_u64 (by omega)) ?_ | refine RG.val tok rfl rfl rfl trivial rfl rfl ?_ | refine RG.val tok rfl rfl rfl (by omega) rfl rfl ?_ | refine RG.idx tok rfl rfl rfl rfl rfl rfl (Go.Abs.ints_at (by omega)) ⟨by omega, by omega⟩ rfl ?_ | refine RG.idx tok rfl rfl rfl rfl rfl rfl (Go.Abs.rows_at (by omega)) ⟨by omega, by omega⟩ rfl ?_ | refine RG.eqS eok rfl rfl rfl rfl rfl rfl rfl rfl rfl rfl rfl ?_ | refine RG.eqA eok rfl rfl rfl rfl rfl rfl rfl rfl rfl rfl rfl rfl ?_ | refine RG.load tok rfl rfl rfl rfl rfl rfl ?_ | refine RG.new tok rfl rfl rfl trivial rfl rfl ?_ | refine RG.store tok rfl rfl rfl rfl rfl rfl rfl rfl ?_ | refine RG.done rfl ?_ | refine RG.doneD (by kernel_rfl) rfl (by kernel_rfl) ?_ | refine AW.seq ?_ | refine AW.region ?_ | refine AW.skip ?_ | refine AW.block ?_ | refine AW.exit ?_ | refine AW.ret ?_ | refine AW.condT rfl ?_ | refine AW.condF rfl ?_))
      exact ⟨⟨_, rfl, rfl⟩, rfl, .nil _⟩
set_option maxHeartbeats 8000000 in
theorem parseB_fc (s s1 s2 : ByteArray) (m : Nat) (n d : Int) (hs : s.size ≤ 9223372036854775807) (hn : -9223372036854775808 ≤ n ∧ n ≤ 9223372036854775807) (hd : -9223372036854775808 ≤ d ∧ d ≤ 9223372036854775807) (hi : Lib.indexByte s.data.toList 47 = m)
    (e1 : s1 = s.extract 0 m) (e2 : s2 = s.extract (m + 1) s.size) (c2 : FC Tryz.prog gi 67 [strA' s1] [] (.tup [i64 n, .any]) [] NoP) (c2' : FC Tryz.prog gi 67 [strA' s2] [] (.tup [i64 d, .any]) [] NoP) : FC Tryz.prog gi 50 [strA' s] [] (rtA (parseR s n d)) [] NoP := by
  have c1 := cut_fc s 47 (by omega)
  unfold cutA at c1
  rw [hi, if_pos (Int.natCast_nonneg m), Int.toNat_natCast] at c1
  have c3 := valid_fc n d hn hd
  have c4 := text_fc n d hn hd
  unfold parseR
  rw [← e1, ← e2] at c1
  cases hv : validB n d with
  | false =>
    rw [if_neg (by simp), Rt.bad]
    rw [hv] at c3
    refine FC.of_AW tok Tryz.func50 (by kernel_rfl) rfl Tryz.ntmps50 [] rfl rfl rfl ?_; intro w0 X0 Y f0 hI0 hX0
    (repeat (first | refine RG.call rfl rfl rfl rfl (c1) [] rfl rfl rfl rfl (.nil _) (.nil _) (fun _ h => False.elim h) rfl (A.ren_free _ _ rfl) rfl ?_ | refine RG.call rfl rfl rfl rfl (c2) [] rfl rfl rfl rfl (.nil _) (.nil _) (fun _ h => False.elim h) rfl (A.ren_free _ _ rfl) rfl ?_ | refine RG.call rfl rfl rfl rfl (c2') [] rfl rfl rfl rfl (.nil _) (.nil _) (fun _ h => False.elim h) rfl (A.ren_free _ _ rfl) rfl ?_ | refine RG.call rfl rfl rfl rfl (c3) [] rfl rfl rfl rfl (.nil _) (.nil _) (fun _ h => False.elim h) rfl (A.ren_free _ _ rfl) rfl ?_ | refine RG.skip rfl rfl rfl ?_ | refine RG.val tok rfl rfl rfl trivial rfl (iv_i64 (by omega)) ?_ | refine RG.val tok rfl rfl rfl trivial rfl (iv_u64 (by omega)) ?_ | refine RG.val tok rfl rfl rfl trivial rfl rfl ?_ | refine RG.val tok rfl rfl rfl (by omega) rfl rfl ?_ | refine RG.idx tok rfl rfl rfl rfl rfl rfl (Go.Abs.ints_at (by omega)) ⟨by omega, by omega⟩ rfl ?_ | refine RG.idx tok rfl rfl rfl rfl rfl rfl (Go.Abs.rows_at (by omega)) ⟨by omega, by omega⟩ rfl ?_ | refine RG.eqS eok rfl rfl rfl rfl rfl rfl rfl rfl rfl rfl rfl ?_ | refine RG.eqA eok rfl rfl rfl rfl rfl rfl rfl rfl rfl rfl rfl rfl ?_ | refine RG.load tok rfl rfl rfl rfl rfl rfl ?_ | refine RG.new tok rfl rfl rfl trivial rfl rfl ?_ | refine RG.store tok rfl rfl rfl rfl rfl rfl rfl rfl ?_ | refine RG.done rfl ?_ | refine RG.doneD (by kernel_rfl) rfl (by kernel_rfl) ?_ | refine AW.seq ?_ | refine AW.region ?_ | refine AW.skip ?_ | refine AW.block ?_ | refine AW.exit ?_ | refine AW.condT rfl ?_ | refine AW.condF rfl ?_))
    (repeat (first | refine RG.skip rfl rfl rfl ?_ | refine RG.val tok rfl rfl rfl trivial rfl (iv_i64 (by omega)) ?_ | refine RG.val tok rfl rfl rfl trivial rfl (iv_u64 (by omega)) ?_ | refine RG.val tok rfl rfl rfl trivial rfl rfl ?_ | refine RG.val tok rfl rfl rfl (by omega) rfl rfl ?_ | refine RG.idx tok rfl rfl rfl rfl rfl rfl (Go.Abs.ints_at (by omega)) ⟨by omega, by omega⟩ rfl ?_ | refine RG.idx tok rfl rfl rfl rfl rfl rfl (Go.Abs.rows_at (by omega)) ⟨by omega, by omega⟩ rfl ?_ | refine RG.eqS eok rfl rfl rfl rfl rfl rfl rfl rfl rfl rfl rfl ?_ | refine RG.eqA eok rfl rfl rfl rfl rfl rfl rfl rfl rfl rfl rfl rfl ?_ | refine RG.load tok rfl rfl rfl rfl rfl rfl ?_ | refine RG.new tok rfl rfl rfl trivial rfl rfl ?_ | refine RG.store tok rfl rfl rfl rfl rfl rfl rfl rfl ?_ | refine RG.done rfl ?_ | refine RG.doneD (by kernel_rfl) rfl (by kernel_rfl) ?_ | refine AW.seq ?_ | refine AW.region ?_ | refine AW.skip ?_ | refine AW.block ?_ | refine AW.exit ?_ | refine AW.ret ?_ | refine AW.condT rfl ?_ | refine AW.condF rfl ?_))
    exact ⟨⟨_, rfl, rfl⟩, rfl, .nil _⟩
  | true =>
    rw [hv] at c3
    by_cases ht : (textS n d).toList = s.toList
    · rw [if_pos ⟨rfl, ht⟩]
      refine FC.of_AW tok Tryz.func50 (by kernel_rfl) rfl Tryz.ntmps50 [] rfl rfl rfl ?_; intro w0 X0 Y f0 hI0 hX0
      (repeat (first | refine RG.call rfl rfl rfl rfl (c1) [] rfl rfl rfl rfl (.nil _) (.nil _) (fun _ h => False.elim h) rfl (A.ren_free _ _ rfl) rfl ?_ | refine RG.call rfl rfl rfl rfl (c2) [] rfl rfl rfl rfl (.nil _) (.nil _) (fun _ h => False.elim h) rfl (A.ren_free _ _ rfl) rfl ?_ | refine RG.call rfl rfl rfl rfl (c2') [] rfl rfl rfl rfl (.nil _) (.nil _) (fun _ h => False.elim h) rfl (A.ren_free _ _ rfl) rfl ?_ | refine RG.call rfl rfl rfl rfl (c3) [] rfl rfl rfl rfl (.nil _) (.nil _) (fun _ h => False.elim h) rfl (A.ren_free _ _ rfl) rfl ?_ | refine RG.call rfl rfl rfl rfl (c4) [] rfl rfl rfl rfl (.nil _) (.nil _) (fun _ h => False.elim h) rfl (A.ren_free _ _ rfl) rfl ?_ | refine RG.skip rfl rfl rfl ?_ | refine RG.val tok rfl rfl rfl trivial rfl (iv_i64 (by omega)) ?_ | refine RG.val tok rfl rfl rfl trivial rfl (iv_u64 (by omega)) ?_ | refine RG.val tok rfl rfl rfl trivial rfl rfl ?_ | refine RG.val tok rfl rfl rfl (by omega) rfl rfl ?_ | refine RG.idx tok rfl rfl rfl rfl rfl rfl (Go.Abs.ints_at (by omega)) ⟨by omega, by omega⟩ rfl ?_ | refine RG.idx tok rfl rfl rfl rfl rfl rfl (Go.Abs.rows_at (by omega)) ⟨by omega, by omega⟩ rfl ?_ | refine RG.eqS eok rfl rfl rfl rfl rfl rfl rfl rfl rfl rfl rfl ?_ | refine RG.eqA eok rfl rfl rfl rfl rfl rfl rfl rfl rfl rfl rfl rfl ?_ | refine RG.load tok rfl rfl rfl rfl rfl rfl ?_ | refine RG.new tok rfl rfl rfl trivial rfl rfl ?_ | refine RG.store tok rfl rfl rfl rfl rfl rfl rfl rfl ?_ | refine RG.done rfl ?_ | refine RG.doneD (by kernel_rfl) rfl (by kernel_rfl) ?_ | refine AW.seq ?_ | refine AW.region ?_ | refine AW.skip ?_ | refine AW.block ?_ | refine AW.exit ?_ | refine AW.condT rfl ?_ | refine AW.condF rfl ?_))
      refine AW.cond rfl (fun k => absurd k (by simp [ht])) (fun _ => ?_)
      (repeat (first | refine RG.skip rfl rfl rfl ?_ | refine RG.val tok rfl rfl rfl trivial rfl (iv_i64 (by omega)) ?_ | refine RG.val tok rfl rfl rfl trivial rfl (iv_u64 (by omega)) ?_ | refine RG.val tok rfl rfl rfl trivial rfl rfl ?_ | refine RG.val tok rfl rfl rfl (by omega) rfl rfl ?_ | refine RG.idx tok rfl rfl rfl rfl rfl rfl (Go.Abs.ints_at (by omega)) ⟨by omega, by omega⟩ rfl ?_ | refine RG.idx tok rfl rfl rfl rfl rfl rfl (Go.Abs.rows_at (by omega)) ⟨by omega, by omega⟩ rfl ?_ | refine RG.eqS eok rfl rfl rfl rfl rfl rfl rfl rfl rfl rfl rfl ?_ | refine RG.eqA eok rfl rfl rfl rfl rfl rfl rfl rfl rfl rfl rfl rfl ?_ | refine RG.load tok rfl rfl rfl rfl rfl rfl ?_ | refine RG.new tok rfl rfl rfl trivial rfl rfl ?_ | refine RG.store tok rfl rfl rfl rfl rfl rfl rfl rfl ?_ | refine RG.done rfl ?_ | refine RG.doneD (by kernel_rfl) rfl (by kernel_rfl) ?_ | refine AW.seq ?_ | refine AW.region ?_ | refine AW.skip ?_ | refine AW.block ?_ | refine AW.exit ?_ | refine AW.ret ?_ | refine AW.condT rfl ?_ | refine AW.condF rfl ?_))
      exact ⟨⟨_, rfl, rfl⟩, rfl, .nil _⟩
    · rw [if_neg (fun h => ht h.2), Rt.bad]
      refine FC.of_AW tok Tryz.func50 (by kernel_rfl) rfl Tryz.ntmps50 [] rfl rfl rfl ?_; intro w0 X0 Y f0 hI0 hX0
      (repeat (first | refine RG.call rfl rfl rfl rfl (c1) [] rfl rfl rfl rfl (.nil _) (.nil _) (fun _ h => False.elim h) rfl (A.ren_free _ _ rfl) rfl ?_ | refine RG.call rfl rfl rfl rfl (c2) [] rfl rfl rfl rfl (.nil _) (.nil _) (fun _ h => False.elim h) rfl (A.ren_free _ _ rfl) rfl ?_ | refine RG.call rfl rfl rfl rfl (c2') [] rfl rfl rfl rfl (.nil _) (.nil _) (fun _ h => False.elim h) rfl (A.ren_free _ _ rfl) rfl ?_ | refine RG.call rfl rfl rfl rfl (c3) [] rfl rfl rfl rfl (.nil _) (.nil _) (fun _ h => False.elim h) rfl (A.ren_free _ _ rfl) rfl ?_ | refine RG.call rfl rfl rfl rfl (c4) [] rfl rfl rfl rfl (.nil _) (.nil _) (fun _ h => False.elim h) rfl (A.ren_free _ _ rfl) rfl ?_ | refine RG.skip rfl rfl rfl ?_ | refine RG.val tok rfl rfl rfl trivial rfl (iv_i64 (by omega)) ?_ | refine RG.val tok rfl rfl rfl trivial rfl (iv_u64 (by omega)) ?_ | refine RG.val tok rfl rfl rfl trivial rfl rfl ?_ | refine RG.val tok rfl rfl rfl (by omega) rfl rfl ?_ | refine RG.idx tok rfl rfl rfl rfl rfl rfl (Go.Abs.ints_at (by omega)) ⟨by omega, by omega⟩ rfl ?_ | refine RG.idx tok rfl rfl rfl rfl rfl rfl (Go.Abs.rows_at (by omega)) ⟨by omega, by omega⟩ rfl ?_ | refine RG.eqS eok rfl rfl rfl rfl rfl rfl rfl rfl rfl rfl rfl ?_ | refine RG.eqA eok rfl rfl rfl rfl rfl rfl rfl rfl rfl rfl rfl rfl ?_ | refine RG.load tok rfl rfl rfl rfl rfl rfl ?_ | refine RG.new tok rfl rfl rfl trivial rfl rfl ?_ | refine RG.store tok rfl rfl rfl rfl rfl rfl rfl rfl ?_ | refine RG.done rfl ?_ | refine RG.doneD (by kernel_rfl) rfl (by kernel_rfl) ?_ | refine AW.seq ?_ | refine AW.region ?_ | refine AW.skip ?_ | refine AW.block ?_ | refine AW.exit ?_ | refine AW.condT rfl ?_ | refine AW.condF rfl ?_))
      refine AW.cond rfl (fun _ => ?_) (fun k => absurd k (by simp [ht]))
      (repeat (first | refine RG.skip rfl rfl rfl ?_ | refine RG.val tok rfl rfl rfl trivial rfl (iv_i64 (by omega)) ?_ | refine RG.val tok rfl rfl rfl trivial rfl (iv_u64 (by omega)) ?_ | refine RG.val tok rfl rfl rfl trivial rfl rfl ?_ | refine RG.val tok rfl rfl rfl (by omega) rfl rfl ?_ | refine RG.idx tok rfl rfl rfl rfl rfl rfl (Go.Abs.ints_at (by omega)) ⟨by omega, by omega⟩ rfl ?_ | refine RG.idx tok rfl rfl rfl rfl rfl rfl (Go.Abs.rows_at (by omega)) ⟨by omega, by omega⟩ rfl ?_ | refine RG.eqS eok rfl rfl rfl rfl rfl rfl rfl rfl rfl rfl rfl ?_ | refine RG.eqA eok rfl rfl rfl rfl rfl rfl rfl rfl rfl rfl rfl rfl ?_ | refine RG.load tok rfl rfl rfl rfl rfl rfl ?_ | refine RG.new tok rfl rfl rfl trivial rfl rfl ?_ | refine RG.store tok rfl rfl rfl rfl rfl rfl rfl rfl ?_ | refine RG.done rfl ?_ | refine RG.doneD (by kernel_rfl) rfl (by kernel_rfl) ?_ | refine AW.seq ?_ | refine AW.region ?_ | refine AW.skip ?_ | refine AW.block ?_ | refine AW.exit ?_ | refine AW.ret ?_ | refine AW.condT rfl ?_ | refine AW.condF rfl ?_))
      exact ⟨⟨_, rfl, rfl⟩, rfl, .nil _⟩
theorem extract_list (s : ByteArray) (a b : Nat) : (s.extract a b).data.toList = (s.data.toList.take b).drop a := by
  rw [ByteArray.data_extract, Array.toList_extract, List.extract_eq_take_drop, List.drop_take]
theorem parse_nums (s : ByteArray) (hl : s.size ≤ 281474976710656) : ∃ n d : Int, (∀ q, Rt.Fit q → textS q.num q.den = s → n = q.num ∧ d = q.den) ∧ FC Tryz.prog gi 50 [strA' s] [] (rtA (parseR s n d)) [] NoP := by
  have i64n : ∀ q, Rt.Fit q → (-9223372036854775808 ≤ q.num ∧ q.num ≤ 9223372036854775807) ∧ (-9223372036854775808 ≤ (q.den : Int) ∧ (q.den : Int) ≤ 9223372036854775807) := fun q h => by
    have h1 := h.1
    have h2 := h.2
    unfold Rt.M at h1 h2
    omega
  have hsz : s.data.toList.length = s.size := by rw [Array.length_toList]; rfl
  have hb := indexByte_bound 47 s.data.toList
  by_cases hi : Lib.indexByte s.data.toList 47 = -1
  · obtain ⟨n, h1, h2, c⟩ := atoi_any s hl
    refine ⟨n, 1, fun q hq e => ?_, parseA_fc s n (by omega) h1 hi c⟩
    have e2 := Rt.textS_list q.num q.den
    rw [e] at e2
    by_cases h : (q.den : Int) = 1
    · rw [if_pos h] at e2
      exact ⟨h2 _ (by rw [e2]; exact Rt.atoi_itoa _ (i64n q hq).1), h.symm⟩
    · rw [if_neg h] at e2
      rw [e2, Rt.index_at 47 _ _ (Rt.itoa_ne47 _)] at hi
      omega
  · obtain ⟨m, hm⟩ : ∃ m : Nat, Lib.indexByte s.data.toList 47 = m := ⟨(Lib.indexByte s.data.toList 47).toNat, by omega⟩
    have l1 : (s.extract 0 m).size ≤ 281474976710656 := by rw [ByteArray.size_extract]; omega
    have l2 : (s.extract (m + 1) s.size).size ≤ 281474976710656 := by rw [ByteArray.size_extract]; omega
    obtain ⟨n, h1, h2, c⟩ := atoi_any (s.extract 0 m) l1
    obtain ⟨d, h3, h4, c'⟩ := atoi_any (s.extract (m + 1) s.size) l2
    refine ⟨n, d, fun q hq e => ?_, parseB_fc s _ _ m n d (by omega) h1 h3 hm rfl rfl c c'⟩
    have e2 := Rt.textS_list q.num q.den
    rw [e] at e2
    by_cases h : (q.den : Int) = 1
    · rw [if_pos h] at e2
      rw [e2, Rt.index_none 47 _ (Rt.itoa_ne47 _)] at hi
      exact absurd rfl hi
    · rw [if_neg h] at e2
      have hm2 := hm
      rw [e2, Rt.index_at 47 _ _ (Rt.itoa_ne47 _)] at hm2
      have hm3 : (Lib.itoa q.num).length = m := by omega
      refine ⟨h2 _ ?_, h4 _ ?_⟩
      · rw [extract_list, e2, List.drop_zero, List.take_left' hm3]; exact Rt.atoi_itoa _ (i64n q hq).1
      · rw [extract_list, ← hsz, List.take_length, e2, ← hm3, List.drop_append]
        simp only [Nat.add_sub_cancel_left, List.drop_succ_cons, List.drop_zero]
        rw [List.drop_of_length_le (by omega), List.nil_append]
        exact Rt.atoi_itoa _ (i64n q hq).2
theorem parsed_any (s : ByteArray) (hl : s.size ≤ 281474976710656) : FC Tryz.prog gi 28 [strA' s] [] (lawA (Rt.rd s)) [] NoP := by
  obtain ⟨n, d, h, c⟩ := parse_nums s hl
  rw [← Rt.rd_of h]
  exact parsed_fc c
theorem rd_own {q : Rat} (hq : Rt.Fit q) (hl : (textS q.num q.den).size ≤ 281474976710656) : Rt.rd (textS q.num q.den) = Rt.ok q := by
  obtain ⟨n, d, h, _⟩ := parse_nums (textS q.num q.den) hl
  exact Rt.rd_text hq h
end Go.Proofs.YtbhahgbdkgjliaaGreatDoor
