/- The maker of programs: what statements cost, and how great they are. No program. -/
import Derived.Test.YtmfccaidgaelcaaEp7
set_option linter.unusedVariables false
set_option linter.unusedSimpArgs false
namespace Go.Proofs.Ytmfccaidgaelcaa
section
variable {E : Ev}
theorem zE_w : zE.w = [0, 0, 0, 0] := rfl
theorem zC_w : zC.w = [0, 0, 0] := rfl
/-- A statement's words, where it has no lists. -/
theorem stm_w (i op n m v : Int) (x y : Ex) (c : Co) : (stm i op n m v x y c).w = i :: op :: n :: m :: v :: (x.w ++ (y.w ++ (c.w ++ [0, 0, 0, 0]))) := by
  simp [Sm.w, exW, smW]
theorem stm_len (i op n m v : Int) (x y : Ex) (c : Co) : (stm i op n m v x y c).w.length = 9 + x.w.length + y.w.length + c.w.length := by
  rw [stm_w]; simp only [List.length_cons, List.length_append, List.length_nil]; omega
theorem stm_sml {i op n m v : Int} {x y : Ex} {c : Co} (hi : -2000000 ≤ i ∧ i ≤ 2000000) (ho : -2000000 ≤ op ∧ op ≤ 2000000) (hn : -2000000 ≤ n ∧ n ≤ 2000000) (hm : -2000000 ≤ m ∧ m ≤ 2000000) (hv : -2000000 ≤ v ∧ v ≤ 2000000) (hx : Sml x.w) (hy : Sml y.w) (hc : Sml c.w) :
    Sml (stm i op n m v x y c).w := by
  rw [stm_w]
  exact .cons hi (.cons ho (.cons hn (.cons hm (.cons hv (hx.app (hy.app (hc.app (.cons (by omega) (.cons (by omega) (.cons (by omega) (.cons (by omega) .nil)))))))))))
theorem zE_sml : Sml zE.w := .cons (by omega) (.cons (by omega) (.cons (by omega) (.cons (by simp) .nil)))
theorem zC_sml : Sml zC.w := .cons (by omega) (.cons (by simp) (.cons (by simp) .nil))
theorem num_sml (n : Nat) (h : n < 1000) : Sml (numE n).w := sml_num ⟨by omega, by omega⟩
theorem num_len (v : Int) : (numE v).w.length = 4 := by simp [Ex.w, exW]
theorem eB1 : eB 1 = 12 := rfl
theorem eB2 : eB 2 = 28 := rfl
theorem cB1 : cB 1 = 57 := rfl
/-- The words of statements. -/
def Wd (l : List Sm) (n : Nat) : Prop := (fmW Sm.w l).length ≤ n ∧ Sml (fmW Sm.w l)
theorem Wd.nil : Wd [] 0 := ⟨Nat.le_refl _, Sml.nil⟩
theorem Wd.one {s : Sm} {n : Nat} (h : s.w.length ≤ n) (k : Sml s.w) : Wd [s] n := by
  refine ⟨by simpa [fmW] using h, ?_⟩
  simpa [fmW] using k
theorem fmW_ap {α : Type} (f : α → List Int) : ∀ a b : List α, fmW f (a ++ b) = fmW f a ++ fmW f b
  | [], b => rfl
  | x :: a, b => by rw [List.cons_append, fmW, fmW, fmW_ap f a b, List.append_assoc]
theorem Wd.app {a b : List Sm} {m n : Nat} (h : Wd a m) (k : Wd b n) : Wd (a ++ b) (m + n) := by
  unfold Wd
  rw [fmW_ap]
  exact ⟨by rw [List.length_append]; have := h.1; have := k.1; omega, h.2.app k.2⟩
theorem Wd.mono {a : List Sm} {m n : Nat} (h : Wd a m) (k : m ≤ n) : Wd a n := ⟨Nat.le_trans h.1 k, h.2⟩
theorem Wd.three {a b c : Sm} {l m n : Nat} (h : Wd [a] l) (k : Wd [b] m) (j : Wd [c] n) : Wd [a, b, c] (l + (m + n)) := h.app (k.app j)
theorem one_stm {i op n m v : Int} {x y : Ex} {c : Co} {a b d : Nat} (hi : -2000000 ≤ i ∧ i ≤ 2000000) (ho : -2000000 ≤ op ∧ op ≤ 2000000) (hn : -2000000 ≤ n ∧ n ≤ 2000000) (hm : -2000000 ≤ m ∧ m ≤ 2000000) (hv : -2000000 ≤ v ∧ v ≤ 2000000)
    (hx : x.w.length ≤ a ∧ Sml x.w) (hy : y.w.length ≤ b ∧ Sml y.w) (hc : c.w.length ≤ d ∧ Sml c.w) : (stm i op n m v x y c).w.length ≤ 9 + a + b + d ∧ Sml (stm i op n m v x y c).w :=
  ⟨by rw [stm_len]; have := hx.1; have := hy.1; have := hc.1; omega, stm_sml hi ho hn hm hv hx.2 hy.2 hc.2⟩
theorem xz : zE.w.length ≤ 4 ∧ Sml zE.w := ⟨Nat.le_refl _, zE_sml⟩
theorem xc : zC.w.length ≤ 3 ∧ Sml zC.w := ⟨Nat.le_refl _, zC_sml⟩
theorem xn (n : Nat) (h : n < 1000) : (numE n).w.length ≤ 4 ∧ Sml (numE n).w := ⟨Nat.le_of_eq (num_len _), num_sml n h⟩
theorem gSk_ct : ∀ (i k : Nat) (s : Ms), Ct1 s (gSk E i k s).2 18
  | i, 0, s => by
    have h := (gT_ct (E := E) s).trans (gN_ct (E := E) 4 (gT E s).2)
    exact h.mono (by decide)
  | i, 1, s => by
    have h := (gN_ct (E := E) 4 s).trans (gE_ct (E := E) 2 (gN E 4 s).2)
    exact h.mono (by decide)
  | i, 2, s => by
    have h := (gT_ct (E := E) s).trans (gN_ct (E := E) 2 (gT E s).2)
    exact h.mono (by decide)
  | i, 3, s => by
    have h := (gT_ct (E := E) s).trans (gN_ct (E := E) 2 (gT E s).2)
    exact h.mono (by decide)
  | i, 4, s => by
    have h := (((gN_ct (E := E) 3 s).trans (gS_ct _)).trans (gN_ct (E := E) 9 _)).trans (gS_ct _)
    exact h.mono (by decide)
  | i, 5, s => by
    have h := ((gS_ct s).trans (gE_ct (E := E) 1 _)).trans (gS_ct _)
    exact h.mono (by decide)
  | i, k + 6, s => by
    have h := (gT_ct (E := E) s).trans (gE_ct (E := E) 2 (gT E s).2)
    exact h.mono (by decide)
theorem gSk_w (ok : E.ok) : ∀ (i k : Nat) (s : Ms), i ≤ 1100000 → s.t ≤ 1000000 → Wd (gSk E i k s).1 80
  | i, 0, s, hi, hs => by
    have h1 := gT_lt ok s
    have h2 := gN_lt (E := E) (n := 4) (gT E s).2 (by decide)
    have h := one_stm (i := i) (op := 2) (n := (gT E s).1) (m := 0) (v := 0) (by omega) (by omega) (by omega) (by omega) (by omega) (xn (gN E 4 (gT E s).2).1 (by omega)) xz xc
    exact (Wd.one h.1 h.2).mono (by decide)
  | i, 1, s, hi, hs => by
    have h2 := gN_lt (E := E) (n := 4) s (by decide)
    have h := one_stm (i := i) (op := 3) (n := 0) (m := 0) (v := 0) (by omega) (by omega) (by omega) (by omega) (by omega) (xn (gN E 4 s).1 (by omega)) (gE_w ok 2 (gN E 4 s).2) xc
    exact (Wd.one h.1 h.2).mono (by decide)
  | i, 2, s, hi, hs => by
    have h1 := gT_lt ok s
    have h2 := gN_lt (E := E) (n := 2) (gT E s).2 (by decide)
    have h := one_stm (i := i) (op := 4) (n := (gT E s).1) (m := (gN E 2 (gT E s).2).1) (v := 0) (by omega) (by omega) (by omega) (by omega) (by omega) xz xz xc
    exact (Wd.one h.1 h.2).mono (by decide)
  | i, 3, s, hi, hs => by
    have h1 := gT_lt ok s
    have h2 := gN_lt (E := E) (n := 2) (gT E s).2 (by decide)
    have h := one_stm (i := i) (op := 20) (n := (gT E s).1) (m := (gN E 2 (gT E s).2).1) (v := 0) (by omega) (by omega) (by omega) (by omega) (by omega) xz xz xc
    exact (Wd.one h.1 h.2).mono (by decide)
  | i, 4, s, hi, hs => by
    have h1 := gN_lt (E := E) (n := 3) s (by decide)
    have h2 := gN_lt (E := E) (n := 9) (gS (gN E 3 s).2).2 (by decide)
    have e1 := (gN_ct (E := E) 3 s).t
    have e2 := (gS_ct (gN E 3 s).2).t
    have e3 := (gN_ct (E := E) 9 (gS (gN E 3 s).2).2).t
    have f1 : (gS (gN E 3 s).2).1 ≤ 1000002 := by show (gN E 3 s).2.site + 1 ≤ _; unfold Ms.t at e1 hs; omega
    have f2 : (gS (gN E 9 (gS (gN E 3 s).2).2).2).1 ≤ 1000004 := by show (gN E 9 (gS (gN E 3 s).2).2).2.site + 1 ≤ _; unfold Ms.t at e1 e2 e3 hs; omega
    have a := one_stm (i := i) (op := 16) (n := 0) (m := (gN E 3 s).1) (v := 0) (by omega) (by omega) (by omega) (by omega) (by omega) xz xz xc
    have b := one_stm (i := (gS (gN E 3 s).2).1) (op := 5) (n := 0) (m := 0) (v := 0) (by omega) (by omega) (by omega) (by omega) (by omega) (xn (gN E 9 (gS (gN E 3 s).2).2).1 (by omega)) xz xc
    have c := one_stm (i := (gS (gN E 9 (gS (gN E 3 s).2).2).2).1) (op := 17) (n := 0) (m := (gN E 3 s).1) (v := 0) (by omega) (by omega) (by omega) (by omega) (by omega) xz xz xc
    exact (Wd.three (Wd.one a.1 a.2) (Wd.one b.1 b.2) (Wd.one c.1 c.2)).mono (by decide)
  | i, 5, s, hi, hs => by
    have e1 := (gS_ct s).t
    have e2 := (gE_ct (E := E) 1 (gS s).2).t
    have f1 : (gS s).1 ≤ 1000002 := by show s.site + 1 ≤ _; unfold Ms.t at hs; omega
    have f2 : (gS (gE E 1 (gS s).2).2).1 ≤ 1000020 := by show (gE E 1 (gS s).2).2.site + 1 ≤ _; have : eT 1 = 6 := rfl; unfold Ms.t at e1 e2 hs; omega
    have a := one_stm (i := i) (op := 6) (n := 1) (m := 0) (v := 0) (by omega) (by omega) (by omega) (by omega) (by omega) xz xz xc
    have b := one_stm (i := (gS s).1) (op := 9) (n := 1) (m := 0) (v := 0) (by omega) (by omega) (by omega) (by omega) (by omega) (gE_w ok 1 (gS s).2) xz xc
    have c := one_stm (i := (gS (gE E 1 (gS s).2).2).1) (op := 7) (n := 1) (m := 0) (v := 0) (by omega) (by omega) (by omega) (by omega) (by omega) xz xz xc
    exact (Wd.three (Wd.one a.1 a.2) (Wd.one b.1 b.2) (Wd.one c.1 c.2)).mono (by decide)
  | i, k + 6, s, hi, hs => by
    have h1 := gT_lt ok s
    have h := one_stm (i := i) (op := 1) (n := (gT E s).1) (m := 0) (v := 0) (by omega) (by omega) (by omega) (by omega) (by omega) (gE_w ok 2 (gT E s).2) xz xc
    exact (Wd.one h.1 h.2).mono (by decide)
theorem gSimple_ct (s : Ms) : Ct1 s (gSimple E s).2 20 := by
  have h := ((gS_ct s).trans (gN_ct (E := E) 8 (gS s).2)).trans (gSk_ct (E := E) (gS s).1 (gN E 8 (gS s).2).1 (gN E 8 (gS s).2).2)
  exact h.mono (by decide)
theorem gSimple_w (ok : E.ok) (s : Ms) (hs : s.t ≤ 900000) : Wd (gSimple E s).1 80 := by
  have e := ((gS_ct s).trans (gN_ct (E := E) 8 (gS s).2)).t
  exact gSk_w ok _ _ _ (by show s.site + 1 ≤ _; unfold Ms.t at hs; omega) (by omega)
theorem gArr_ct (i op : Nat) (s : Ms) : Ct1 s (gArr E i op s).2 30 := by
  have h := ((gT_ct (E := E) s).trans (gN_ct (E := E) E.D.arrays.length (gT E s).2)).trans (gE_ct (E := E) 1 _)
  exact h.mono (by decide)
theorem gArr_w (ok : E.ok) (i op : Nat) (s : Ms) (hi : i ≤ 1100000) (ho : op ≤ 100) : (gArr E i op s).1.w.length ≤ 80 ∧ Sml (gArr E i op s).1.w := by
  have h1 := gT_lt ok s
  have ha := ok.arr
  have h2 := gN_lt (E := E) (n := E.D.arrays.length) (gT E s).2 (by omega)
  have h := one_stm (i := i) (op := op) (n := (gT E s).1) (m := (gN E E.D.arrays.length (gT E s).2).1) (v := 0) (by omega) (by omega) (by omega) (by omega) (by omega) (gE_w ok 1 (gN E E.D.arrays.length (gT E s).2).2) xz xc
  exact ⟨Nat.le_trans h.1 (by decide), h.2⟩
theorem gRk_ct : ∀ (i k : Nat) (s : Ms), Ct1 s (gRk E i k s).2 30
  | i, 0, s => gArr_ct i 2 s
  | i, 1, s => gArr_ct i 2 s
  | i, 2, s => by
    have h := ((gN_ct (E := E) E.D.arrays.length s).trans (gE_ct (E := E) 1 _)).trans (gE_ct (E := E) 1 _)
    exact h.mono (by decide)
  | i, 3, s => by
    have h := (gN_ct (E := E) 2 s).trans (gE_ct (E := E) 1 _)
    exact h.mono (by decide)
  | i, 4, s => (gN_ct (E := E) 2 s).mono (by decide)
  | i, 5, s => (gN_ct (E := E) 2 s).mono (by decide)
  | i, 6, s => by
    have h := (gN_ct (E := E) 2 s).trans (gN_ct (E := E) 2 _)
    exact h.mono (by decide)
  | i, 7, s => by
    have h := (gT_ct (E := E) s).trans (gN_ct (E := E) 2 _)
    exact h.mono (by decide)
  | i, 8, s => by
    have h := (gN_ct (E := E) 2 s).trans (gN_ct (E := E) 3 _)
    exact h.mono (by decide)
  | i, 9, s => (gE_ct (E := E) 1 s).mono (by decide)
  | i, 10, s => (gT_ct (E := E) s).mono (by decide)
  | i, 11, s => by
    have h := (gN_ct (E := E) 3 s).trans (gE_ct (E := E) 1 _)
    exact h.mono (by decide)
  | i, 12, s => (gN_ct (E := E) 3 s).mono (by decide)
  | i, 13, s => (gC_ct (E := E) 1 s).mono (by decide)
  | i, k + 14, s => by
    have h := (gN_ct (E := E) 2 s).trans (gE_ct (E := E) 1 _)
    exact h.mono (by decide)
theorem gRk_w (ok : E.ok) : ∀ (i k : Nat) (s : Ms), i ≤ 1100000 → (gRk E i k s).1.w.length ≤ 80 ∧ Sml (gRk E i k s).1.w
  | i, 0, s, hi => gArr_w ok i 2 s hi (by decide)
  | i, 1, s, hi => gArr_w ok i 2 s hi (by decide)
  | i, 2, s, hi => by
    have ha := ok.arr
    have h2 := gN_lt (E := E) (n := E.D.arrays.length) s (by omega)
    have h := one_stm (i := i) (op := 3) (n := 0) (m := (gN E E.D.arrays.length s).1) (v := 0) (by omega) (by omega) (by omega) (by omega) (by omega) (gE_w ok 1 (gN E E.D.arrays.length s).2) (gE_w ok 1 (gE E 1 (gN E E.D.arrays.length s).2).2) xc
    exact ⟨Nat.le_trans h.1 (by decide), h.2⟩
  | i, 3, s, hi => by
    have h2 := gN_lt (E := E) (n := 2) s (by decide)
    have h := one_stm (i := i) (op := 5) (n := 0) (m := (gN E 2 s).1) (v := 0) (by omega) (by omega) (by omega) (by omega) (by omega) (gE_w ok 1 (gN E 2 s).2) xz xc
    exact ⟨Nat.le_trans h.1 (by decide), h.2⟩
  | i, 4, s, hi => by
    have h2 := gN_lt (E := E) (n := 2) s (by decide)
    have h := one_stm (i := i) (op := 6) (n := (gN E 2 s).1) (m := 0) (v := 0) (by omega) (by omega) (by omega) (by omega) (by omega) xz xz xc
    exact ⟨Nat.le_trans h.1 (by decide), h.2⟩
  | i, 5, s, hi => by
    have h2 := gN_lt (E := E) (n := 2) s (by decide)
    have h := one_stm (i := i) (op := 7) (n := (gN E 2 s).1) (m := 0) (v := 0) (by omega) (by omega) (by omega) (by omega) (by omega) xz xz xc
    exact ⟨Nat.le_trans h.1 (by decide), h.2⟩
  | i, 6, s, hi => by
    have h1 := gN_lt (E := E) (n := 2) s (by decide)
    have h2 := gN_lt (E := E) (n := 2) (gN E 2 s).2 (by decide)
    have h := one_stm (i := i) (op := 8) (n := (gN E 2 s).1) (m := (gN E 2 (gN E 2 s).2).1) (v := 0) (by omega) (by omega) (by omega) (by omega) (by omega) xz xz xc
    exact ⟨Nat.le_trans h.1 (by decide), h.2⟩
  | i, 7, s, hi => by
    have h1 := gT_lt ok s
    have h2 := gN_lt (E := E) (n := 2) (gT E s).2 (by decide)
    have h := one_stm (i := i) (op := 10) (n := (gT E s).1) (m := (gN E 2 (gT E s).2).1) (v := 0) (by omega) (by omega) (by omega) (by omega) (by omega) xz xz xc
    exact ⟨Nat.le_trans h.1 (by decide), h.2⟩
  | i, 8, s, hi => by
    have h1 := gN_lt (E := E) (n := 2) s (by decide)
    have h2 := gN_lt (E := E) (n := 3) (gN E 2 s).2 (by decide)
    have h := one_stm (i := i) (op := 16 + (gN E 2 s).1) (n := 0) (m := (gN E 3 (gN E 2 s).2).1) (v := 0) (by omega) (by omega) (by omega) (by omega) (by omega) xz xz xc
    exact ⟨Nat.le_trans h.1 (by decide), h.2⟩
  | i, 9, s, hi => by
    have h := one_stm (i := i) (op := 18) (n := 0) (m := 0) (v := 0) (by omega) (by omega) (by omega) (by omega) (by omega) (gE_w ok 1 s) xz xc
    exact ⟨Nat.le_trans h.1 (by decide), h.2⟩
  | i, 10, s, hi => by
    have h1 := gT_lt ok s
    have h := one_stm (i := i) (op := 19) (n := (gT E s).1) (m := 0) (v := 0) (by omega) (by omega) (by omega) (by omega) (by omega) xz xz xc
    exact ⟨Nat.le_trans h.1 (by decide), h.2⟩
  | i, 11, s, hi => by
    have h2 := gN_lt (E := E) (n := 3) s (by decide)
    have h := one_stm (i := i) (op := 21) (n := 0) (m := (gN E 3 s).1) (v := 0) (by omega) (by omega) (by omega) (by omega) (by omega) (gE_w ok 1 (gN E 3 s).2) xz xc
    exact ⟨Nat.le_trans h.1 (by decide), h.2⟩
  | i, 12, s, hi => by
    have h2 := gN_lt (E := E) (n := 3) s (by decide)
    have h := one_stm (i := i) (op := 22) (n := 0) (m := (gN E 3 s).1) (v := 0) (by omega) (by omega) (by omega) (by omega) (by omega) xz xz xc
    exact ⟨Nat.le_trans h.1 (by decide), h.2⟩
  | i, 13, s, hi => by
    have h := one_stm (i := i) (op := 23) (n := 0) (m := 0) (v := 0) (by omega) (by omega) (by omega) (by omega) (by omega) xz xz (gC_w ok 1 s)
    exact ⟨Nat.le_trans h.1 (by decide), h.2⟩
  | i, k + 14, s, hi => by
    have h2 := gN_lt (E := E) (n := 2) s (by decide)
    have h := one_stm (i := i) (op := 9) (n := (gN E 2 s).1) (m := 0) (v := 0) (by omega) (by omega) (by omega) (by omega) (by omega) (gE_w ok 1 (gN E 2 s).2) xz xc
    exact ⟨Nat.le_trans h.1 (by decide), h.2⟩
theorem gRisky_ct (s : Ms) : Ct1 s (gRisky E s).2 32 := by
  have h := ((gS_ct s).trans (gN_ct (E := E) 15 (gS s).2)).trans (gRk_ct (E := E) (gS s).1 (gN E 15 (gS s).2).1 (gN E 15 (gS s).2).2)
  exact h.mono (by decide)
theorem gRisky_w (ok : E.ok) (s : Ms) (hs : s.t ≤ 900000) : (gRisky E s).1.w.length ≤ 80 ∧ Sml (gRisky E s).1.w :=
  gRk_w ok _ _ _ (by show s.site + 1 ≤ _; unfold Ms.t at hs; omega)
end
end Go.Proofs.Ytmfccaidgaelcaa
