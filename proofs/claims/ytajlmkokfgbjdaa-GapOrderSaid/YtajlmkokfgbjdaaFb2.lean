/- Contracts of the framework for what was proved by hand. -/
import Derived.Test.YtajlmkokfgbjdaaFb1
import Derived.Test.YtajlmkokfgbjdaaOld11
import Derived.Test.YtajlmkokfgbjdaaOld13
import Derived.Test.YtajlmkokfgbjdaaOld15
import Derived.Test.YtajlmkokfgbjdaaOld22
import Derived.Test.YtajlmkokfgbjdaaOld24
import Derived.Test.YtajlmkokfgbjdaaOld26
import Derived.Test.YtajlmkokfgbjdaaOld30
import Derived.Test.YtajlmkokfgbjdaaOld31
import Derived.Test.YtajlmkokfgbjdaaOld32
import Derived.Test.YtajlmkokfgbjdaaGap25
set_option linter.unusedVariables false
set_option linter.unusedSimpArgs false
namespace Go.Proofs.Ytajlmkokfgbjdaa
open Go.Abs Go Go.RowKit
theorem below_drewN (w : World) (q : Nat) : Below w.heap.size w (w.drewN q) := ⟨rfl, rfl, rfl, Nat.le_refl _, fun _ _ => rfl⟩
theorem fc_makes {P : Program} {g : FuncId} {fn : Func} {args : List A} {m : List (List Int)} (hfn : P.funcs[g]? = some fn) (hname : (fn.name == "runtime.NumGoroutine") = false) (hb : fn.body.isNone = false)
    (h : ∀ (w : World) (vs : List Value), VL noPl (fun _ => False) w args vs → Calls P g vs.toArray w fun e w' => ∃ v', e = .returned v' ∧ OwnM w.heap.size w' v' m ∧ Below w.heap.size w w') : FC P g args [] (rdM .i64 m) [] NoP := by
  refine FC_of_calls (enter_of hfn hname hb) fun w vs hv => (h w vs hv).mono ?_
  rintro e w' ⟨v, rfl, h1, h2⟩
  exact ⟨v, rfl, fun Y hY => V_of_ownM h1 hY, h2⟩
theorem fc_reads {P : Program} {g : FuncId} {fn : Func} {args : List A} {v : Value} (hfn : P.funcs[g]? = some fn) (hname : (fn.name == "runtime.NumGoroutine") = false) (hb : fn.body.isNone = false)
    (h : ∀ (w : World) (vs : List Value), VL noPl (fun _ => False) w args vs → Calls P g vs.toArray w fun e w' => e = .returned v ∧ Below w.heap.size w w') : FC P g args [] (.val v) [] NoP :=
  FC.of_calls (enter_of hfn hname hb) h
theorem new_fc (vars params : Nat) (h0 : 0 < vars) (h1 : vars ≤ 1000) (h2 : params ≤ 1000) : FC Try.prog 23 [.val (.int .i64 vars), .val (.int .i64 params)] [] (rdM .i64 (Gp.new vars params)) [] NoP :=
  fc_makes Try.func23 rfl rfl fun w vs hv => by
    obtain ⟨a, b, rfl, e1, e2⟩ := VL2 hv
    rw [e1.val, e2.val]; exact new_any vars params w h0 h1 h2
theorem rnew_fc (vars params : Nat) (h0 : 0 < vars) (h1 : vars ≤ 1000) (h2 : params ≤ 1000) : FC Try.prog 31 [.val (.int .i64 vars), .val (.int .i64 params)] [] (rdM .i64 (Gp.new vars params)) [] NoP :=
  fc_makes Try.func31 rfl rfl fun w vs hv => by
    obtain ⟨a, b, rfl, e1, e2⟩ := VL2 hv
    rw [e1.val, e2.val]; exact rnew_any vars params w h0 h1 h2
theorem copy_fc (g : List (List Int)) (hg : Small g) : FC Try.prog 38 [rdM .i64 g] [] (rdM .i64 g) [] NoP :=
  fc_makes Try.func38 rfl rfl fun w vs hv => by
    obtain ⟨a, rfl, e1⟩ := VL1 hv
    exact copy_any a g w hg (mx_of_V e1)
theorem set_fc (g : List (List Int)) (x : Gp.X) (i : Int) (whole : Bool) (p : Nat) (hg : Small g) (hr : Rect g p) (hfine : Gp.Fine g) : FC Try.prog 16 [rdM .i64 g, .val (.int .i64 i), exprA x, .val (.bool whole)] [] (rdM .i64 (Gp.set_ g i x whole)) [] NoP :=
  fc_makes Try.func16 rfl rfl fun w vs hv => by
    obtain ⟨a, b, c, d, rfl, e1, e2, e3, e4⟩ := VL4 hv
    rw [e2.val, e4.val]; exact set_any a c g x i whole p w hg hr hfine (mx_of_V e1) e3
theorem rset_fc (g : List (List Int)) (x : Gp.X) (i : Int) (whole : Bool) (p : Nat) (hg : Small g) (hr : Rect g p) (hfine : Gp.Fine g) : FC Try.prog 32 [rdM .i64 g, .val (.int .i64 i), exprA x, .val (.bool whole)] [] (rdM .i64 (Gp.set_ g i x whole)) [] NoP :=
  fc_makes Try.func32 rfl rfl fun w vs hv => by
    obtain ⟨a, b, c, d, rfl, e1, e2, e3, e4⟩ := VL4 hv
    rw [e2.val, e4.val]; exact rset_any a c g x i whole p w hg hr hfine (mx_of_V e1) e3
theorem VL6 {f : Pl} {X : Nat → Prop} {w : World} {a b c d e g : A} {vs : List Value} (h : VL f X w [a, b, c, d, e, g] vs) : ∃ v u t s r q, vs = [v, u, t, s, r, q] ∧ V f X w a v ∧ V f X w b u ∧ V f X w c t ∧ V f X w d s ∧ V f X w e r ∧ V f X w g q := by
  obtain ⟨v, t, rfl, h1, h2⟩ := h.uncons
  obtain ⟨u, t, rfl, h3, h4⟩ := h2.uncons
  obtain ⟨x, y, z, t, rfl, h5, h6, h7, h8⟩ := VL4 h4
  exact ⟨v, u, x, y, z, t, rfl, h1, h3, h5, h6, h7, h8⟩
def bothA (f0 f1 : Bool) : A := .agg [.val (.bool f0), .val (.bool f1)]
theorem bothA_V {f : Pl} {X : Nat → Prop} {w : World} {f0 f1 : Bool} {v : Value} (h : V f X w (bothA f0 f1) v) : v = .agg #[.bool f0, .bool f1] := by
  simp only [bothA, V] at h
  obtain ⟨vs, rfl, h1⟩ := h
  obtain ⟨a, b, rfl, h2, h3⟩ := VL2 h1
  rw [h2.val, h3.val]
theorem assume_fc (g : List (List Int)) (a b : Gp.X) (op : Int) (holds f0 f1 : Bool) (p : Nat) (hg : Small g) (hr : Rect g p) (hfine : Gp.Fine g) : FC Try.prog 20 [rdM .i64 g, .val (.int .i64 op), .val (.bool holds), exprA a, exprA b, bothA f0 f1] [] (rdM .i64 (Gp.assume_ g op holds a b f0 f1)) [] NoP :=
  fc_makes Try.func20 rfl rfl fun w vs hv => by
    obtain ⟨v1, v2, v3, v4, v5, v6, rfl, e1, e2, e3, e4, e5, e6⟩ := VL6 hv
    rw [e2.val, e3.val, bothA_V e6]; exact assume_any v1 v4 v5 g a b op holds f0 f1 p w hg hr hfine (mx_of_V e1) e4 e5
theorem rassume_fc (g : List (List Int)) (a b : Gp.X) (op : Int) (holds f0 f1 : Bool) (p : Nat) (hg : Small g) (hr : Rect g p) (hfine : Gp.Fine g) : FC Try.prog 33 [rdM .i64 g, .val (.int .i64 op), .val (.bool holds), exprA a, exprA b, bothA f0 f1] [] (rdM .i64 (Gp.assume_ g op holds a b f0 f1)) [] NoP :=
  fc_makes Try.func33 rfl rfl fun w vs hv => by
    obtain ⟨v1, v2, v3, v4, v5, v6, rfl, e1, e2, e3, e4, e5, e6⟩ := VL6 hv
    rw [e2.val, e3.val, bothA_V e6]; exact rassume_any v1 v4 v5 g a b op holds f0 f1 p w hg hr hfine (mx_of_V e1) e4 e5
section
variable (g h : List (List Int)) (p : Nat) (hg : Small g) (hr : Rect g p) (hc : h.length = g.length) (hr2 : Rect h p)
include hg hr hc hr2
theorem join_fc : FC Try.prog 29 [rdM .i64 g, rdM .i64 h] [] (rdM .i64 (Gp.join g h)) [] NoP :=
  fc_makes Try.func29 rfl rfl fun w vs hv => by
    obtain ⟨a, b, rfl, e1, e2⟩ := VL2 hv
    exact join_any a b g h p w hg hr hc hr2 (mx_of_V e1) (mx_of_V e2)
theorem rjoin_fc : FC Try.prog 34 [rdM .i64 g, rdM .i64 h] [] (rdM .i64 (Gp.join g h)) [] NoP :=
  fc_makes Try.func34 rfl rfl fun w vs hv => by
    obtain ⟨a, b, rfl, e1, e2⟩ := VL2 hv
    exact rjoin_any a b g h p w hg hr hc hr2 (mx_of_V e1) (mx_of_V e2)
theorem widen_fc : FC Try.prog 30 [rdM .i64 g, rdM .i64 h] [] (rdM .i64 (Gp.widen g h)) [] NoP :=
  fc_makes Try.func30 rfl rfl fun w vs hv => by
    obtain ⟨a, b, rfl, e1, e2⟩ := VL2 hv
    exact widen_any a b g h p w hg hr hc hr2 (mx_of_V e1) (mx_of_V e2)
theorem rwiden_fc : FC Try.prog 35 [rdM .i64 g, rdM .i64 h] [] (rdM .i64 (Gp.widen g h)) [] NoP :=
  fc_makes Try.func35 rfl rfl fun w vs hv => by
    obtain ⟨a, b, rfl, e1, e2⟩ := VL2 hv
    exact rwiden_any a b g h p w hg hr hc hr2 (mx_of_V e1) (mx_of_V e2)
end
theorem leq_fc (g h : List (List Int)) (hg : Small g) (hc : Covers g h) : FC Try.prog 22 [rdM .i64 g, rdM .i64 h] [] (.val (.bool (Gp.leq g h))) [] NoP :=
  fc_reads Try.func22 rfl rfl fun w vs hv => by
    obtain ⟨a, b, rfl, e1, e2⟩ := VL2 hv
    refine (leq_any a b g h w hg hc (mx_of_V e1) (mx_of_V e2)).mono ?_
    rintro e w' ⟨h1, q, rfl⟩; exact ⟨h1, below_drewN w q⟩
theorem rleq_fc (g h : List (List Int)) (hg : Small g) (hc : Covers g h) : FC Try.prog 36 [rdM .i64 g, rdM .i64 h] [] (.val (.bool (Gp.leq g h))) [] NoP :=
  fc_reads Try.func36 rfl rfl fun w vs hv => by
    obtain ⟨a, b, rfl, e1, e2⟩ := VL2 hv
    refine (rleq_any a b g h w hg hc (mx_of_V e1) (mx_of_V e2)).mono ?_
    rintro e w' ⟨h1, q, rfl⟩; exact ⟨h1, below_drewN w q⟩
theorem same_fc (g h : List (List Int)) (hg : Small g) (hh : Small h) : FC Try.prog 27 [rdM .i64 g, rdM .i64 h] [] (.val (.bool (decide (g = h)))) [] NoP :=
  fc_reads Try.func27 rfl rfl fun w vs hv => by
    obtain ⟨a, b, rfl, e1, e2⟩ := VL2 hv
    refine (same_any a b g h w hg hh (mx_of_V e1) (mx_of_V e2)).mono ?_
    rintro e w' ⟨h1, q, rfl⟩; exact ⟨h1, below_drewN w q⟩
theorem has_fc (g : List (List Int)) (vs : List Int) (hg : Small g) (hc1 : g.length ≤ vs.length) (hc2 : ∀ i, i < g.length → (g.getD i []).length ≤ vs.length) (hb : ∀ i, -2147483648 ≤ vs.getD i 0 ∧ vs.getD i 0 ≤ 2147483647) : FC Try.prog 14 [rdM .i64 g, rdI .i64 vs] [] (.val (.bool (Gp.has g vs))) [] NoP :=
  fc_reads Try.func14 rfl rfl fun w us hv => by
    obtain ⟨a, b, rfl, e1, e2⟩ := VL2 hv
    refine (has_any a b g vs w hg hc1 hc2 hb (mx_of_V e1) (sl_of_V e2)).mono ?_
    rintro e w' ⟨h1, q, rfl⟩; exact ⟨h1, below_drewN w q⟩
theorem bound_fc (g : List (List Int)) (i j : Int) (hg : Small g) : FC Try.prog 19 [rdM .i64 g, .val (.int .i64 i), .val (.int .i64 j)] [] (.val (.int .i64 (Gp.bound g i j))) [] NoP :=
  fc_reads Try.func19 rfl rfl fun w us hv => by
    obtain ⟨a, b, c, rfl, e1, e2, e3⟩ := VL3 hv
    rw [e2.val, e3.val]
    refine (bound_any a g i j w hg (mx_of_V e1)).mono ?_
    rintro e w' ⟨h1, rfl⟩; exact ⟨h1, Below.refl _ _⟩
theorem rbound_fc (g : List (List Int)) (i j : Int) (hg : Small g) : FC Try.prog 37 [rdM .i64 g, .val (.int .i64 i), .val (.int .i64 j)] [] (.val (.int .i64 (Gp.bound g i j))) [] NoP :=
  fc_reads Try.func37 rfl rfl fun w us hv => by
    obtain ⟨a, b, c, rfl, e1, e2, e3⟩ := VL3 hv
    rw [e2.val, e3.val]
    refine (rbound_any a g i j w hg (mx_of_V e1)).mono ?_
    rintro e w' ⟨h1, rfl⟩; exact ⟨h1, Below.refl _ _⟩
theorem valid_fc (g : List (List Int)) (i j : Int) (hg : Small g) : FC Try.prog 28 [rdM .i64 g, .val (.int .i64 i), .val (.int .i64 j)] [] (.val (.bool (Gp.valid g i j))) [] NoP :=
  fc_reads Try.func28 rfl rfl fun w us hv => by
    obtain ⟨a, b, c, rfl, e1, e2, e3⟩ := VL3 hv
    rw [e2.val, e3.val]
    exact valid_any a g i j w hg (mx_of_V e1)
theorem rvalid_fc (g : List (List Int)) (i j : Int) (hg : Small g) : FC Try.prog 39 [rdM .i64 g, .val (.int .i64 i), .val (.int .i64 j)] [] (.val (.bool (Gp.valid g i j))) [] NoP :=
  fc_reads Try.func39 rfl rfl fun w us hv => by
    obtain ⟨a, b, c, rfl, e1, e2, e3⟩ := VL3 hv
    rw [e2.val, e3.val]
    refine (rvalid_any a g i j w hg (mx_of_V e1)).mono ?_
    rintro e w' ⟨h1, rfl⟩; exact ⟨h1, Below.refl _ _⟩
/-- A value reads as what describes gaps. -/
def rawA (V P : Nat) (N : List Int) : A := .agg [.val (.int .u8 V), .val (.int .u8 P), rdI .i64 N]
theorem made_fc (V0 P0 : Nat) (N : List Int) (hV : V0 < 256) (hP : P0 < 256) (hN : N.length ≤ 9223372036854775807) : FC Try.prog 10 [rawA V0 P0 N] [] (rdM .i64 (Gp.made V0 P0 N)) [] NoP :=
  fc_makes Try.func10 rfl rfl fun w us hv => by
    obtain ⟨a, rfl, e1⟩ := VL1 hv
    simp only [rawA] at e1
    unfold V at e1
    obtain ⟨vs, rfl, e1⟩ := e1
    obtain ⟨a, b, c, rfl, e1, e2, e3⟩ := VL3 e1
    rw [e1.val, e2.val]
    exact made_any V0 P0 c N w hV hP hN (sl_of_V e3)
theorem tight_fc (g : List (List Int)) (p : Nat) (v more : List Int) (hg : Small g) (hr : Rect g p) (hp5 : p ≤ 5) (hn5 : g.length ≤ 5) (hpn : p ≤ g.length) (hv : v.length = g.length) (hvb : ∀ i, -2147483648 ≤ v.getD i 0 ∧ v.getD i 0 ≤ 2147483647)
    (hml : more.length ≤ 9223372036854775807) (hmb : ∀ i, 0 ≤ more.getD i 0 ∧ more.getD i 0 ≤ 255) : FC Try.prog 12 [rdM .i64 g, rdI .i64 v, rdI .u8 more] [] (rdM .i64 (Gp.tight g p v more)) [] NoP :=
  fc_makes Try.func12 rfl rfl fun w us hv' => by
    obtain ⟨a, b, c, rfl, e1, e2, e3⟩ := VL3 hv'
    exact tight_any a b c g p v more w hg hr hp5 hn5 hpn hv hvb hml hmb (mx_of_V e1) (sl_of_V e2) (sl_of_V e3)
theorem values_fc (g : List (List Int)) (l : List Int) (hn : g.length ≤ 1000) (hl : l.length ≤ 9223372036854775807) (hb : ∀ i, -2147483648 ≤ l.getD i 0 ∧ l.getD i 0 ≤ 2147483647) : FC Try.prog 11 [rdM .i64 g, rdI .i32 l] [] (rdI .i64 (Gp.values g.length l)) [] NoP :=
  FC_of_calls (enter_of Try.func11 rfl rfl) fun w us hv => by
    obtain ⟨a, b, rfl, e1, e2⟩ := VL2 hv
    obtain ⟨ga, gc, rfl, _⟩ := mx_of_V e1
    refine (values_any ga g.length gc b l w hn hl hb (sl_of_V e2)).mono ?_
    rintro e w' ⟨v, rfl, h1, h2⟩
    exact ⟨v, rfl, fun Y hY => V_of_own h1 hY, h2⟩
end Go.Proofs.Ytajlmkokfgbjdaa
