/- From what was proved by hand to contracts of the framework. No conditions. -/
import Derived.Test.YtajlmkokfgbjdaaFc3
import Derived.Test.YtajlmkokfgbjdaaMx
set_option linter.unusedVariables false
set_option linter.unusedSimpArgs false
namespace Go.Proofs.Ytajlmkokfgbjdaa
open Go.Abs Go Go.RowKit
section
variable {P : Program} {g : FuncId} {args : List A} {r : A}
theorem FC_of_calls (henter : ∀ (aa : Array Value) (w : World), (callFunc g aa).run P w = .ok (.enter g aa) w)
    (h : ∀ (w : World) (vs : List Value), VL noPl (fun _ => False) w args vs → Calls P g vs.toArray w fun e w' => ∃ v, e = .returned v ∧ (∀ Y : Nat → Prop, (∀ b, Y b → b < w.heap.size) → V noPl Y w' r v) ∧ Below w.heap.size w w') : FC P g args [] r [] NoP := by
  refine ⟨henter, Nat.le_refl _, ?_⟩
  intro f0 Y w vs hfr hY hHR hInj hargs
  have h0 : f0 = noPl := by funext k p; exact hfr k (Nat.zero_le _) p
  subst h0
  refine (h w vs (hargs.mono (Ext.refl _) (fun b _ hb => hb.elim) (Kp.refl (fun _ => False) w) (fun _ _ h => h.elim))).mono ?_
  rintro e w' ⟨v, rfl, hv, hb⟩
  exact ⟨noPl, Ext.refl _, fun _ _ _ => rfl, (hv Y (fun b hb => (hY b hb).1)).mono (Ext.refl _) (fun b _ hb => hb.elim (fun hl => absurd hl (live_none b)) id) (Kp.refl (fun _ => False) w') (fun _ _ h => h.elim), fun k p c h => by simp [regs, Reg.get] at h, fun k p k' p' b h => by simp [regs, Reg.get] at h,
    (Kp.of_below hb).mono (fun _ _ h => h.elim), fun b hb => absurd hb (live_none b)⟩
theorem enter_of {fn : Func} (hfn : P.funcs[g]? = some fn) (hname : (fn.name == "runtime.NumGoroutine") = false) (hb : fn.body.isNone = false) (aa : Array Value) (w : World) : (callFunc g aa).run P w = .ok (.enter g aa) w := by
  have hname' : ¬ fn.name = "runtime.NumGoroutine" := by simpa using hname
  have hb' : ¬ fn.body = none := by intro h; rw [h] at hb; cases hb
  simp [callFunc, hfn, hname', hb']
end
theorem VL1 {f : Pl} {X : Nat → Prop} {w : World} {a : A} {vs : List Value} (h : VL f X w [a] vs) : ∃ v, vs = [v] ∧ V f X w a v := by
  obtain ⟨v, t, rfl, h1, h2⟩ := h.uncons
  rw [h2.unnil]; exact ⟨v, rfl, h1⟩
theorem VL2 {f : Pl} {X : Nat → Prop} {w : World} {a b : A} {vs : List Value} (h : VL f X w [a, b] vs) : ∃ v u, vs = [v, u] ∧ V f X w a v ∧ V f X w b u := by
  obtain ⟨v, t, rfl, h1, h2⟩ := h.uncons
  obtain ⟨u, rfl, h3⟩ := VL1 h2
  exact ⟨v, u, rfl, h1, h3⟩
theorem VL3 {f : Pl} {X : Nat → Prop} {w : World} {a b c : A} {vs : List Value} (h : VL f X w [a, b, c] vs) : ∃ v u t, vs = [v, u, t] ∧ V f X w a v ∧ V f X w b u ∧ V f X w c t := by
  obtain ⟨v, t, rfl, h1, h2⟩ := h.uncons
  obtain ⟨u, t, rfl, h3, h4⟩ := VL2 h2
  exact ⟨v, u, t, rfl, h1, h3, h4⟩
theorem VL4 {f : Pl} {X : Nat → Prop} {w : World} {a b c d : A} {vs : List Value} (h : VL f X w [a, b, c, d] vs) : ∃ v u t s, vs = [v, u, t, s] ∧ V f X w a v ∧ V f X w b u ∧ V f X w c t ∧ V f X w d s := by
  obtain ⟨v, t, rfl, h1, h2⟩ := h.uncons
  obtain ⟨u, t, s, rfl, h3, h4, h5⟩ := VL3 h2
  exact ⟨v, u, t, s, rfl, h1, h3, h4, h5⟩
/-- Values out of lists of numbers. -/
theorem VL_ints {f : Pl} {X : Nat → Prop} {w : World} {k : IntKind} {xs : List Int} {vs : List Value} (h : VL f X w (ints k xs) vs) : vs = xs.map (Value.int k) := by
  induction xs generalizing vs with
  | nil => exact h.unnil
  | cons x xs ih =>
    obtain ⟨v, t, rfl, h1, h2⟩ := h.uncons
    rw [h1.val, ih h2]; rfl
theorem VL_ints_mk {f : Pl} {X : Nat → Prop} {w : World} {k : IntKind} (xs : List Int) : VL f X w (ints k xs) (xs.map (Value.int k)) := by
  have : ints k xs = (xs.map (Value.int k)).map A.val := by simp [ints]
  rw [this]; exact VL.vals _
theorem sl_of_V {k : IntKind} {w : World} {v : Value} {xs : List Int} {X : Nat → Prop} (h : V noPl X w (rdI k xs) v) : Sl k w v xs := by
  simp only [rdI, V] at h
  obtain ⟨a, cap, rfl, h1, h2, h3, h4⟩ := h
  refine ⟨a, cap, rfl, h1, h2, fun e => (h3 e).2.1, fun hp => ?_⟩
  cases a with
  | none => have := (h3 rfl).1; first | omega | (rw [this] at hp; simp at hp)
  | some q =>
    rcases h4 q rfl with e | ⟨g1, g2, g3, vs, g4, g5⟩
    · have := congrArg List.length e; rw [ints_length] at this; simp only [List.length_nil] at this; omega
    · refine ⟨q.block, q.off, ?_, g3, fun i hi => ?_⟩
      · obtain ⟨b, o, sp⟩ := q; dsimp only at g1; subst g1; rfl
      · have := VL_ints g4
        subst this
        exact g5 i _ (by simp [hi, List.getD])
theorem mx_of_V {w : World} {v : Value} {g : List (List Int)} {X : Nat → Prop} (h : V noPl X w (rdM .i64 g) v) : Mx w v g := by
  simp only [rdM, V] at h
  obtain ⟨a, cap, rfl, h1, h2, h3, h4⟩ := h
  refine ⟨a, cap, rfl, h1, h2, fun e => (h3 e).2.1, fun hp => ?_⟩
  cases a with
  | none => have := (h3 rfl).1; first | omega | (rw [this] at hp; simp at hp)
  | some q =>
    rcases h4 q rfl with e | ⟨g1, g2, g3, vs, g4, g5⟩
    · have := congrArg List.length e; simp [rows] at this; subst this; simp at hp
    · refine ⟨q.block, q.off, ?_, g3, fun i hi => ?_⟩
      · obtain ⟨b, o, sp⟩ := q; dsimp only at g1; subst g1; rfl
      · have hr : (rows .i64 g)[i]? = some (rdI .i64 (g.getD i [])) := by simp [rows, hi, List.getD]
        obtain ⟨u, k1, k2⟩ := g4.get hr
        exact ⟨u, g5 i u k1, sl_of_V k2⟩
theorem V_of_row {Y : Nat → Prop} {w : World} {base n : Nat} {e : TypeId} {v : Value} {xs : List Value} {l : List A} (h : w.ownsRow base e 1 v n xs) (hl : VL noPl Y w l xs) (hY : ∀ b, Y b → b < base) : V noPl Y w (.ro n l) v := by
  simp only [V]
  have hln := hl.length
  rcases Nat.eq_zero_or_pos n with h0 | hp
  · subst h0
    have hx : xs = [] := List.eq_nil_of_length_eq_zero (by simpa using h.1)
    subst hx
    have hl0 : l = [] := List.eq_nil_of_length_eq_zero (by simpa using hln.symm)
    subst hl0
    rcases h.2 with ⟨rfl, _⟩ | ⟨g, cap, cur, rfl, _, _, h1, h2, _⟩
    · exact ⟨none, 0, rfl, Nat.le_refl _, Nat.zero_le _, fun _ => ⟨rfl, rfl, rfl⟩, fun q hq => by cases hq⟩
    · exact ⟨_, cap, rfl, h1, h2, fun h => (Option.some_ne_none _ h).elim, fun q _ => .inl rfl⟩
  · obtain ⟨gb, cap, cur, rfl, h1, h2, h3, h4, h5, h6⟩ := ownsRow_at h hp
    refine ⟨_, cap, rfl, h3, h4, fun h => (Option.some_ne_none _ h).elim, fun q hq => ?_⟩
    cases hq
    refine .inr ⟨rfl, fun hY' => by have := hY gb hY'; omega, (Array.getElem?_eq_some_iff.1 h2).1, xs, ?_, fun j u hj => ?_⟩
    · exact hl
    · have hjn : j < n := by have := (List.getElem?_eq_some_iff.1 hj).1; omega
      have := (h6 j hjn).1
      rw [Nat.zero_add, this]
      simp [List.getD, hj]
theorem V_of_own {Y : Nat → Prop} {w : World} {base : Nat} {e : TypeId} {k : IntKind} {v : Value} {xs : List Int} (h : Own base e k w v xs) (hY : ∀ b, Y b → b < base) : V noPl Y w (rdI k xs) v :=
  V_of_row (n := xs.length) h (VL_ints_mk xs) hY
theorem V_of_ownM {Y : Nat → Prop} {w : World} {base : Nat} {v : Value} {g : List (List Int)} (h : OwnM base w v g) (hY : ∀ b, Y b → b < base) : V noPl Y w (rdM .i64 g) v := by
  obtain ⟨rows', h1, _, h3, _⟩ := h
  refine V_of_row (n := g.length) h1 ?_ hY
  refine VL.of_get (by rw [h1.1]; simp [rows]) (fun i x u hx hu => ?_)
  have hi : i < g.length := by have := (List.getElem?_eq_some_iff.1 hx).1; simpa [rows] using this
  have hx' : x = rdI .i64 (g.getD i []) := by have : (rows .i64 g)[i]? = some (rdI .i64 (g.getD i [])) := by { simp [rows, hi, List.getD] }
                                              rw [this] at hx; exact (Option.some.inj hx).symm
  have hu' : rows'.getD i undef = u := by simp [List.getD, hu]
  rw [hx', ← hu']
  exact V_of_own (h3 i hi trivial) hY
/-- A value reads as an expression of this chapter. -/
def IsX (w : World) (v : Value) (x : Gp.X) : Prop := V noPl (fun _ => False) w (exprA x) v
theorem IsX.stays {w w' : World} {v : Value} {x : Gp.X} (h : IsX w v x) (hb : Below w.heap.size w w') : IsX w' v x :=
  V.mono (Ext.refl _) (fun _ _ h => h) (Kp.of_below hb) (fun _ _ h => h) _ _ h
theorem IsX.form {w : World} {v : Value} {x : Gp.X} (h : IsX w v x) : ∃ q0 q1 q2 a l c, v = .agg #[.int .i64 q0, .int .i64 q1, .int .i64 q2, .slice a l c] := by
  simp only [IsX, exprA, V] at h
  obtain ⟨vs, rfl, h1⟩ := h
  obtain ⟨v1, v2, v3, v4, rfl, h2, h3, h4, h5⟩ := VL4 h1
  simp only [V] at h2 h3 h4 h5
  obtain ⟨a, cap, rfl, _⟩ := h5
  subst h2 h3 h4
  exact ⟨_, _, _, _, _, _, rfl⟩
def shiftV (o : Option (Int × Int)) : Value := .tuple #[.agg #[.int .i64 (o.getD (0, 0)).1, .int .i64 (o.getD (0, 0)).2], .bool o.isSome]
def shift3 (o : Option (Int × Int)) : Value := .tuple #[.int .i64 (o.getD (0, 0)).1, .int .i64 (o.getD (0, 0)).2, .bool o.isSome]
theorem FC.callsV {P : Program} {g : FuncId} {args : List A} {r : A} {post : List Reg} (hc : FC P g args [] r post NoP) {w : World} {vs : List Value} (hv : VL noPl (fun _ => False) w args vs) :
    Calls P g vs.toArray w fun e w' => ∃ f v, e = .returned v ∧ V f (XOf (regs post) f (fun _ => False)) w' r v ∧ Below w.heap.size w w' := by
  refine (hc.call noPl (fun _ => False) w vs (fun _ _ _ => rfl) (fun _ h => h.elim) (fun k p c h => by simp [regs, Reg.get] at h) (fun k p k' p' b h => by simp [regs, Reg.get] at h)
    (hv.mono (Ext.refl _) (fun b _ hb => hb.elim (live_none b) id) (Kp.refl (fun _ => False) w) (fun _ _ h => h.elim))).mono ?_
  intro e w' he
  cases e with
  | outgrown => exact he.elim
  | panicked ch => exact he.1.elim
  | returned u =>
    obtain ⟨f1, _, _, h3, _, _, h6, _⟩ := he
    exact ⟨f1, u, rfl, h3, (h6.mono (fun b _ hb => live_none b hb)).below⟩
theorem shiftOf_any (v : Value) (x : Gp.X) (vars : Int) (w : World) (hx : IsX w v x) :
    Calls Try.prog 47 #[v, .int .i64 vars] w fun e w' => e = .returned (shiftV (Gp.shift vars x)) ∧ Below w.heap.size w w' := by
  refine (FC.callsV (shiftOf_fc x vars) (vs := [v, .int .i64 vars]) (.cons hx (.cons (by simp only [V]) .nil))).mono ?_
  rintro e w' ⟨f, u, rfl, h1, h2⟩
  simp only [shiftA, V] at h1
  obtain ⟨us, rfl, h3⟩ := h1
  obtain ⟨a, b, rfl, h4, h5⟩ := VL2 h3
  simp only [V] at h4 h5
  obtain ⟨ts, rfl, h6⟩ := h4
  obtain ⟨c, d, rfl, h7, h8⟩ := VL2 h6
  simp only [V] at h7 h8
  subst h5 h7 h8
  exact ⟨rfl, h2⟩
theorem rshift_any (v : Value) (x : Gp.X) (vars : Int) (w : World) (hx : IsX w v x) :
    Calls Try.prog 49 #[v, .int .i64 vars] w fun e w' => e = .returned (shift3 (Gp.shift vars x)) ∧ Below w.heap.size w w' := by
  refine (FC.callsV (rshift_fc x vars) (vs := [v, .int .i64 vars]) (.cons hx (.cons (by simp only [V]) .nil))).mono ?_
  rintro e w' ⟨f, u, rfl, h1, h2⟩
  simp only [shift3A, V] at h1
  obtain ⟨us, rfl, h3⟩ := h1
  obtain ⟨a, b, c, rfl, h4, h5, h6⟩ := VL3 h3
  simp only [V] at h4 h5 h6
  subst h4 h5 h6
  exact ⟨rfl, h2⟩
end Go.Proofs.Ytajlmkokfgbjdaa
