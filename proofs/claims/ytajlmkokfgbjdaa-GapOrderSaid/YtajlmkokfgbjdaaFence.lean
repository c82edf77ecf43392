/- A region that draws its order inside a round of a loop: walked by the plain law, and handed over. No conditions. -/
import Derived.Test.YtajlmkokfgbjdaaU64
import Derived.StillTail
import Derived.OrdersHeld
import Derived.OrdersIn
import Derived.TacticsIn
set_option linter.unusedVariables false
set_option linter.unusedSimpArgs false
namespace Go.Proofs.Ytajlmkokfgbjdaa

theorem callsIn_round {l n : Nat} {P : Program} {f : FuncId} {args : Array Value} {w : World} {R : Ending → World → Prop} (h : Calls P f args w R) : CallsIn (Fence.wide.inRound l) n P f args w R :=
  (callsIn_wide (n := n)).2 h

theorem wpIn_of_wp_oper {l n : Nat} {P : Program} {o : Oper} {a : Act} {w : World} {K : Act → World → Prop} {Q : Exit → Act → World → Prop} (hd : ∀ c, o.op ≠ .defer c) (h : o.wp P a w K Q) : o.wpIn (Fence.wide.inRound l) n P a w K Q := by
  unfold Oper.wpIn
  refine ⟨fun _ _ => trivial, ?_⟩
  rw [Fence.inRound_round, Oper.semAt_some _ _ _ hd]
  unfold Oper.wp at h
  generalize (execOp a.eval o).run P w = r at *
  have hdep : (Fence.wide.inRound l).depth.isSome = true → 1 ≤ n := fun e => by simp [Fence.wide] at e
  cases r with
  | ok x w' =>
    cases x <;> first
      | exact h
      | exact ⟨hdep, callsIn_round h⟩
      | exact ⟨hdep, fun c cs _ => let ⟨v, w', r, s⟩ := h c cs; ⟨v, w', r, stepsIn_wide.2 s⟩⟩
      | exact h.elim
  | halt x w' => cases x <;> first | exact h | exact h.elim

theorem wpAnyIn_of_wpAny {l n : Nat} {P : Program} {md : Region.Mode} {ops : Array Oper} {Q : Exit → Act → World → Prop} (hd : ∀ (i : Nat) (o : Oper), ops[i]? = some o → ∀ c, o.op ≠ .defer c) (hq : ¬ LetsOut Q) :
    ∀ (fuel : Nat) (listed : Array Bool) (a : Act) (w : World), wpAny P md ops Q fuel listed a w → wpAnyIn (Fence.wide.inRound l) n P md ops Q fuel listed a w
  | 0, _, _, _, h => h
  | fuel + 1, listed, a, w, h => by
    refine ⟨h.1, fun i hi => ?_⟩
    have h2 := h.2 i hi
    unfold wpOp at h2
    unfold wpOpIn
    split at h2
    · rename_i e; rw [e]; exact wpAnyIn_of_wpAny hd hq fuel _ _ _ h2
    · rename_i o e
      rw [e]
      simp only []
      split
      · rename_i hw
        simp only [hw, if_true] at h2
        rcases h2 with h2 | ⟨_, h2⟩
        · exact Oper.wpIn_mono (fun a w => wpAnyIn_of_wpAny hd hq fuel _ a w) (wpIn_of_wp_oper (hd i o e) h2)
        · exact absurd h2 hq
      · rename_i hw
        simp only [hw] at h2
        exact ⟨fun _ _ => trivial, wpAnyIn_of_wpAny hd hq fuel _ _ _ h2⟩

def noDefers (ops : Array Oper) : Bool := ops.all fun o => match o.op with | .defer _ => false | _ => true
theorem noDefers.spec {ops : Array Oper} (h : noDefers ops = true) : ∀ (i : Nat) (o : Oper), ops[i]? = some o → ∀ c, o.op ≠ .defer c := by
  intro i o hi c e
  unfold noDefers at h
  rw [Array.all_eq_true] at h
  obtain ⟨hlt, rfl⟩ := Array.getElem?_eq_some_iff.1 hi
  have := h i hlt
  rw [e] at this
  cases this

theorem wpIn_region_wpAny {l n : Nat} {P : Program} {ops : Array Oper} {Q : Exit → Act → World → Prop} {id : Nat} {a : Act} {w : World} (hm : P.follows .mixedOrders = true) (hn : noDefers ops = true) (hq : ¬ LetsOut Q)
    (h : wpAny P .any ops Q ops.size (Array.replicate ops.size false) a w.drew) : (Code.region id ops true).wpIn (Fence.wide.inRound l) n P Q a w :=
  wpIn_region_any hm (wpAnyIn_of_wpAny (noDefers.spec hn) hq _ _ _ _ h)

/-! ### Loads taken first where what they read may be written behind them -/
section
variable {P : Program} {ops : Array Oper} {Q : Exit → Act → World → Prop} {md : Region.Mode} {R : Nat → World → Prop} {keys : List Nat}

/-- What is held of the world while operation t of the keys has not come up. -/
def Held (keys : List Nat) (R : Nat → World → Prop) (l : Array Bool) (w : World) : Prop := ∀ t, t ∈ keys → l.getD t false = false → R t w
/-- The part that operation i may use: of those that wait for it. -/
def HeldFor (md : Region.Mode) (ops : Array Oper) (keys : List Nat) (R : Nat → World → Prop) (i : Nat) (w : World) : Prop := ∀ t, t ∈ keys → Region.waitsFor md ops t i = true → R t w
/-- What has come up, with all that it waits for. -/
def Down (md : Region.Mode) (ops : Array Oper) (l : Array Bool) : Prop := ∀ (j : Nat) (oj : Oper), ops[j]? = some oj → l.getD j false = true → ∀ e ∈ oj.after, Region.binds md e = true → l.getD e.on false = true
def downB (md : Region.Mode) (ops : Array Oper) (l : Array Bool) : Bool := (List.range ops.size).all fun j => !l.getD j false || ((ops[j]?).map (·.after.all fun e => !Region.binds md e || l.getD e.on false)).getD false
theorem downB.spec {l : Array Bool} (h : downB md ops l = true) : Down md ops l := by
  intro j oj hj hl e he hb
  have hlt := (Array.getElem?_eq_some_iff.1 hj).1
  have h1 := List.all_eq_true.1 h j (List.mem_range.2 hlt)
  rw [hl, hj] at h1
  simp only [Bool.not_true, Bool.false_or, Option.map_some, Option.getD_some] at h1
  have h2 := Array.all_eq_true_iff_forall_mem.1 h1 e he
  rw [hb] at h2
  simpa using h2
theorem Held.for {l : Array Bool} {w : World} {i : Nat} (h : Held keys R l w) (hd : Down md ops l) (hi : l.getD i true = false) : HeldFor md ops keys R i w := by
  intro t ht hw
  refine h t ht ?_
  obtain ⟨oj, hj, e, he, hb, rfl⟩ := Region.waitsFor_spec hw
  cases hl : l.getD t false with
  | false => rfl
  | true =>
    have h1 := hd t oj hj hl e he hb
    exfalso
    rw [Array.getD_eq_getD_getElem?] at hi h1
    cases hx : l[e.on]? with
    | none => rw [hx] at hi; cases hi
    | some b => rw [hx] at hi h1; simp at hi h1; rw [hi] at h1; cases h1
theorem Held.put {l : Array Bool} {w : World} {i : Nat} (h : Held keys R l w) : Held keys R (l.setIfInBounds i true) w := by
  intro t ht hl
  refine h t ht ?_
  cases hx : l.getD t false with
  | false => rfl
  | true => rw [getD_set_true hx] at hl; cases hl
theorem Held.unput {l : Array Bool} {w : World} {i : Nat} (hi : i ∉ keys) (h : Held keys R (l.setIfInBounds i true) w) : Held keys R l w := by
  intro t ht hl
  refine h t ht ?_
  have hne : i ≠ t := by rintro rfl; exact hi ht
  rw [getD_set_ne false hne]
  exact hl

theorem Held.none {l : Array Bool} {w : World} (h : (keys.all fun t => l.getD t false) = true) : Held keys R l w := by
  intro t ht hl
  have := List.all_eq_true.1 h t ht
  rw [hl] at this
  cases this

def wpAnyT (P : Program) (md : Region.Mode) (ops : Array Oper) (Q : Exit → Act → World → Prop) (keys : List Nat) (R : Nat → World → Prop) : Nat → Array Bool → Act → World → Prop
  | 0, listed, a, w => Region.ready md ops listed = [] ∧ Q .normal a w
  | fuel + 1, listed, a, w =>
    (Region.ready md ops listed = [] → Q .normal a w) ∧
    ∀ i ∈ Region.ready md ops listed, wpOp P ops Q i (fun a' w' => Held keys R (listed.setIfInBounds i true) w' ∧ wpAnyT P md ops Q keys R fuel (listed.setIfInBounds i true) a' w') a w

theorem wpAny_of_T : ∀ (fuel : Nat) (listed : Array Bool) (a : Act) (w : World), wpAnyT P md ops Q keys R fuel listed a w → wpAny P md ops Q fuel listed a w
  | 0, _, _, _, h => h
  | fuel + 1, _, _, _, h => ⟨h.1, fun i hi => wpOp_mono (fun a' w' h' => wpAny_of_T fuel _ a' w' h'.2) (h.2 i hi)⟩

theorem Down.step {l : Array Bool} {j : Nat} (h : Down md ops l) (hj : j ∈ Region.ready md ops l) : Down md ops (l.setIfInBounds j true) := by
  intro k ok hk hl e he hb
  by_cases hjk : j = k
  · subst hjk
    obtain ⟨_, oj, hoj, hall⟩ := mem_ready.1 hj
    rw [hoj] at hk; cases hk
    exact getD_set_true (hall e he hb)
  · rw [getD_set_ne false hjk] at hl
    exact getD_set_true (h k ok hk hl e he hb)

theorem wpAnyT_first {i : Nat} {oi : Oper} {v : Value} (hi : ops[i]? = some oi) (hsel : ∀ (j : Nat) (o : Oper) cs b, ops[j]? = some o → o.op ≠ .select cs b)
    (hQ : ∀ c a w, Q (.panic c) (a.put oi.dst v) w → Q (.panic c) a w) (hk : i ∉ keys) :
    ∀ (fuel : Nat) (listed : Array Bool) (a : Act) (w : World),
      (∀ j oj, ops[j]? = some oj → j ≠ i → listed.getD j true = false → (∀ e ∈ oj.after, Region.binds md e = true → e.on ≠ i) → oi.apart ops oj = true) →
      Down md ops listed → i ∈ Region.ready md ops listed → YieldsIf P ops (HeldFor md ops keys R i) oi v a → Held keys R listed w →
      wpAnyT P md ops Q keys R fuel (listed.setIfInBounds i true) (a.put oi.dst v) w → wpAnyT P md ops Q keys R (fuel + 1) listed a w := by
  intro fuel
  induction fuel with
  | zero =>
    intro listed a w _ hD hr hy hS H
    refine ⟨fun h => (by rw [h] at hr; cases hr), fun j hj => ?_⟩
    by_cases hji : j = i
    · subst hji; exact hy.wpOp hi (hS.for hD (mem_ready.1 hr).1) ⟨hS.put, H⟩
    · have := ready_mono hj hji
      rw [H.1] at this
      cases this
  | succ fuel ih =>
    intro listed a w hfree hD hr hy hS H
    refine ⟨fun h => (by rw [h] at hr; cases hr), fun j hj => ?_⟩
    by_cases hji : j = i
    · subst hji; exact hy.wpOp hi (hS.for hD (mem_ready.1 hr).1) ⟨hS.put, H⟩
    · have h1 := H.2 j (ready_mono hj hji)
      obtain ⟨hjun, oj, hoj, hall⟩ := mem_ready.1 hj
      have hnot : ∀ e ∈ oj.after, Region.binds md e = true → e.on ≠ i := fun e he hb heq => by
        have h1 := hall e he hb
        have h0 := (mem_ready.1 hr).1
        rw [heq] at h1
        rcases Nat.lt_or_ge i listed.size with h' | h'
        · simp [h'] at h0 h1; rw [h0] at h1; cases h1
        · simp [Array.getElem?_eq_none h'] at h1
      have h2 := wpOp_putIf hoj (hfree j oj hoj hji hjun hnot) (fun cs b => hsel i oi cs b hi) (fun cs b => hsel j oj cs b hoj) hQ hy h1
      have hfree' : ∀ k ok, ops[k]? = some ok → k ≠ i → (listed.setIfInBounds j true).getD k true = false →
          (∀ e ∈ ok.after, Region.binds md e = true → e.on ≠ i) → oi.apart ops ok = true := fun k ok hk hki hun hno => by
        refine hfree k ok hk hki ?_ hno
        by_cases hjk : j = k
        · subst hjk; exact hjun
        · rw [getD_set_ne true hjk] at hun; exact hun
      refine wpOp_mono (fun a' w' h3 => ?_) h2
      have h4 : Held keys R (listed.setIfInBounds j true) w' := by
        have := h3.2.1
        rw [Array.setIfInBounds_comm _ _ (Ne.symm hji)] at this
        exact this.unput hk
      refine ⟨h4, ih (listed.setIfInBounds j true) a' w' hfree' (hD.step hj) (ready_mono hr (Ne.symm hji)) h3.1 h4 ?_⟩
      rw [Array.setIfInBounds_comm _ _ hji]
      exact h3.2.2

/-- Take number i first. -/
theorem wpAnyT_take (i : Nat) (d : Option Tmp) (v : Value) {oi : Oper} {fuel : Nat} {listed : Array Bool} {a : Act} {w : World} (hi : ops[i]? = some oi) (hdd : oi.dst = d)
    (hs : Region.noSelect ops = true) (hf : Region.free md ops listed i = true) (hr : (Region.ready md ops listed).contains i = true) (hd : downB md ops listed = true) (hk : keys.contains i = false)
    (hQ : ∀ c a w, Q (.panic c) (a.put oi.dst v) w → Q (.panic c) a w) (hS : Held keys R listed w) (hw : Region.wanted oi (yielded ops a.tmps) = true)
    (hy : ∀ w, HeldFor md ops keys R i w → (execOp a.eval oi).run P w = .ok (.value v) w)
    (h : Held keys R (listed.setIfInBounds i true) w → wpAnyT P md ops Q keys R fuel (listed.setIfInBounds i true) (a.put d v) w) : wpAnyT P md ops Q keys R (fuel + 1) listed a w := by
  subst hdd
  exact wpAnyT_first hi (Region.noSelect_spec hs) hQ (by simpa using hk) fuel listed a w (Region.free_spec hi hf) (downB.spec hd) (by simpa using hr) (Or.inl ⟨hw, hy⟩) hS (h hS.put)

/-- The one operation that may come up. -/
theorem wpAnyT_step (i : Nat) {oi : Oper} {fuel : Nat} {listed : Array Bool} {a : Act} {w : World} (hi : ops[i]? = some oi) (hr : Region.ready md ops listed = [i]) (hw : Region.wanted oi (yielded ops a.tmps) = true)
    (h : oi.wp P a w (fun a' w' => Held keys R (listed.setIfInBounds i true) w' ∧ wpAnyT P md ops Q keys R fuel (listed.setIfInBounds i true) a' w') Q) : wpAnyT P md ops Q keys R (fuel + 1) listed a w := by
  refine ⟨fun h0 => (by rw [h0] at hr; cases hr), fun j hj => ?_⟩
  rw [hr] at hj
  obtain rfl : j = i := by simpa using hj
  unfold wpOp
  simp only [hi, hw, if_true]
  exact .inl h

theorem wpAnyT_done {fuel : Nat} {listed : Array Bool} {a : Act} {w : World} (hr : Region.ready md ops listed = []) (h : Q .normal a w) : wpAnyT P md ops Q keys R fuel listed a w := by
  cases fuel with
  | zero => exact ⟨hr, h⟩
  | succ fuel => exact ⟨fun _ => h, by rw [hr]; simp⟩
end
end Go.Proofs.Ytajlmkokfgbjdaa
