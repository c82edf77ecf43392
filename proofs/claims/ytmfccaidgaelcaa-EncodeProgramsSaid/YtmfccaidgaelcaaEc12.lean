/- How all bytes are read. No conditions. -/
import Derived.Test.YtmfccaidgaelcaaEc10
import Derived.Test.YtmfccaidgaelcaaEc11
import Derived.Test.YtmfccaidgaelcaaAbsE
set_option linter.unusedVariables false
set_option linter.unusedSimpArgs false
namespace Go.Proofs.Ytmfccaidgaelcaa
open Go.Abs Go Go.RowKit

set_option maxRecDepth 100000 in
set_option maxHeartbeats 16000000 in
theorem whole_def_big (n : Nat) (l : List A) (hn : 800000 < n) : FC Try.prog ge 56 [.ro n l, .fn 57 [] []] [] (.tup [.agg (zdef.map A.val), i64 2]) [] NoP := by
  refine FC.of_AW tok Try.func56 (by kernel_rfl) rfl Try.ntmps56 [] rfl rfl rfl ?_; intro w0 X0 Y f0 hI0 hX0
  (repeat (first | refine K4 ?_ | refine L2 ?_ | refine RG.d ?_ | refine S1 ?_ | refine S2 ?_))
  refine AW.condD rfl (fun _ => ?_) (fun k => absurd (show (800000 : Int) < (n : Int) by omega) k)
  (repeat (first | refine L1 ?_ | refine L3 ?_ | refine RG.d ?_ | refine S1 ?_ | refine S2 ?_ | refine S6 ?_))
  exact ⟨⟨_, rfl, rfl⟩, rfl, .nil _⟩
set_option maxRecDepth 100000 in
set_option maxHeartbeats 16000000 in
/-- All bytes are read. -/
theorem whole_def_ok (ws : List Int) (d : Df) (hws : ws.length ≤ 100000)
    (cr : FC Try.prog ge 57 [rdrA] [.one (stB ws [])] (.agg d.cl) [.one (stB [] [])] NoP) : FC Try.prog ge 56 [.ro (8 * ws.length) (ints .u8 (bsL ws)), .fn 57 [] []] [] (.tup [.agg d.cl, i64 0]) [] NoP := by
  obtain ⟨n, hn⟩ : ∃ n, n = 8 * ws.length := ⟨_, rfl⟩
  obtain ⟨l, hl⟩ : ∃ l, l = ints .u8 (bsL ws) := ⟨_, rfl⟩
  rw [← hn, ← hl]
  have e0 : stB ws [] = [.ro n l] := by unfold stB; rw [List.append_nil, hn, hl]; rfl
  rw [e0] at cr
  simp only [Df.cl] at cr ⊢
  refine ⟨enter_of Try.func56 rfl rfl, Nat.le_refl _, ?_⟩
  intro f0 Y w vs hgi hlow hfr hY hHR hInj hargs
  have hf0 : ∀ k p, f0 k p = none := fun k p => hfr k (Nat.zero_le _) p
  have hrel := Rel.entry (N := 29) (args := [.ro n l, .fn 57 [] []]) rfl hgi hlow hfr hY hHR hInj hargs
  refine calls_of_wp_defers Try.func56 rfl ?_
  rw [Try.ntmps56]
  refine wp_seq (AW.use hrel (Q := QN _ ⟨put 0 (some (.ro n l)) (put 1 (some (.fn 57 [] [])) (put 4 (some (.ptr 0 [] 0)) (put 5 (some (.ptr 1 [] 0)) noE))), hput 0 (.one (zdef.map A.val)) (hput 1 (.one [.val (.int .i64 0)]) noH), 2⟩) ?_ (QN.use fun f1 a1 w1 hr1 => ?_))
  · (repeat (first | refine L2 ?_ | refine RG.d ?_ | refine S2 ?_))
    exact Sub.of (by repeat (first | exact SubE.no _ | refine SubE.put rfl ?_)) (by repeat (first | exact SubH.no _ | refine SubH.put rfl ?_)) rfl
  refine wp_seq (AW.use hr1 (Q := QN _ ⟨put 0 (some (.ro n l)) (put 1 (some (.fn 57 [] [])) (put 4 (some (.ptr 0 [] 0)) (put 5 (some (.ptr 1 [] 0)) noE))), hput 0 (.one (zdef.map A.val)) (hput 1 (.one [.val (.int .i64 0)]) noH), 2⟩) ?_ (QN.use fun f2 a2 w2 hr2 => ?_))
  · (repeat (first | refine K4 ?_ | refine RG.d ?_ | refine S1 ?_ | refine S2 ?_))
    refine AW.condD rfl (fun k => absurd (show (800000 : Int) < (n : Int) from k) (by omega)) (fun _ => ?_)
    refine S3 ?_
    exact Sub.of (by repeat (first | exact SubE.no _ | refine SubE.put rfl ?_)) (by repeat (first | exact SubH.no _ | refine SubH.put rfl ?_)) rfl
  have v4 := hr2.e 4 (.ptr 0 [] 0) rfl
  have v5 := hr2.e 5 (.ptr 1 [] 0) rfl
  simp only [V] at v4 v5
  obtain ⟨b4, hb4, v4⟩ := v4
  obtain ⟨b5, hb5, v5⟩ := v5
  have hl4 : Live (hput 0 (.one (zdef.map A.val)) (hput 1 (.one [.val (.int .i64 0)]) noH)) f2 b4 := ⟨0, [], fun h => Option.some_ne_none _ h, hb4⟩
  have hl5 : Live (hput 0 (.one (zdef.map A.val)) (hput 1 (.one [.val (.int .i64 0)]) noH)) f2 b5 := ⟨1, [], fun h => Option.some_ne_none _ h, hb5⟩
  have n4 : w.heap.size ≤ b4 := (hr2.new b4 hl4).elim id (fun h => absurd h (live_none b4))
  have n5 : w.heap.size ≤ b5 := (hr2.new b5 hl5).elim id (fun h => absurd h (live_none b5))
  have hne : b4 ≠ b5 := fun h => by
    have := (hr2.inj 0 [] 1 [] b4 (fun h => Option.some_ne_none _ h) (fun h => Option.some_ne_none _ h) hb4 (by rw [h]; exact hb5)).1
    omega
  have hD : a2.defers = [] := hr2.defers.1
  have hNs : a2.tmps.size = 29 := hr2.N
  have k2 : Kp (fun b => w.heap.size ≤ b) w w2 := hr2.kp.mono (fun b _ h => absurd h (live_none b))
  refine wp_seq ?_
  refine wp_region ?_
  have hmf : ∀ (fn : Fn) (first cap : Array Value) (w : World), (Instr.makeFunc fn first cap).run Try.prog w = .ok (.func fn first cap) w := fun _ _ _ _ => rfl
  simp [wpOps, go_sem, hmf, v4, v5, Act.eval, Region.wanted, Act.put, hNs, hD]
  refine .inl (.inl ?_)
  have hT0 : ∀ (i : Nat) (v : Value), (fun i => bif Nat.beq i 4 then some (.pointer (some ⟨b4, 0, none⟩)) else bif Nat.beq i 5 then some (.pointer (some ⟨b5, 0, none⟩)) else none : Nat → Option Value) i = some v → (a2.tmps.setIfInBounds 11 (.func (.func 103) #[] #[.pointer (some ⟨b4, 0, none⟩), .pointer (some ⟨b5, 0, none⟩)])).getD i undef = v := by
    intro i v hi
    dsimp only at hi
    by_cases i4 : i = 4
    · subst i4
      simp only [Nat.beq_refl, cond_true, Option.some.injEq] at hi
      subst hi
      simp only [Array.getD_eq_getD_getElem?] at v4 ⊢
      rw [Array.getElem?_setIfInBounds_ne (by decide)]
      exact v4
    · by_cases i5 : i = 5
      · subst i5
        simp only [show Nat.beq 5 4 = false from rfl, Nat.beq_refl, cond_true, cond_false, Option.some.injEq] at hi
        subst hi
        simp only [Array.getD_eq_getD_getElem?] at v5 ⊢
        rw [Array.getElem?_setIfInBounds_ne (by decide)]
        exact v5
      · rw [beqF i4, beqF i5] at hi
        cases hi
  have hE0 : ∀ (i : Nat) (v : A), (put 0 (some (.ro n l)) (put 1 (some (.fn 57 [] [])) (put 4 (some (.ptr 0 [] 0)) (put 5 (some (.ptr 1 [] 0)) noE)))) i = some v → (a2.tmps.setIfInBounds 11 (.func (.func 103) #[] #[.pointer (some ⟨b4, 0, none⟩), .pointer (some ⟨b5, 0, none⟩)])).getD i undef = a2.tmps.getD i undef := by
    intro i v hi
    by_cases h11 : i = 11
    · subst h11
      have : (none : Option A) = some v := hi
      cases this
    · simp only [Array.getD_eq_getD_getElem?, Array.getElem?_setIfInBounds_ne (Ne.symm h11)]
  have hr3 := hr2.fresh [{ target := Target.fn (Fn.func 103) #[.pointer (some ⟨b4, 0, none⟩), .pointer (some ⟨b5, 0, none⟩)], args := #[] }] (fun i => bif Nat.beq i 4 then some (.pointer (some ⟨b4, 0, none⟩)) else bif Nat.beq i 5 then some (.pointer (some ⟨b5, 0, none⟩)) else none : Nat → Option Value)
    ⟨a2.tmps.setIfInBounds 11 (.func (.func 103) #[] #[.pointer (some ⟨b4, 0, none⟩), .pointer (some ⟨b5, 0, none⟩)]), [{ target := Target.fn (Fn.func 103) #[.pointer (some ⟨b4, 0, none⟩), .pointer (some ⟨b5, 0, none⟩)], args := #[] }]⟩ ⟨rfl, hT0⟩ (by simp) hE0
  refine AW.use hr3 (Q := QR _ ⟨put 4 (some (.ptr 0 [] 0)) (put 5 (some (.ptr 1 [] 0)) noE), hput 0 (.one [i64 d.id, i64 d.site, strA (unb d.name), i64 d.firm, i64 d.part, .ro d.params.length (flC Rg.cl d.params), .ro d.given.length (flC Rg.cl d.given), i64 d.vars, i64 d.refs, .ro d.arrays.length (flC Ar.cl d.arrays), i64 d.budget, .ro d.body.length (flC Sm.cl d.body)]) (hput 1 (.one [.val (.int .i64 0)]) noH), 2⟩) ?_ (QR.use fun f4 a4 w4 hr4 => ?_)
  · refine S1 ?_; (repeat (first | refine K4 ?_ | refine L2 ?_ | refine L3 ?_ | refine RG.d ?_ | refine S2 ?_))
    refine S1 ?_; (repeat (first | refine K4 ?_ | refine L1 ?_ | refine S2 ?_))
    refine RG.call rfl rfl rfl rfl (cr) [2] rfl rfl rfl rfl (.cons rfl (.one rfl) (Reg.lt_one rfl) ⟨[], _, rfl⟩ (.nil _)) (.cons (.one rfl) (.nil _)) (fun _ h => by first | exact h | exact False.elim h) rfl rfl rfl ?_
    (repeat (first | refine K4 ?_ | refine L1 ?_ | refine L3 ?_ | refine RG.d ?_ | refine S1 ?_ | refine S2 ?_ | refine S3 ?_ | refine S8 ?_))
    refine S6 ?_
    exact Sub.down (by repeat (first | exact SubE.no _ | refine SubE.put rfl ?_)) (by repeat (first | exact SubH.no _ | refine SubH.put rfl ?_)) (by repeat (first | exact LtE.no _ | refine LtE.put rfl ?_)) (by repeat (first | exact LtH.no _ | refine LtH.put rfl rfl ?_)) rfl
  · have k4 : Kp (fun b => w.heap.size ≤ b) w w4 := k2.trans' hr4.kp (fun i _ h => (hr2.new i h).elim id (fun h => absurd h (live_none i)))
    have key : Leaves Try.prog Try.f56 a4.tmps (FCPost f0 [] Y w (.tup [.agg [i64 d.id, i64 d.site, strA (unb d.name), i64 d.firm, i64 d.part, .ro d.params.length (flC Rg.cl d.params), .ro d.given.length (flC Rg.cl d.given), i64 d.vars, i64 d.refs, .ro d.arrays.length (flC Ar.cl d.arrays), i64 d.budget, .ro d.body.length (flC Sm.cl d.body)], i64 0]) [] NoP) a4.defers .returning w4 := by
      rw [hr4.defers.1]
      refine leaves_cons (f := 103) (args := #[.pointer (some ⟨b4, 0, none⟩), .pointer (some ⟨b5, 0, none⟩)]) (by simp) (by simp [go_sem]) ?_
      refine (idle_def _ _ w4).mono ?_
      rintro e u' w' ⟨⟨v, rfl⟩, rfl, rfl⟩
      obtain ⟨v, h1, h2⟩ := results_run tok hr4 (fn := Try.f56) (l := [.agg [i64 d.id, i64 d.site, strA (unb d.name), i64 d.firm, i64 d.part, .ro d.params.length (flC Rg.cl d.params), .ro d.given.length (flC Rg.cl d.given), i64 d.vars, i64 d.refs, .ro d.arrays.length (flC Ar.cl d.arrays), i64 d.budget, .ro d.body.length (flC Sm.cl d.body)], i64 0]) rfl
      exact ⟨v, h1, FCPost.of hf0 k4 h2 rfl (fun b hb => .inr hb)⟩
    exact ⟨key, key⟩
set_option maxRecDepth 100000 in
set_option maxHeartbeats 16000000 in
/-- A wrong form. -/
theorem whole_def_bad (ws t : List Int) (hws : ws.length ≤ 100000) (hsz : 8 * ws.length + t.length ≤ 800000)
    (cr : FC Try.prog ge 57 [rdrA] [.one (stB ws t)] A.no [.one (stB [] t)] PW ∨ ∃ d : Df, ∃ w : List Int, 0 < 8 * w.length + t.length ∧ FC Try.prog ge 57 [rdrA] [.one (stB ws t)] (.agg d.cl) [.one (stB w t)] NoP) :
    FC Try.prog ge 56 [.ro (8 * ws.length + t.length) (ints .u8 (bsL ws ++ t)), .fn 57 [] []] [] (.tup [.agg (zdef.map A.val), i64 3]) [] NoP := by
  obtain ⟨n, hn⟩ : ∃ n, n = 8 * ws.length + t.length := ⟨_, rfl⟩
  obtain ⟨l, hl⟩ : ∃ l, l = ints .u8 (bsL ws ++ t) := ⟨_, rfl⟩
  rw [← hn, ← hl]
  have e0 : stB ws t = [.ro n l] := by unfold stB; rw [hn, hl]
  rw [e0] at cr
  refine ⟨enter_of Try.func56 rfl rfl, Nat.le_refl _, ?_⟩
  intro f0 Y w vs hgi hlow hfr hY hHR hInj hargs
  have hf0 : ∀ k p, f0 k p = none := fun k p => hfr k (Nat.zero_le _) p
  have hrel := Rel.entry (N := 29) (args := [.ro n l, .fn 57 [] []]) rfl hgi hlow hfr hY hHR hInj hargs
  refine calls_of_wp_defers Try.func56 rfl ?_
  rw [Try.ntmps56]
  refine wp_seq (AW.use hrel (Q := QN _ ⟨put 0 (some (.ro n l)) (put 1 (some (.fn 57 [] [])) (put 4 (some (.ptr 0 [] 0)) (put 5 (some (.ptr 1 [] 0)) noE))), hput 0 (.one (zdef.map A.val)) (hput 1 (.one [.val (.int .i64 0)]) noH), 2⟩) ?_ (QN.use fun f1 a1 w1 hr1 => ?_))
  · (repeat (first | refine L2 ?_ | refine RG.d ?_ | refine S2 ?_))
    exact Sub.of (by repeat (first | exact SubE.no _ | refine SubE.put rfl ?_)) (by repeat (first | exact SubH.no _ | refine SubH.put rfl ?_)) rfl
  refine wp_seq (AW.use hr1 (Q := QN _ ⟨put 0 (some (.ro n l)) (put 1 (some (.fn 57 [] [])) (put 4 (some (.ptr 0 [] 0)) (put 5 (some (.ptr 1 [] 0)) noE))), hput 0 (.one (zdef.map A.val)) (hput 1 (.one [.val (.int .i64 0)]) noH), 2⟩) ?_ (QN.use fun f2 a2 w2 hr2 => ?_))
  · (repeat (first | refine K4 ?_ | refine RG.d ?_ | refine S1 ?_ | refine S2 ?_))
    refine AW.condD rfl (fun k => absurd (show (800000 : Int) < (n : Int) from k) (by omega)) (fun _ => ?_)
    refine S3 ?_
    exact Sub.of (by repeat (first | exact SubE.no _ | refine SubE.put rfl ?_)) (by repeat (first | exact SubH.no _ | refine SubH.put rfl ?_)) rfl
  have v4 := hr2.e 4 (.ptr 0 [] 0) rfl
  have v5 := hr2.e 5 (.ptr 1 [] 0) rfl
  simp only [V] at v4 v5
  obtain ⟨b4, hb4, v4⟩ := v4
  obtain ⟨b5, hb5, v5⟩ := v5
  have hl4 : Live (hput 0 (.one (zdef.map A.val)) (hput 1 (.one [.val (.int .i64 0)]) noH)) f2 b4 := ⟨0, [], fun h => Option.some_ne_none _ h, hb4⟩
  have hl5 : Live (hput 0 (.one (zdef.map A.val)) (hput 1 (.one [.val (.int .i64 0)]) noH)) f2 b5 := ⟨1, [], fun h => Option.some_ne_none _ h, hb5⟩
  have n4 : w.heap.size ≤ b4 := (hr2.new b4 hl4).elim id (fun h => absurd h (live_none b4))
  have n5 : w.heap.size ≤ b5 := (hr2.new b5 hl5).elim id (fun h => absurd h (live_none b5))
  have hne : b4 ≠ b5 := fun h => by
    have := (hr2.inj 0 [] 1 [] b4 (fun h => Option.some_ne_none _ h) (fun h => Option.some_ne_none _ h) hb4 (by rw [h]; exact hb5)).1
    omega
  have hD : a2.defers = [] := hr2.defers.1
  have hNs : a2.tmps.size = 29 := hr2.N
  have k2 : Kp (fun b => w.heap.size ≤ b) w w2 := hr2.kp.mono (fun b _ h => absurd h (live_none b))
  refine wp_seq ?_
  refine wp_region ?_
  have hmf : ∀ (fn : Fn) (first cap : Array Value) (w : World), (Instr.makeFunc fn first cap).run Try.prog w = .ok (.func fn first cap) w := fun _ _ _ _ => rfl
  simp [wpOps, go_sem, hmf, v4, v5, Act.eval, Region.wanted, Act.put, hNs, hD]
  refine .inl (.inl ?_)
  have hT0 : ∀ (i : Nat) (v : Value), (fun i => bif Nat.beq i 4 then some (.pointer (some ⟨b4, 0, none⟩)) else bif Nat.beq i 5 then some (.pointer (some ⟨b5, 0, none⟩)) else none : Nat → Option Value) i = some v → (a2.tmps.setIfInBounds 11 (.func (.func 103) #[] #[.pointer (some ⟨b4, 0, none⟩), .pointer (some ⟨b5, 0, none⟩)])).getD i undef = v := by
    intro i v hi
    dsimp only at hi
    by_cases i4 : i = 4
    · subst i4
      simp only [Nat.beq_refl, cond_true, Option.some.injEq] at hi
      subst hi
      simp only [Array.getD_eq_getD_getElem?] at v4 ⊢
      rw [Array.getElem?_setIfInBounds_ne (by decide)]
      exact v4
    · by_cases i5 : i = 5
      · subst i5
        simp only [show Nat.beq 5 4 = false from rfl, Nat.beq_refl, cond_true, cond_false, Option.some.injEq] at hi
        subst hi
        simp only [Array.getD_eq_getD_getElem?] at v5 ⊢
        rw [Array.getElem?_setIfInBounds_ne (by decide)]
        exact v5
      · rw [beqF i4, beqF i5] at hi
        cases hi
  have hE0 : ∀ (i : Nat) (v : A), (put 0 (some (.ro n l)) (put 1 (some (.fn 57 [] [])) (put 4 (some (.ptr 0 [] 0)) (put 5 (some (.ptr 1 [] 0)) noE)))) i = some v → (a2.tmps.setIfInBounds 11 (.func (.func 103) #[] #[.pointer (some ⟨b4, 0, none⟩), .pointer (some ⟨b5, 0, none⟩)])).getD i undef = a2.tmps.getD i undef := by
    intro i v hi
    by_cases h11 : i = 11
    · subst h11
      have : (none : Option A) = some v := hi
      cases this
    · simp only [Array.getD_eq_getD_getElem?, Array.getElem?_setIfInBounds_ne (Ne.symm h11)]
  have hr3 := hr2.fresh [{ target := Target.fn (Fn.func 103) #[.pointer (some ⟨b4, 0, none⟩), .pointer (some ⟨b5, 0, none⟩)], args := #[] }] (fun i => bif Nat.beq i 4 then some (.pointer (some ⟨b4, 0, none⟩)) else bif Nat.beq i 5 then some (.pointer (some ⟨b5, 0, none⟩)) else none : Nat → Option Value)
    ⟨a2.tmps.setIfInBounds 11 (.func (.func 103) #[] #[.pointer (some ⟨b4, 0, none⟩), .pointer (some ⟨b5, 0, none⟩)]), [{ target := Target.fn (Fn.func 103) #[.pointer (some ⟨b4, 0, none⟩), .pointer (some ⟨b5, 0, none⟩)], args := #[] }]⟩ ⟨rfl, hT0⟩ (by simp) hE0
  refine AW.use hr3 (Q := QP PW) ?_ (QP.use fun ch a4 w4 hp => ?_)
  · rcases cr with cr | ⟨d, wr, hpos, cr⟩
    · refine S1 ?_; (repeat (first | refine K4 ?_ | refine L2 ?_ | refine L3 ?_ | refine RG.d ?_ | refine S2 ?_))
      refine S1 ?_; (repeat (first | refine K4 ?_ | refine L1 ?_ | refine S2 ?_))
      refine RG.call rfl rfl rfl rfl (cr) [2] rfl rfl rfl rfl (.cons rfl (.one rfl) (Reg.lt_one rfl) ⟨[], _, rfl⟩ (.nil _)) (.cons (.one rfl) (.nil _)) (fun _ h => by first | exact h | exact False.elim h) rfl rfl rfl ?_
      repeat refine RG.dead 18 rfl rfl ?_
      refine RG.done rfl ?_
      exact AW.absurd 18 rfl
    · simp only [Df.cl] at cr
      refine S1 ?_; (repeat (first | refine K4 ?_ | refine L2 ?_ | refine L3 ?_ | refine RG.d ?_ | refine S2 ?_))
      refine S1 ?_; (repeat (first | refine K4 ?_ | refine L1 ?_ | refine S2 ?_))
      refine RG.call rfl rfl rfl rfl (cr) [2] rfl rfl rfl rfl (.cons rfl (.one rfl) (Reg.lt_one rfl) ⟨[], _, rfl⟩ (.nil _)) (.cons (.one rfl) (.nil _)) (fun _ h => by first | exact h | exact False.elim h) rfl rfl rfl ?_
      (repeat (first | refine L3 ?_ | refine RG.d ?_))
      refine S1 ?_
      (repeat (first | refine K4 ?_ | refine L1 ?_ | refine RG.d ?_ | refine S1 ?_ | refine S2 ?_))
      refine AW.condD rfl (fun _ => ?_) (fun k => absurd (show (0 : Int) < ((8 * wr.length + t.length : Nat) : Int) by omega) k)
      (repeat (first | refine K4 ?_ | refine S2 ?_))
      refine RG.panic rfl rfl rfl rfl ?_
      (repeat (first | refine L1 ?_ | refine L3 ?_ | refine RG.d ?_ | refine S1 ?_ | refine S2 ?_))
      exact AW.absurd 27 rfl
  · obtain ⟨rfl, kp, hdf, hT⟩ := hp
    have t4 : a4.tmps.getD 4 undef = .pointer (some ⟨b4, 0, none⟩) := hT 4 _ rfl
    have t5 : a4.tmps.getD 5 undef = .pointer (some ⟨b5, 0, none⟩) := hT 5 _ rfl
    have g4 : ∃ arr el, w4.heap[b4]? = some (.cells arr el (0, 0)) ∧ 12 ≤ arr.size := by
      rcases hr3.h 0 [] (zdef.map A.val) rfl with ⟨h1, _⟩ | ⟨b, arr, el, h1, h2, h3, _⟩
      · cases h1
      · rw [hb4] at h1
        cases h1
        obtain ⟨arr', h5, h6⟩ := kp.shape _ _ _ _ h2
        exact ⟨arr', el, h5, by rw [h6]; exact h3⟩
    have g5 : ∃ arr el, w4.heap[b5]? = some (.cells arr el (0, 0)) ∧ 1 ≤ arr.size := by
      rcases hr3.h 1 [] [.val (.int .i64 0)] rfl with ⟨h1, _⟩ | ⟨b, arr, el, h1, h2, h3, _⟩
      · cases h1
      · rw [hb5] at h1
        cases h1
        obtain ⟨arr', h5, h6⟩ := kp.shape _ _ _ _ h2
        exact ⟨arr', el, h5, by rw [h6]; exact h3⟩
    have k4 : Kp (fun b => w.heap.size ≤ b) w w4 := k2.trans' kp (fun i _ h => (hr2.new i h).elim id (fun h => absurd h (live_none i)))
    show Leaves Try.prog Try.f56 a4.tmps (FCPost f0 [] Y w (.tup [.agg (zdef.map A.val), i64 3]) [] NoP) a4.defers (.panicking [{ v := wrongV, recovered := false }]) w4
    rw [hdf]
    refine leaves_cons (f := 103) (args := #[.pointer (some ⟨b4, 0, none⟩), .pointer (some ⟨b5, 0, none⟩)]) (by simp) (by simp [go_sem]) ?_
    refine (catch_def w4 b4 b5 hne g4 g5).mono ?_
    rintro e u' w5 ⟨⟨v, rfl⟩, rfl, kp5, ⟨arr4, el4, q4, s4, e4⟩, ⟨arr5, el5, q5, s5, e5⟩⟩
    have k5 : Kp (fun b => w.heap.size ≤ b) w w5 := k4.trans' kp5 (fun i _ h => by rcases h with rfl | rfl <;> assumption)
    have hr5 := Rel.two (I := GI.none) (Y := Y) (N := a4.tmps.size) (w := w5) hne (c4 := zdef.map A.val) (c5 := [.val (.int .i64 3)]) q4 (by simpa [zdef] using s4) (fun f X => by rw [show (zdef.map A.val).length = 12 from rfl, e4]; exact VL.vals _)
      q5 s5 (fun f X => by rw [show ([.val (.int .i64 3)] : List A).length = 1 from rfl, e5]; exact VL.vals [.int .i64 3]) (e := put 4 (some (.ptr 0 [] 0)) (put 5 (some (.ptr 1 [] 0)) noE)) (a := ⟨a4.tmps, []⟩) rfl (fun i v hi X => ?_) rfl trivial (fun _ _ => Nat.zero_le _)
      (fun b hb => ⟨Nat.lt_of_lt_of_le (hY b hb).1 k5.size, fun h => by have := (hY b hb).1; rcases h with rfl | rfl <;> omega⟩)
    rotate_left
    · by_cases h4 : i = 4
      · subst h4
        rw [put_same] at hi
        cases hi
        simp only [V]
        exact ⟨b4, rfl, t4⟩
      · rw [put_ne _ _ h4] at hi
        by_cases h5 : i = 5
        · subst h5
          rw [put_same] at hi
          cases hi
          simp only [V]
          exact ⟨b5, rfl, t5⟩
        · rw [put_ne _ _ h5] at hi
          cases hi
    obtain ⟨v, h1, h2⟩ := results_run tok hr5 (fn := Try.f56) (l := [.agg (zdef.map A.val), i64 3]) rfl
    exact ⟨v, h1, FCPost.of hf0 k5 h2 rfl (fun b hb => .inr hb)⟩
end Go.Proofs.Ytmfccaidgaelcaa
