/- All bytes of a program are read. No conditions. -/
import Derived.Test.YtmfccaidgaelcaaEc47
import Derived.Test.YtmfccaidgaelcaaEc13
set_option linter.unusedVariables false
set_option linter.unusedSimpArgs false
namespace Go.Proofs.Ytmfccaidgaelcaa
open Go.Abs Go Go.RowKit

set_option maxRecDepth 100000 in
set_option maxHeartbeats 16000000 in
theorem wholeP_big (n : Nat) (l : List A) (hn : 800000 < n) : FC Try.prog ge 44 [.ro n l, .fn 45 [] []] [] (.tup [.agg (zprg.map A.val), i64 2]) [] NoP := by
  refine FC.of_AW tok Try.func44 (by kernel_rfl) rfl Try.ntmps44 [] rfl rfl rfl ?_; intro w0 X0 Y f0 hI0 hX0
  (repeat (first | refine K4 ?_ | refine L2 ?_ | refine RG.d ?_ | refine S1 ?_ | refine S2 ?_))
  refine AW.condD rfl (fun _ => ?_) (fun k => absurd (show (800000 : Int) < (n : Int) by omega) k)
  (repeat (first | refine L1 ?_ | refine L3 ?_ | refine RG.d ?_ | refine S1 ?_ | refine S2 ?_ | refine S6 ?_))
  exact ⟨⟨_, rfl, rfl⟩, rfl, .nil _⟩
set_option maxRecDepth 100000 in
set_option maxHeartbeats 16000000 in
/-- All bytes are read. -/
theorem wholeP_ok (ws : List Int) (d : Pg) (hws : ws.length ≤ 100000)
    (cr : FC Try.prog ge 45 [rdrA] [.one (stB ws [])] (.agg d.cl) [.one (stB [] [])] NoP) : FC Try.prog ge 44 [.ro (8 * ws.length) (ints .u8 (bsL ws)), .fn 45 [] []] [] (.tup [.agg d.cl, i64 0]) [] NoP := by
  obtain ⟨n, hn⟩ : ∃ n, n = 8 * ws.length := ⟨_, rfl⟩
  obtain ⟨l, hl⟩ : ∃ l, l = ints .u8 (bsL ws) := ⟨_, rfl⟩
  rw [← hn, ← hl]
  have e0 : stB ws [] = [.ro n l] := by unfold stB; rw [List.append_nil, hn, hl]; rfl
  rw [e0] at cr
  simp only [Pg.cl, Dc.cl, List.cons_append, List.nil_append] at cr ⊢
  refine ⟨enter_of Try.func44 rfl rfl, Nat.le_refl _, ?_⟩
  intro f0 Y w vs hgi hlow hfr hY hHR hInj hargs
  have hf0 : ∀ k p, f0 k p = none := fun k p => hfr k (Nat.zero_le _) p
  have hrel := Rel.entry (N := 29) (args := [.ro n l, .fn 45 [] []]) rfl hgi hlow hfr hY hHR hInj hargs
  refine calls_of_wp_defers Try.func44 rfl ?_
  rw [Try.ntmps44]
  refine wp_seq (AW.use hrel (Q := QN _ ⟨put 0 (some (.ro n l)) (put 1 (some (.fn 45 [] [])) (put 4 (some (.ptr 0 [] 0)) (put 5 (some (.ptr 1 [] 0)) noE))), hput 0 (.one (zprg.map A.val)) (hput 1 (.one [.val (.int .i64 0)]) noH), 2⟩) ?_ (QN.use fun f1 a1 w1 hr1 => ?_))
  · (repeat (first | refine L2 ?_ | refine RG.d ?_ | refine S2 ?_))
    exact Sub.of (by repeat (first | exact SubE.no _ | refine SubE.put rfl ?_)) (by repeat (first | exact SubH.no _ | refine SubH.put rfl ?_)) rfl
  refine wp_seq (AW.use hr1 (Q := QN _ ⟨put 0 (some (.ro n l)) (put 1 (some (.fn 45 [] [])) (put 4 (some (.ptr 0 [] 0)) (put 5 (some (.ptr 1 [] 0)) noE))), hput 0 (.one (zprg.map A.val)) (hput 1 (.one [.val (.int .i64 0)]) noH), 2⟩) ?_ (QN.use fun f2 a2 w2 hr2 => ?_))
  · (repeat (first | refine K4 ?_ | refine RG.d ?_ | refine S1 ?_ | refine S2 ?_))
    refine AW.condD rfl (fun k => absurd (show (800000 : Int) < (n : Int) from k) (by omega)) (fun _ => ?_)
    refine S3 ?_
    exact Sub.of (by repeat (first | exact SubE.no _ | refine SubE.put rfl ?_)) (by repeat (first | exact SubH.no _ | refine SubH.put rfl ?_)) rfl
  have v4 := hr2.e 4 (.ptr 0 [] 0) rfl
  have v5 := hr2.e 5 (.ptr 1 [] 0) rfl
  simp only [V] at v4 v5
  obtain ⟨b4, hb4, v4⟩ := v4
  obtain ⟨b5, hb5, v5⟩ := v5
  have hl4 : Live (hput 0 (.one (zprg.map A.val)) (hput 1 (.one [.val (.int .i64 0)]) noH)) f2 b4 := ⟨0, [], fun h => Option.some_ne_none _ h, hb4⟩
  have hl5 : Live (hput 0 (.one (zprg.map A.val)) (hput 1 (.one [.val (.int .i64 0)]) noH)) f2 b5 := ⟨1, [], fun h => Option.some_ne_none _ h, hb5⟩
  have n4 : w.heap.size ≤ b4 := (hr2.new b4 hl4).elim id (fun h => absurd h (live_none b4))
  have n5 : w.heap.size ≤ b5 := (hr2.new b5 hl5).elim id (fun h => absurd h (live_none b5))
  have hne : b4 ≠ b5 := fun h => by
    have := (hr2.inj 0 [] 1 [] b4 (fun h => Option.some_ne_none _ h) (fun h => Option.some_ne_none _ h) hb4 (by rw [h]; exact hb5)).1
    omega
  have hD : a2.defers = [] := hr2.defers.1
  have hNs : a2.tmps.size = 29 := hr2.N
  have k2 : Kp (fun b => w.heap.size ≤ b) w w2 := hr2.kp.mono (fun b _ h => absurd h (live_none b))
  refine wp_seq ?_
  refine wp_region ?_
  have hmf : ∀ (fn : Fn) (first cap : Array Value) (w : World), (Instr.makeFunc fn first cap).run Try.prog w = .ok (.func fn first cap) w := fun _ _ _ _ => rfl
  simp [wpOps, go_sem, hmf, v4, v5, Act.eval, Region.wanted, Act.put, hNs, hD]
  refine .inl (.inl ?_)
  have hT0 : ∀ (i : Nat) (v : Value), (fun i => bif Nat.beq i 4 then some (.pointer (some ⟨b4, 0, none⟩)) else bif Nat.beq i 5 then some (.pointer (some ⟨b5, 0, none⟩)) else none : Nat → Option Value) i = some v → (a2.tmps.setIfInBounds 11 (.func (.func 76) #[] #[.pointer (some ⟨b4, 0, none⟩), .pointer (some ⟨b5, 0, none⟩)])).getD i undef = v := by
    intro i v hi
    dsimp only at hi
    by_cases i4 : i = 4
    · subst i4
      simp only [Nat.beq_refl, cond_true, Option.some.injEq] at hi
      subst hi
      simp only [Array.getD_eq_getD_getElem?] at v4 ⊢
      rw [Array.getElem?_setIfInBounds_ne (by decide)]
      exact v4
    · by_cases i5 : i = 5
      · subst i5
        simp only [show Nat.beq 5 4 = false from rfl, Nat.beq_refl, cond_true, cond_false, Option.some.injEq] at hi
        subst hi
        simp only [Array.getD_eq_getD_getElem?] at v5 ⊢
        rw [Array.getElem?_setIfInBounds_ne (by decide)]
        exact v5
      · rw [beqF i4, beqF i5] at hi
        cases hi
  have hE0 : ∀ (i : Nat) (v : A), (put 0 (some (.ro n l)) (put 1 (some (.fn 45 [] [])) (put 4 (some (.ptr 0 [] 0)) (put 5 (some (.ptr 1 [] 0)) noE)))) i = some v → (a2.tmps.setIfInBounds 11 (.func (.func 76) #[] #[.pointer (some ⟨b4, 0, none⟩), .pointer (some ⟨b5, 0, none⟩)])).getD i undef = a2.tmps.getD i undef := by
    intro i v hi
    by_cases h11 : i = 11
    · subst h11
      have : (none : Option A) = some v := hi
      cases this
    · simp only [Array.getD_eq_getD_getElem?, Array.getElem?_setIfInBounds_ne (Ne.symm h11)]
  have hr3 := hr2.fresh [{ target := Target.fn (Fn.func 76) #[.pointer (some ⟨b4, 0, none⟩), .pointer (some ⟨b5, 0, none⟩)], args := #[] }] (fun i => bif Nat.beq i 4 then some (.pointer (some ⟨b4, 0, none⟩)) else bif Nat.beq i 5 then some (.pointer (some ⟨b5, 0, none⟩)) else none : Nat → Option Value)
    ⟨a2.tmps.setIfInBounds 11 (.func (.func 76) #[] #[.pointer (some ⟨b4, 0, none⟩), .pointer (some ⟨b5, 0, none⟩)]), [{ target := Target.fn (Fn.func 76) #[.pointer (some ⟨b4, 0, none⟩), .pointer (some ⟨b5, 0, none⟩)], args := #[] }]⟩ ⟨rfl, hT0⟩ (by simp) hE0
  refine AW.use hr3 (Q := QR _ ⟨put 4 (some (.ptr 0 [] 0)) (put 5 (some (.ptr 1 [] 0)) noE), hput 0 (.one [.ro d.dc.globals.length (flC Rg.cl d.dc.globals), .ro d.dc.classes.length (flC Rg.cl d.dc.classes), .ro d.dc.queues.length (flC Qu.cl d.dc.queues), .ro d.dc.sinks.length (ints .i64 d.dc.sinks), i64 d.dc.locks, i64 d.dc.parts, i64 d.dc.firms, .ro d.heads.length (flC Hd.cl d.heads), .ro d.defs.length (flC Df.cl d.defs), .ro d.threads.length (ints .i64 d.threads)]) (hput 1 (.one [.val (.int .i64 0)]) noH), 2⟩) ?_ (QR.use fun f4 a4 w4 hr4 => ?_)
  · refine S1 ?_; (repeat (first | refine K4 ?_ | refine L2 ?_ | refine L3 ?_ | refine RG.d ?_ | refine S2 ?_))
    refine S1 ?_; (repeat (first | refine K4 ?_ | refine L1 ?_ | refine S2 ?_))
    refine RG.call rfl rfl rfl rfl (cr) [2] rfl rfl rfl rfl (.cons rfl (.one rfl) (Reg.lt_one rfl) ⟨[], _, rfl⟩ (.nil _)) (.cons (.one rfl) (.nil _)) (fun _ h => by first | exact h | exact False.elim h) rfl rfl rfl ?_
    (repeat (first | refine K4 ?_ | refine L1 ?_ | refine L3 ?_ | refine RG.d ?_ | refine S1 ?_ | refine S2 ?_ | refine S3 ?_ | refine S8 ?_))
    refine S6 ?_
    exact Sub.down (by repeat (first | exact SubE.no _ | refine SubE.put rfl ?_)) (by repeat (first | exact SubH.no _ | refine SubH.put rfl ?_)) (by repeat (first | exact LtE.no _ | refine LtE.put rfl ?_)) (by repeat (first | exact LtH.no _ | refine LtH.put rfl rfl ?_)) rfl
  · have k4 : Kp (fun b => w.heap.size ≤ b) w w4 := k2.trans' hr4.kp (fun i _ h => (hr2.new i h).elim id (fun h => absurd h (live_none i)))
    have key : Leaves Try.prog Try.f44 a4.tmps (FCPost f0 [] Y w (.tup [.agg [.ro d.dc.globals.length (flC Rg.cl d.dc.globals), .ro d.dc.classes.length (flC Rg.cl d.dc.classes), .ro d.dc.queues.length (flC Qu.cl d.dc.queues), .ro d.dc.sinks.length (ints .i64 d.dc.sinks), i64 d.dc.locks, i64 d.dc.parts, i64 d.dc.firms, .ro d.heads.length (flC Hd.cl d.heads), .ro d.defs.length (flC Df.cl d.defs), .ro d.threads.length (ints .i64 d.threads)], i64 0]) [] NoP) a4.defers .returning w4 := by
      rw [hr4.defers.1]
      refine leaves_cons (f := 76) (args := #[.pointer (some ⟨b4, 0, none⟩), .pointer (some ⟨b5, 0, none⟩)]) (by simp) (by simp [go_sem]) ?_
      refine (idle_prg _ _ w4).mono ?_
      rintro e u' w' ⟨⟨v, rfl⟩, rfl, rfl⟩
      obtain ⟨v, h1, h2⟩ := results_run tok hr4 (fn := Try.f44) (l := [.agg [.ro d.dc.globals.length (flC Rg.cl d.dc.globals), .ro d.dc.classes.length (flC Rg.cl d.dc.classes), .ro d.dc.queues.length (flC Qu.cl d.dc.queues), .ro d.dc.sinks.length (ints .i64 d.dc.sinks), i64 d.dc.locks, i64 d.dc.parts, i64 d.dc.firms, .ro d.heads.length (flC Hd.cl d.heads), .ro d.defs.length (flC Df.cl d.defs), .ro d.threads.length (ints .i64 d.threads)], i64 0]) rfl
      exact ⟨v, h1, FCPost.of hf0 k4 h2 rfl (fun b hb => .inr hb)⟩
    exact ⟨key, key⟩
set_option maxRecDepth 100000 in
set_option maxHeartbeats 16000000 in
/-- A wrong form. -/
theorem wholeP_bad (ws t : List Int) (hws : ws.length ≤ 100000) (hsz : 8 * ws.length + t.length ≤ 800000)
    (cr : FC Try.prog ge 45 [rdrA] [.one (stB ws t)] A.no [.one (stB [] t)] PW ∨ ∃ d : Pg, ∃ w : List Int, 0 < 8 * w.length + t.length ∧ FC Try.prog ge 45 [rdrA] [.one (stB ws t)] (.agg d.cl) [.one (stB w t)] NoP) :
    FC Try.prog ge 44 [.ro (8 * ws.length + t.length) (ints .u8 (bsL ws ++ t)), .fn 45 [] []] [] (.tup [.agg (zprg.map A.val), i64 3]) [] NoP := by
  obtain ⟨n, hn⟩ : ∃ n, n = 8 * ws.length + t.length := ⟨_, rfl⟩
  obtain ⟨l, hl⟩ : ∃ l, l = ints .u8 (bsL ws ++ t) := ⟨_, rfl⟩
  rw [← hn, ← hl]
  have e0 : stB ws t = [.ro n l] := by unfold stB; rw [hn, hl]
  rw [e0] at cr
  refine ⟨enter_of Try.func44 rfl rfl, Nat.le_refl _, ?_⟩
  intro f0 Y w vs hgi hlow hfr hY hHR hInj hargs
  have hf0 : ∀ k p, f0 k p = none := fun k p => hfr k (Nat.zero_le _) p
  have hrel := Rel.entry (N := 29) (args := [.ro n l, .fn 45 [] []]) rfl hgi hlow hfr hY hHR hInj hargs
  refine calls_of_wp_defers Try.func44 rfl ?_
  rw [Try.ntmps44]
  refine wp_seq (AW.use hrel (Q := QN _ ⟨put 0 (some (.ro n l)) (put 1 (some (.fn 45 [] [])) (put 4 (some (.ptr 0 [] 0)) (put 5 (some (.ptr 1 [] 0)) noE))), hput 0 (.one (zprg.map A.val)) (hput 1 (.one [.val (.int .i64 0)]) noH), 2⟩) ?_ (QN.use fun f1 a1 w1 hr1 => ?_))
  · (repeat (first | refine L2 ?_ | refine RG.d ?_ | refine S2 ?_))
    exact Sub.of (by repeat (first | exact SubE.no _ | refine SubE.put rfl ?_)) (by repeat (first | exact SubH.no _ | refine SubH.put rfl ?_)) rfl
  refine wp_seq (AW.use hr1 (Q := QN _ ⟨put 0 (some (.ro n l)) (put 1 (some (.fn 45 [] [])) (put 4 (some (.ptr 0 [] 0)) (put 5 (some (.ptr 1 [] 0)) noE))), hput 0 (.one (zprg.map A.val)) (hput 1 (.one [.val (.int .i64 0)]) noH), 2⟩) ?_ (QN.use fun f2 a2 w2 hr2 => ?_))
  · (repeat (first | refine K4 ?_ | refine RG.d ?_ | refine S1 ?_ | refine S2 ?_))
    refine AW.condD rfl (fun k => absurd (show (800000 : Int) < (n : Int) from k) (by omega)) (fun _ => ?_)
    refine S3 ?_
    exact Sub.of (by repeat (first | exact SubE.no _ | refine SubE.put rfl ?_)) (by repeat (first | exact SubH.no _ | refine SubH.put rfl ?_)) rfl
  have v4 := hr2.e 4 (.ptr 0 [] 0) rfl
  have v5 := hr2.e 5 (.ptr 1 [] 0) rfl
  simp only [V] at v4 v5
  obtain ⟨b4, hb4, v4⟩ := v4
  obtain ⟨b5, hb5, v5⟩ := v5
  have hl4 : Live (hput 0 (.one (zprg.map A.val)) (hput 1 (.one [.val (.int .i64 0)]) noH)) f2 b4 := ⟨0, [], fun h => Option.some_ne_none _ h, hb4⟩
  have hl5 : Live (hput 0 (.one (zprg.map A.val)) (hput 1 (.one [.val (.int .i64 0)]) noH)) f2 b5 := ⟨1, [], fun h => Option.some_ne_none _ h, hb5⟩
  have n4 : w.heap.size ≤ b4 := (hr2.new b4 hl4).elim id (fun h => absurd h (live_none b4))
  have n5 : w.heap.size ≤ b5 := (hr2.new b5 hl5).elim id (fun h => absurd h (live_none b5))
  have hne : b4 ≠ b5 := fun h => by
    have := (hr2.inj 0 [] 1 [] b4 (fun h => Option.some_ne_none _ h) (fun h => Option.some_ne_none _ h) hb4 (by rw [h]; exact hb5)).1
    omega
  have hD : a2.defers = [] := hr2.defers.1
  have hNs : a2.tmps.size = 29 := hr2.N
  have k2 : Kp (fun b => w.heap.size ≤ b) w w2 := hr2.kp.mono (fun b _ h => absurd h (live_none b))
  refine wp_seq ?_
  refine wp_region ?_
  have hmf : ∀ (fn : Fn) (first cap : Array Value) (w : World), (Instr.makeFunc fn first cap).run Try.prog w = .ok (.func fn first cap) w := fun _ _ _ _ => rfl
  simp [wpOps, go_sem, hmf, v4, v5, Act.eval, Region.wanted, Act.put, hNs, hD]
  refine .inl (.inl ?_)
  have hT0 : ∀ (i : Nat) (v : Value), (fun i => bif Nat.beq i 4 then some (.pointer (some ⟨b4, 0, none⟩)) else bif Nat.beq i 5 then some (.pointer (some ⟨b5, 0, none⟩)) else none : Nat → Option Value) i = some v → (a2.tmps.setIfInBounds 11 (.func (.func 76) #[] #[.pointer (some ⟨b4, 0, none⟩), .pointer (some ⟨b5, 0, none⟩)])).getD i undef = v := by
    intro i v hi
    dsimp only at hi
    by_cases i4 : i = 4
    · subst i4
      simp only [Nat.beq_refl, cond_true, Option.some.injEq] at hi
      subst hi
      simp only [Array.getD_eq_getD_getElem?] at v4 ⊢
      rw [Array.getElem?_setIfInBounds_ne (by decide)]
      exact v4
    · by_cases i5 : i = 5
      · subst i5
        simp only [show Nat.beq 5 4 = false from rfl, Nat.beq_refl, cond_true, cond_false, Option.some.injEq] at hi
        subst hi
        simp only [Array.getD_eq_getD_getElem?] at v5 ⊢
        rw [Array.getElem?_setIfInBounds_ne (by decide)]
        exact v5
      · rw [beqF i4, beqF i5] at hi
        cases hi
  have hE0 : ∀ (i : Nat) (v : A), (put 0 (some (.ro n l)) (put 1 (some (.fn 45 [] [])) (put 4 (some (.ptr 0 [] 0)) (put 5 (some (.ptr 1 [] 0)) noE)))) i = some v → (a2.tmps.setIfInBounds 11 (.func (.func 76) #[] #[.pointer (some ⟨b4, 0, none⟩), .pointer (some ⟨b5, 0, none⟩)])).getD i undef = a2.tmps.getD i undef := by
    intro i v hi
    by_cases h11 : i = 11
    · subst h11
      have : (none : Option A) = some v := hi
      cases this
    · simp only [Array.getD_eq_getD_getElem?, Array.getElem?_setIfInBounds_ne (Ne.symm h11)]
  have hr3 := hr2.fresh [{ target := Target.fn (Fn.func 76) #[.pointer (some ⟨b4, 0, none⟩), .pointer (some ⟨b5, 0, none⟩)], args := #[] }] (fun i => bif Nat.beq i 4 then some (.pointer (some ⟨b4, 0, none⟩)) else bif Nat.beq i 5 then some (.pointer (some ⟨b5, 0, none⟩)) else none : Nat → Option Value)
    ⟨a2.tmps.setIfInBounds 11 (.func (.func 76) #[] #[.pointer (some ⟨b4, 0, none⟩), .pointer (some ⟨b5, 0, none⟩)]), [{ target := Target.fn (Fn.func 76) #[.pointer (some ⟨b4, 0, none⟩), .pointer (some ⟨b5, 0, none⟩)], args := #[] }]⟩ ⟨rfl, hT0⟩ (by simp) hE0
  refine AW.use hr3 (Q := QP PW) ?_ (QP.use fun ch a4 w4 hp => ?_)
  · rcases cr with cr | ⟨d, wr, hpos, cr⟩
    · refine S1 ?_; (repeat (first | refine K4 ?_ | refine L2 ?_ | refine L3 ?_ | refine RG.d ?_ | refine S2 ?_))
      refine S1 ?_; (repeat (first | refine K4 ?_ | refine L1 ?_ | refine S2 ?_))
      refine RG.call rfl rfl rfl rfl (cr) [2] rfl rfl rfl rfl (.cons rfl (.one rfl) (Reg.lt_one rfl) ⟨[], _, rfl⟩ (.nil _)) (.cons (.one rfl) (.nil _)) (fun _ h => by first | exact h | exact False.elim h) rfl rfl rfl ?_
      repeat refine RG.dead 18 rfl rfl ?_
      refine RG.done rfl ?_
      exact AW.absurd 18 rfl
    · simp only [Pg.cl, Dc.cl, List.cons_append, List.nil_append] at cr
      refine S1 ?_; (repeat (first | refine K4 ?_ | refine L2 ?_ | refine L3 ?_ | refine RG.d ?_ | refine S2 ?_))
      refine S1 ?_; (repeat (first | refine K4 ?_ | refine L1 ?_ | refine S2 ?_))
      refine RG.call rfl rfl rfl rfl (cr) [2] rfl rfl rfl rfl (.cons rfl (.one rfl) (Reg.lt_one rfl) ⟨[], _, rfl⟩ (.nil _)) (.cons (.one rfl) (.nil _)) (fun _ h => by first | exact h | exact False.elim h) rfl rfl rfl ?_
      (repeat (first | refine L3 ?_ | refine RG.d ?_))
      refine S1 ?_
      (repeat (first | refine K4 ?_ | refine L1 ?_ | refine RG.d ?_ | refine S1 ?_ | refine S2 ?_))
      refine AW.condD rfl (fun _ => ?_) (fun k => absurd (show (0 : Int) < ((8 * wr.length + t.length : Nat) : Int) by omega) k)
      (repeat (first | refine K4 ?_ | refine S2 ?_))
      refine RG.panic rfl rfl rfl rfl ?_
      (repeat (first | refine L1 ?_ | refine L3 ?_ | refine RG.d ?_ | refine S1 ?_ | refine S2 ?_))
      exact AW.absurd 27 rfl
  · obtain ⟨rfl, kp, hdf, hT⟩ := hp
    have t4 : a4.tmps.getD 4 undef = .pointer (some ⟨b4, 0, none⟩) := hT 4 _ rfl
    have t5 : a4.tmps.getD 5 undef = .pointer (some ⟨b5, 0, none⟩) := hT 5 _ rfl
    have g4 : ∃ arr el, w4.heap[b4]? = some (.cells arr el (0, 0)) ∧ 10 ≤ arr.size := by
      rcases hr3.h 0 [] (zprg.map A.val) rfl with ⟨h1, _⟩ | ⟨b, arr, el, h1, h2, h3, _⟩
      · cases h1
      · rw [hb4] at h1
        cases h1
        obtain ⟨arr', h5, h6⟩ := kp.shape _ _ _ _ h2
        exact ⟨arr', el, h5, by rw [h6]; exact h3⟩
    have g5 : ∃ arr el, w4.heap[b5]? = some (.cells arr el (0, 0)) ∧ 1 ≤ arr.size := by
      rcases hr3.h 1 [] [.val (.int .i64 0)] rfl with ⟨h1, _⟩ | ⟨b, arr, el, h1, h2, h3, _⟩
      · cases h1
      · rw [hb5] at h1
        cases h1
        obtain ⟨arr', h5, h6⟩ := kp.shape _ _ _ _ h2
        exact ⟨arr', el, h5, by rw [h6]; exact h3⟩
    have k4 : Kp (fun b => w.heap.size ≤ b) w w4 := k2.trans' kp (fun i _ h => (hr2.new i h).elim id (fun h => absurd h (live_none i)))
    show Leaves Try.prog Try.f44 a4.tmps (FCPost f0 [] Y w (.tup [.agg (zprg.map A.val), i64 3]) [] NoP) a4.defers (.panicking [{ v := wrongV, recovered := false }]) w4
    rw [hdf]
    refine leaves_cons (f := 76) (args := #[.pointer (some ⟨b4, 0, none⟩), .pointer (some ⟨b5, 0, none⟩)]) (by simp) (by simp [go_sem]) ?_
    refine (catch_prg w4 b4 b5 hne g4 g5).mono ?_
    rintro e u' w5 ⟨⟨v, rfl⟩, rfl, kp5, ⟨arr4, el4, q4, s4, e4⟩, ⟨arr5, el5, q5, s5, e5⟩⟩
    have k5 : Kp (fun b => w.heap.size ≤ b) w w5 := k4.trans' kp5 (fun i _ h => by rcases h with rfl | rfl <;> assumption)
    have hr5 := Rel.two (I := GI.none) (Y := Y) (N := a4.tmps.size) (w := w5) hne (c4 := zprg.map A.val) (c5 := [.val (.int .i64 3)]) q4 (by simpa [zprg] using s4) (fun f X => by rw [show (zprg.map A.val).length = 10 from rfl, e4]; exact VL.vals _)
      q5 s5 (fun f X => by rw [show ([.val (.int .i64 3)] : List A).length = 1 from rfl, e5]; exact VL.vals [.int .i64 3]) (e := put 4 (some (.ptr 0 [] 0)) (put 5 (some (.ptr 1 [] 0)) noE)) (a := ⟨a4.tmps, []⟩) rfl (fun i v hi X => ?_) rfl trivial (fun _ _ => Nat.zero_le _)
      (fun b hb => ⟨Nat.lt_of_lt_of_le (hY b hb).1 k5.size, fun h => by have := (hY b hb).1; rcases h with rfl | rfl <;> omega⟩)
    rotate_left
    · by_cases h4 : i = 4
      · subst h4
        rw [put_same] at hi
        cases hi
        simp only [V]
        exact ⟨b4, rfl, t4⟩
      · rw [put_ne _ _ h4] at hi
        by_cases h5 : i = 5
        · subst h5
          rw [put_same] at hi
          cases hi
          simp only [V]
          exact ⟨b5, rfl, t5⟩
        · rw [put_ne _ _ h5] at hi
          cases hi
    obtain ⟨v, h1, h2⟩ := results_run tok hr5 (fn := Try.f44) (l := [.agg (zprg.map A.val), i64 3]) rfl
    exact ⟨v, h1, FCPost.of hf0 k5 h2 rfl (fun b hb => .inr hb)⟩

def pgAll (ws : List Int) : Option Pg := match rdPg 200000 ws with
  | some (p, []) => some p
  | _ => none
def pgA : Option Pg → A
  | some p => .tup [.agg p.cl, i64 0]
  | none => .tup [.agg (zprg.map A.val), i64 3]
theorem wholeP_fc (ws : List Int) (hi : ∀ x, x ∈ ws → I64' x) (hsz : 8 * ws.length ≤ 800000) :
    FC Try.prog ge 44 [.ro (8 * ws.length) (ints .u8 (bsL ws)), .fn 45 [] []] [] (pgA (pgAll ws)) [] NoP := by
  have cr := pg_rd [] (by decide) 200000 (by omega) ws (by omega) hi
  have hbad := wholeP_bad ws [] (by omega) (by simpa using hsz)
  rw [List.append_nil, List.length_nil, Nat.add_zero] at hbad
  unfold pgAll
  cases h : rdPg 200000 ws with
  | none =>
    rw [h] at cr
    exact hbad (.inl cr)
  | some p =>
    obtain ⟨d, w⟩ := p
    rw [h] at cr
    cases w with
    | nil => exact wholeP_ok ws d (by omega) cr
    | cons x w => exact hbad (.inr ⟨d, x :: w, by simp only [List.length_cons]; omega, cr⟩)
theorem readPg_fc (ws : List Int) (hi : ∀ x, x ∈ ws → I64' x) (hsz : 8 * ws.length ≤ 800000) :
    FC Try.prog ge 20 [.ro (8 * ws.length) (ints .u8 (bsL ws))] [] (pgA (pgAll ws)) [] NoP := by
  have c := wholeP_fc ws hi hsz
  cases h : pgAll ws with
  | none =>
    rw [h] at c
    simp only [pgA, zprg, List.map_cons, List.map_nil] at c ⊢
    refine FC.of_AW tok Try.func20 (by kernel_rfl) rfl Try.ntmps20 [] rfl rfl rfl ?_; intro w0 X0 Y f0 hI0 hX0
    (repeat (first | refine RG.call rfl rfl rfl rfl (c) [] rfl rfl rfl rfl (.nil _) (.nil _) (fun _ h => False.elim h) rfl (A.ren_free _ _ rfl) rfl ?_ | refine K4 ?_ | refine L2 ?_ | refine L3 ?_ | refine RG.d ?_ | refine S1 ?_ | refine S2 ?_))
    (repeat (first | refine S6 ?_))
    exact ⟨⟨_, rfl, rfl⟩, rfl, .nil _⟩
  | some d =>
    rw [h] at c
    simp only [pgA, Pg.cl, Dc.cl, List.cons_append, List.nil_append] at c ⊢
    refine FC.of_AW tok Try.func20 (by kernel_rfl) rfl Try.ntmps20 [] rfl rfl rfl ?_; intro w0 X0 Y f0 hI0 hX0
    (repeat (first | refine RG.call rfl rfl rfl rfl (c) [] rfl rfl rfl rfl (.nil _) (.nil _) (fun _ h => False.elim h) rfl (A.ren_free _ _ rfl) rfl ?_ | refine K4 ?_ | refine L2 ?_ | refine L3 ?_ | refine RG.d ?_ | refine S1 ?_ | refine S2 ?_))
    (repeat (first | refine S6 ?_))
    exact ⟨⟨_, rfl, rfl⟩, rfl, .nil _⟩
theorem pgAll_some {ws : List Int} {e : Pg} (h : pgAll ws = some e) : e.ok ∧ e.w = ws := by
  unfold pgAll at h
  split at h
  · rename_i d hd
    cases h
    have := pg_can 200000 _ _ _ hd
    exact ⟨this.2, by have := this.1; simpa using this.symm⟩
  · cases h
theorem pgAll_w (p : Pg) (ok : p.ok) (hl : p.w.length < 200000) : pgAll p.w = some p := by
  have := pg_inv 200000 p [] ok (by simpa using hl)
  rw [List.append_nil] at this
  unfold pgAll
  rw [this]
end Go.Proofs.Ytmfccaidgaelcaa
