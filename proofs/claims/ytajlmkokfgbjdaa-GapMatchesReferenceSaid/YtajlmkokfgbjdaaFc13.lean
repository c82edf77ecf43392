/- GapMatchesReference. No conditions. -/
import Derived.Test.YtajlmkokfgbjdaaFp4
set_option linter.unusedVariables false
set_option linter.unusedSimpArgs false
namespace Go.Proofs.Ytajlmkokfgbjdaa
open Go.Abs Go Go.RowKit
theorem V_of_rowX {X : Nat → Prop} {w : World} {base n : Nat} {e : TypeId} {v : Value} {xs : List Value} {l : List A} (h : w.ownsRow base e 1 v n xs) (hl : VL noPl X w l xs) (hX : ∀ b, v.ownBlock = some b → ¬ X b) : V noPl X w (.ro n l) v := by
  simp only [V]
  have hln := hl.length
  rcases Nat.eq_zero_or_pos n with h0 | hp
  · subst h0
    have hx : xs = [] := List.eq_nil_of_length_eq_zero (by simpa using h.1)
    subst hx
    have hl0 : l = [] := List.eq_nil_of_length_eq_zero (by simpa using hln.symm)
    subst hl0
    rcases h.2 with ⟨rfl, _⟩ | ⟨g, cap, cur, rfl, _, _, h1, h2, _⟩
    · exact ⟨none, 0, rfl, Nat.le_refl _, Nat.zero_le _, fun _ => ⟨rfl, rfl, rfl⟩, fun q hq => by cases hq⟩
    · exact ⟨_, cap, rfl, h1, h2, fun h => (Option.some_ne_none _ h).elim, fun q _ => .inl rfl⟩
  · obtain ⟨gb, cap, cur, rfl, h1, h2, h3, h4, h5, h6⟩ := ownsRow_at h hp
    refine ⟨_, cap, rfl, h3, h4, fun h => (Option.some_ne_none _ h).elim, fun q hq => ?_⟩
    cases hq
    refine .inr ⟨rfl, fun hY' => hX gb rfl hY', (Array.getElem?_eq_some_iff.1 h2).1, xs, hl, fun j u hj => ?_⟩
    have hjn : j < n := by have := (List.getElem?_eq_some_iff.1 hj).1; omega
    have := (h6 j hjn).1
    rw [Nat.zero_add, this]
    simp [List.getD, hj]
theorem VL_intsX {f : Pl} {X : Nat → Prop} {w : World} {k : IntKind} (xs : List Int) : VL f X w (ints k xs) (xs.map (Value.int k)) := VL_ints_mk xs
def pl2 (b : Nat) (o : Option Nat) : Pl := fun k p => if k = 0 ∧ p = [] then some (some b) else if k = 1 ∧ p = [] then some o else none
theorem copyO_fc (r0 : List Int) (gs : List (List Int)) (hg : Small (r0 :: gs)) : FC Try.prog 38 [rdM .i64 (r0 :: gs)] [] (.sl 0 [] 1 0 (gs.length + 1)) [.one (.sl 1 [] 1 0 r0.length :: rows .i64 gs), .one (ints .i64 r0)] NoP := by
  refine ⟨enter_of Try.func38 rfl rfl, by simp, ?_⟩
  intro f0 Y w vs hfr hY hHR hInj hargs
  have h0 : f0 = noPl := by funext k p; exact hfr k (Nat.zero_le _) p
  subst h0
  have hargs' : VL noPl (fun _ => False) w [rdM .i64 (r0 :: gs)] vs := hargs.mono (Ext.refl _) (fun b _ hb => hb.elim) (Kp.refl (fun _ => False) w) (fun _ _ h => h.elim)
  obtain ⟨a, rfl, e1⟩ := VL1 hargs'
  refine (copy_any a (r0 :: gs) w hg (mx_of_V e1)).mono ?_
  rintro e w' ⟨v', rfl, ⟨rs, h1, _, h3, h4⟩, hb⟩
  obtain ⟨gb, cap, cur, rfl, k1, k2, k3, k4, k5, k6⟩ := ownsRow_at h1 (by simp)
  have r0o := h3 0 (by simp) trivial
  have hcap : cap ≤ cur.size ∧ cur.toList.take (gs.length + 1) = rs := by
    rcases h1.2 with ⟨hv, _⟩ | ⟨g', cap', cur', hv, hb', hg', hn, hm, hc, ht⟩
    · cases hv
    · simp only [Value.slice.injEq, Option.some.injEq, Addr.mk.injEq] at hv
      obtain ⟨⟨rfl, _⟩, _, rfl⟩ := hv
      rw [k2] at hg'
      simp only [Option.some.injEq, Obj.cells.injEq] at hg'
      obtain ⟨rfl, _⟩ := hg'
      exact ⟨by omega, by simpa using ht⟩
  obtain ⟨hcap, htk⟩ := hcap
  obtain ⟨r, rs', rfl⟩ : ∃ r rs', rs = r :: rs' := by
    cases rs with
    | nil => simp at k5
    | cons r rs' => exact ⟨r, rs', rfl⟩
  have k3' : gs.length + 1 ≤ cap := by simpa using k3
  have r0o' : Own w.heap.size 3 .i64 w' r r0 := r0o
  have hob : (r = .slice none 0 0 ∧ r0 = [] ∧ r.ownBlock = none) ∨ ∃ rb cap1 cur1, r = .slice (some ⟨rb, 0, none⟩) r0.length cap1 ∧ r.ownBlock = some rb ∧ w.heap.size ≤ rb ∧ w'.heap[rb]? = some (.cells cur1 3 (0, 0)) ∧ r0.length ≤ cap1 ∧ cap1 ≤ maxLen ∧ cur1.size = cap1 ∧ cur1.toList.take r0.length = r0.map (Value.int .i64) := by
    rcases r0o'.2 with ⟨hv, h0⟩ | ⟨g', cap', cur', hv, hb', hg', hn, hm, hc, ht⟩
    · exact .inl ⟨hv, List.eq_nil_of_length_eq_zero h0, by rw [hv]; rfl⟩
    · exact .inr ⟨g', cap', cur', hv, by rw [hv]; rfl, hb', hg', hn, hm, by omega, by simpa using ht⟩
  generalize hoo : r.ownBlock = ob at hob
  have hl : ∀ k p b, pl2 gb ob k p = some (some b) → (k = 0 ∧ p = [] ∧ b = gb) ∨ (k = 1 ∧ p = [] ∧ ob = some b) := by
    intro k p b h
    unfold pl2 at h
    split at h
    · rename_i hk; simp only [Option.some.injEq] at h; exact .inl ⟨hk.1, hk.2, h.symm⟩
    · split at h
      · rename_i hk; simp only [Option.some.injEq] at h; exact .inr ⟨hk.1, hk.2, h⟩
      · cases h
  have hX : ∀ b, XOf (regs [.one (.sl 1 [] 1 0 r0.length :: rows .i64 gs), .one (ints .i64 r0)]) (pl2 gb ob) Y b → b = gb ∨ ob = some b ∨ b < w.heap.size := by
    rintro b (⟨k, p, _, h2⟩ | hy)
    · rcases hl k p b h2 with ⟨_, _, e⟩ | ⟨_, _, e⟩
      · exact .inl e
      · exact .inr (.inl e)
    · exact .inr (.inr (hY b hy).1)
  have hne : ∀ b, ob = some b → b ≠ gb := by
    rintro b hb' rfl
    rcases hob with ⟨_, _, h⟩ | ⟨rb, _, cur1, _, h, _, h5, _⟩
    · rw [h] at hb'; cases hb'
    · rw [h] at hb'; cases hb'
      rw [k2] at h5
      simp at h5
  have hV1 : V (pl2 gb ob) (XOf (regs [.one (.sl 1 [] 1 0 r0.length :: rows .i64 gs), .one (ints .i64 r0)]) (pl2 gb ob) Y) w' (.sl 1 [] 1 0 r0.length) r := by
    simp only [V]
    rcases hob with ⟨h, h5, h6⟩ | ⟨rb, cap1, cur1, h, h6, _, h5, h7, h8, h9, _⟩
    · subst h5 h6; exact .inl ⟨rfl, rfl, trivial, h⟩
    · subst h6; exact .inr ⟨rb, cap1, rfl, h, h7, h8, cur1, 3, (0, 0), h5, by omega⟩
  refine ⟨pl2 gb ob, noPl_ext _, fun k hk p => ?_, ?_, ?_, ?_, (Kp.of_below hb).mono (fun _ _ h => h.elim), ?_⟩
  · unfold pl2
    have : 2 ≤ k := hk
    rw [if_neg (by omega), if_neg (by omega)]
  · simp only [V]
    exact .inr ⟨gb, cap, rfl, rfl, k3', k4, cur, 22, (0, 0), k2, by omega⟩
  · intro k p c hc
    rcases k with _ | _ | k
    · cases p with
      | cons _ _ => simp [regs, Reg.get] at hc
      | nil =>
        simp only [regs, List.getElem?_cons_zero, Reg.get, Option.some.injEq] at hc
        subst hc
        refine .inr ⟨gb, cur, 22, rfl, k2, by simp [rows]; omega, ?_⟩
        rw [show ((A.sl 1 [] 1 0 r0.length) :: rows .i64 gs).length = gs.length + 1 from by simp [rows], htk]
        refine VL.cons hV1 (VL.of_get (by simp [rows]; simpa using k5) (fun i x u hx hu => ?_))
        have hi : i < gs.length := by have := (List.getElem?_eq_some_iff.1 hx).1; simpa [rows] using this
        have hx' : x = rdI .i64 (gs.getD i []) := by
          have : (rows .i64 gs)[i]? = some (rdI .i64 (gs.getD i [])) := by simp [rows, hi, List.getD]
          rw [this] at hx; exact (Option.some.inj hx).symm
        have hu' : (r :: rs').getD (i + 1) undef = u := by simp [List.getD, hu]
        have h7 := h3 (i + 1) (by simpa using hi) trivial
        have h8 : Own w.heap.size 3 .i64 w' u (gs.getD i []) := by rw [← hu']; simpa using h7
        rw [hx']
        refine (V_of_rowX (n := (gs.getD i []).length) h8 (VL_ints_mk _) (fun b hbk hXb => ?_)).mono (noPl_ext _) (fun b _ h => h) (Kp.refl (fun _ => False) w') (fun _ _ h => h.elim)
        rcases hX b hXb with e | e | e
        · subst e
          rcases h8.2 with ⟨hv, _⟩ | ⟨g', cap', cur', hv, _, hg', _⟩
          · rw [hv] at hbk; cases hbk
          · rw [hv] at hbk
            have : g' = b := by simpa [Value.ownBlock] using hbk
            subst this
            rw [k2] at hg'
            simp at hg'
        · exact h4 0 (i + 1) b (by simp) (by simpa using hi) (by omega) trivial trivial (by rw [show (r :: rs').getD 0 undef = r from rfl, hoo, e]) (by rw [hu', hbk])
        · rcases h8.2 with ⟨hv, _⟩ | ⟨g', cap', cur', hv, hge, _⟩
          · rw [hv] at hbk; cases hbk
          · rw [hv] at hbk
            have : g' = b := by simpa [Value.ownBlock] using hbk
            omega
    · cases p with
      | cons _ _ => simp [regs, Reg.get] at hc
      | nil =>
        simp only [regs, List.getElem?_cons_succ, List.getElem?_cons_zero, Reg.get, Option.some.injEq] at hc
        subst hc
        rcases hob with ⟨_, h5, h6⟩ | ⟨rb, cap1, cur1, h, h6, _, h5, h7, h8, h9, h10⟩
        · subst h5 h6; exact .inl ⟨rfl, rfl⟩
        · subst h6
          refine .inr ⟨rb, cur1, 3, rfl, h5, by rw [ints_length]; omega, ?_⟩
          rw [ints_length, h10]; exact VL_ints_mk _
    · simp [regs, Reg.get] at hc
  · intro k p k' p' b _ _ h5 h6
    rcases hl k p b h5 with ⟨rfl, rfl, e⟩ | ⟨rfl, rfl, e⟩ <;> rcases hl k' p' b h6 with ⟨rfl, rfl, e'⟩ | ⟨rfl, rfl, e'⟩
    · exact ⟨rfl, rfl⟩
    · exact absurd e (hne b e')
    · exact absurd e' (hne b e)
    · exact ⟨rfl, rfl⟩
  · rintro b ⟨k, p, _, h2⟩
    rcases hl k p b h2 with ⟨_, _, e⟩ | ⟨_, _, e⟩
    · subst e; exact .inl k1
    · rcases hob with ⟨_, _, h6⟩ | ⟨rb, cap1, cur1, h, h6, hge, _⟩
      · rw [h6] at e; cases e
      · rw [h6] at e; cases e; exact .inl hge
theorem Gp.assume_ok {g : List (List Int)} {n p : Nat} (a : Gp.Ok g n p) (op : Int) (ho : Bool) (x y : Gp.X) (w0 w1 : Bool) : Gp.Ok (Gp.assume_ g op ho x y w0 w1) n p := by
  unfold Gp.assume_
  split
  · split
    · split
      · exact Gp.less_ok a _ _ _
      · split
        · exact Gp.less_ok a _ _ _
        · split
          · exact Gp.less_ok a _ _ _
          · split
            · exact Gp.less_ok a _ _ _
            · split
              · exact Gp.less_ok (Gp.less_ok a _ _ _) _ _ _
              · exact a
    · exact a
  · exact a
set_option maxRecDepth 100000 in
set_option maxHeartbeats 32000000 in
theorem gapMatches_fc (V P V1 P1 : Nat) (N N1 : List Int) (z : Gp.Step) (b0 : z.f0 < 256) (b1 : z.f1 < 256) (hV : V < 256) (hP : P < 256) (l0 : N.length ≤ 9223372036854775807) (l1 : N1.length ≤ 9223372036854775807) :
    FC Try.prog 8 [rawA V P N, rawA V1 P1 N1, stepA z] [] (.val (.bool true)) [] NoP := by
  have m0 := made_fc V P N hV hP l0
  have m1 := made_fc V P N1 hV hP l1
  have o0 := Gp.made_ok V P N
  have o1 := Gp.made_ok V P N1
  have n0 := Gp.nn_pos V
  have n1 := Gp.nn_le V
  have p1 := Gp.pp_le V P
  have pn := Gp.pp_nn V P
  generalize Gp.made V P N = g at m0 o0
  generalize Gp.made V P N1 = h at m1 o1
  generalize Gp.nn V = n at o0 o1 n0 n1 pn
  generalize Gp.pp V P = p at o0 o1 p1 pn
  obtain ⟨r0, gs, rfl⟩ : ∃ r0 gs, g = r0 :: gs := by
    cases g with
    | nil => have := o0.len; simp at this; omega
    | cons r gs => exact ⟨r, gs, rfl⟩
  have hn : gs.length + 1 = n := o0.len
  have hp : r0.length = p := o0.row n0
  subst hn hp
  have sg := o0.small n0 (by omega) (by omega)
  have sh := o1.small n0 (by omega) (by omega)
  have sm := fun x (ox : Gp.Ok x (gs.length + 1) r0.length) => ox.small n0 (by omega) (by omega)
  have same := fun x (ox : Gp.Ok x (gs.length + 1) r0.length) => same_fc x x (sm x ox) (sm x ox)
  have same' : ∀ x, Gp.Ok x (gs.length + 1) r0.length → FC Try.prog 27 [rdM .i64 x, rdM .i64 x] [] (.val (.bool true)) [] NoP := fun x ox => by
    have := same x ox
    rwa [decide_eq_true rfl] at this
  have sa := side_fc z.f0 z.w z.c b0
  have sb := side_fc z.f1 z.u z.d b1
  generalize Gp.side z.f0 z.w z.c = a at sa
  generalize Gp.side z.f1 z.u z.d = b at sb
  have c1 := new_fc (gs.length + 1) r0.length (by omega) (by omega) (by omega)
  have d1 := rnew_fc (gs.length + 1) r0.length (by omega) (by omega) (by omega)
  have e1 := same' _ (Gp.new_ok (gs.length + 1) r0.length)
  have c2 := set_fc (r0 :: gs) a z.v z.w0 r0.length sg o0.rect o0.fine
  have d2 := rset_fc (r0 :: gs) a z.v z.w0 r0.length sg o0.rect o0.fine
  have e2 := same' _ (Gp.set_ok o0 z.v a z.w0)
  have c3 := assume_fc (r0 :: gs) a b z.op z.holds z.w0 z.w1 r0.length sg o0.rect o0.fine
  have d3 := rassume_fc (r0 :: gs) a b z.op z.holds z.w0 z.w1 r0.length sg o0.rect o0.fine
  have e3 := same' _ (Gp.assume_ok o0 z.op z.holds a b z.w0 z.w1)
  have c4 := join_fc (r0 :: gs) h r0.length sg o0.rect (by rw [o0.len, o1.len]) o1.rect
  have d4 := rjoin_fc (r0 :: gs) h r0.length sg o0.rect (by rw [o0.len, o1.len]) o1.rect
  have e4 := same' _ (o0.join o1)
  have c5 := widen_fc (r0 :: gs) h r0.length sg o0.rect (by rw [o0.len, o1.len]) o1.rect
  have d5 := rwiden_fc (r0 :: gs) h r0.length sg o0.rect (by rw [o0.len, o1.len]) o1.rect
  have e5 := same' _ (o0.widen (h := h))
  have c6 := leq_fc (r0 :: gs) h sg (o0.covers o1)
  have d6 := rleq_fc (r0 :: gs) h sg (o0.covers o1)
  generalize Gp.leq (r0 :: gs) h = q6 at c6 d6
  have c7 := bound_fc (r0 :: gs) z.v z.u sg
  have d7 := rbound_fc (r0 :: gs) z.v z.u sg
  have cc := copyO_fc r0 gs sg
  have c8 := valid_fc (r0 :: gs) z.w z.u sg
  have d8 := rvalid_fc (r0 :: gs) z.w z.u sg
  generalize Gp.valid (r0 :: gs) z.w z.u = q8 at c8 d8
  have d9 := rset_fc (r0 :: gs) a z.v true r0.length sg o0.rect o0.fine
  have c9 := valid_fc _ (gs.length + 1 : Nat) r0.length (sm _ (Gp.set_ok o0 z.v a true))
  rw [Gp.Ok.valid (Gp.set_ok o0 z.v a true)] at c9
  have d10 := rassume_fc (r0 :: gs) a b z.op z.holds true true r0.length sg o0.rect o0.fine
  have c10 := valid_fc _ (gs.length + 1 : Nat) r0.length (sm _ (Gp.assume_ok o0 z.op z.holds a b true true))
  rw [Gp.Ok.valid (Gp.assume_ok o0 z.op z.holds a b true true)] at c10
  -- the odd one
  have small_odd : ∀ r : List Int, r.length = r0.length → Small (r :: gs) := fun r hr => by
    obtain ⟨s1, s2, s3⟩ := sg
    refine ⟨by simp, by simpa using s2, fun i => ?_⟩
    cases i with
    | zero => show r.length ≤ _; have := s3 0; simp at this; omega
    | succ i => have := s3 (i + 1); simpa using this
  have eren : renL (sig [] 5) (.sl 1 [] 1 0 r0.length :: rows .i64 gs) = .sl 6 [] 1 0 r0.length :: rows .i64 gs := by
    show _ :: renL _ (rows .i64 gs) = _
    rw [renL_free _ (rows .i64 gs) (ltL_map (fun _ => rfl) gs)]; rfl
  have eren2 : renL (sig [] 5) (ints .i64 r0) = ints .i64 r0 := renL_free _ _ (ints_free _ _ _)
  clear same same' sm o0 o1 n0 n1 hV hP
  refine FC.of_AW tok Try.func8 (by kernel_rfl) rfl Try.ntmps8 [] rfl rfl rfl ?_; intro w0 X0 Y f0
  (repeat (first | refine RG.skip rfl rfl rfl ?_ | refine RG.val tok rfl rfl rfl trivial rfl (iv_i64 (by omega)) ?_ | refine RG.val tok rfl rfl rfl trivial rfl rfl ?_ | refine RG.val tok rfl rfl rfl (by omega) rfl rfl ?_ | refine RG.idx tok rfl rfl rfl rfl rfl rfl (Go.Abs.ints_at (by omega)) ⟨by omega, by omega⟩ rfl ?_ | refine RG.idx tok rfl rfl rfl rfl rfl rfl (Go.Abs.rows_at (by omega)) ⟨by omega, by omega⟩ rfl ?_ | refine RG.load tok rfl rfl rfl rfl rfl rfl ?_ | refine RG.new tok rfl rfl rfl trivial rfl rfl ?_ | refine RG.store tok rfl rfl rfl rfl rfl rfl rfl rfl ?_ | refine RG.done rfl ?_ | refine RG.doneD (by kernel_rfl) rfl (by kernel_rfl) ?_ | refine AW.seq ?_ | refine AW.region ?_ | refine AW.skip ?_ | refine AW.block ?_ | refine AW.exit ?_ | refine AW.condT rfl ?_ | refine AW.condF rfl ?_))
  refine RG.call rfl rfl rfl rfl (examples_fc) [] rfl rfl rfl rfl (.nil _) (.nil _) (fun _ h => False.elim h) rfl (A.ren_free _ _ rfl) rfl ?_
  (repeat (first | refine RG.skip rfl rfl rfl ?_ | refine RG.val tok rfl rfl rfl trivial rfl (iv_i64 (by omega)) ?_ | refine RG.val tok rfl rfl rfl trivial rfl rfl ?_ | refine RG.val tok rfl rfl rfl (by omega) rfl rfl ?_ | refine RG.idx tok rfl rfl rfl rfl rfl rfl (Go.Abs.ints_at (by omega)) ⟨by omega, by omega⟩ rfl ?_ | refine RG.idx tok rfl rfl rfl rfl rfl rfl (Go.Abs.rows_at (by omega)) ⟨by omega, by omega⟩ rfl ?_ | refine RG.load tok rfl rfl rfl rfl rfl rfl ?_ | refine RG.new tok rfl rfl rfl trivial rfl rfl ?_ | refine RG.store tok rfl rfl rfl rfl rfl rfl rfl rfl ?_ | refine RG.done rfl ?_ | refine RG.doneD (by kernel_rfl) rfl (by kernel_rfl) ?_ | refine AW.seq ?_ | refine AW.region ?_ | refine AW.skip ?_ | refine AW.block ?_ | refine AW.exit ?_ | refine AW.condT rfl ?_ | refine AW.condF rfl ?_))
  refine RG.call rfl rfl rfl rfl (m0) [] rfl rfl rfl rfl (.nil _) (.nil _) (fun _ h => False.elim h) rfl (A.ren_free _ _ rfl) rfl ?_
  (repeat (first | refine RG.skip rfl rfl rfl ?_ | refine RG.val tok rfl rfl rfl trivial rfl (iv_i64 (by omega)) ?_ | refine RG.val tok rfl rfl rfl trivial rfl rfl ?_ | refine RG.val tok rfl rfl rfl (by omega) rfl rfl ?_ | refine RG.idx tok rfl rfl rfl rfl rfl rfl (Go.Abs.ints_at (by omega)) ⟨by omega, by omega⟩ rfl ?_ | refine RG.idx tok rfl rfl rfl rfl rfl rfl (Go.Abs.rows_at (by omega)) ⟨by omega, by omega⟩ rfl ?_ | refine RG.load tok rfl rfl rfl rfl rfl rfl ?_ | refine RG.new tok rfl rfl rfl trivial rfl rfl ?_ | refine RG.store tok rfl rfl rfl rfl rfl rfl rfl rfl ?_ | refine RG.done rfl ?_ | refine RG.doneD (by kernel_rfl) rfl (by kernel_rfl) ?_ | refine AW.seq ?_ | refine AW.region ?_ | refine AW.skip ?_ | refine AW.block ?_ | refine AW.exit ?_ | refine AW.condT rfl ?_ | refine AW.condF rfl ?_))
  refine RG.call rfl rfl rfl rfl (m1) [] rfl rfl rfl rfl (.nil _) (.nil _) (fun _ h => False.elim h) rfl (A.ren_free _ _ rfl) rfl ?_
  (repeat (first | refine RG.skip rfl rfl rfl ?_ | refine RG.val tok rfl rfl rfl trivial rfl (iv_i64 (by omega)) ?_ | refine RG.val tok rfl rfl rfl trivial rfl rfl ?_ | refine RG.val tok rfl rfl rfl (by omega) rfl rfl ?_ | refine RG.idx tok rfl rfl rfl rfl rfl rfl (Go.Abs.ints_at (by omega)) ⟨by omega, by omega⟩ rfl ?_ | refine RG.idx tok rfl rfl rfl rfl rfl rfl (Go.Abs.rows_at (by omega)) ⟨by omega, by omega⟩ rfl ?_ | refine RG.load tok rfl rfl rfl rfl rfl rfl ?_ | refine RG.new tok rfl rfl rfl trivial rfl rfl ?_ | refine RG.store tok rfl rfl rfl rfl rfl rfl rfl rfl ?_ | refine RG.done rfl ?_ | refine RG.doneD (by kernel_rfl) rfl (by kernel_rfl) ?_ | refine AW.seq ?_ | refine AW.region ?_ | refine AW.skip ?_ | refine AW.block ?_ | refine AW.exit ?_ | refine AW.condT rfl ?_ | refine AW.condF rfl ?_))
  refine RG.idx tok rfl rfl rfl rfl rfl rfl (rows_at (i := 0) (by simp)) ⟨by omega, by simp⟩ rfl ?_
  (repeat (first | refine RG.skip rfl rfl rfl ?_ | refine RG.val tok rfl rfl rfl trivial rfl (iv_i64 (by omega)) ?_ | refine RG.val tok rfl rfl rfl trivial rfl rfl ?_ | refine RG.val tok rfl rfl rfl (by omega) rfl rfl ?_ | refine RG.idx tok rfl rfl rfl rfl rfl rfl (Go.Abs.ints_at (by omega)) ⟨by omega, by omega⟩ rfl ?_ | refine RG.idx tok rfl rfl rfl rfl rfl rfl (Go.Abs.rows_at (by omega)) ⟨by omega, by omega⟩ rfl ?_ | refine RG.load tok rfl rfl rfl rfl rfl rfl ?_ | refine RG.new tok rfl rfl rfl trivial rfl rfl ?_ | refine RG.store tok rfl rfl rfl rfl rfl rfl rfl rfl ?_ | refine RG.done rfl ?_ | refine RG.doneD (by kernel_rfl) rfl (by kernel_rfl) ?_ | refine AW.seq ?_ | refine AW.region ?_ | refine AW.skip ?_ | refine AW.block ?_ | refine AW.exit ?_ | refine AW.condT rfl ?_ | refine AW.condF rfl ?_))
  refine RG.call rfl rfl rfl rfl (sa) [] rfl rfl rfl rfl (.nil _) (.nil _) (fun _ h => False.elim h) rfl (A.ren_free _ _ rfl) rfl ?_
  (repeat (first | refine RG.skip rfl rfl rfl ?_ | refine RG.val tok rfl rfl rfl trivial rfl (iv_i64 (by omega)) ?_ | refine RG.val tok rfl rfl rfl trivial rfl rfl ?_ | refine RG.val tok rfl rfl rfl (by omega) rfl rfl ?_ | refine RG.idx tok rfl rfl rfl rfl rfl rfl (Go.Abs.ints_at (by omega)) ⟨by omega, by omega⟩ rfl ?_ | refine RG.idx tok rfl rfl rfl rfl rfl rfl (Go.Abs.rows_at (by omega)) ⟨by omega, by omega⟩ rfl ?_ | refine RG.load tok rfl rfl rfl rfl rfl rfl ?_ | refine RG.new tok rfl rfl rfl trivial rfl rfl ?_ | refine RG.store tok rfl rfl rfl rfl rfl rfl rfl rfl ?_ | refine RG.done rfl ?_ | refine RG.doneD (by kernel_rfl) rfl (by kernel_rfl) ?_ | refine AW.seq ?_ | refine AW.region ?_ | refine AW.skip ?_ | refine AW.block ?_ | refine AW.exit ?_ | refine AW.condT rfl ?_ | refine AW.condF rfl ?_))
  refine RG.call rfl rfl rfl rfl (sb) [] rfl rfl rfl rfl (.nil _) (.nil _) (fun _ h => False.elim h) rfl (A.ren_free _ _ rfl) rfl ?_
  (repeat (first | refine RG.skip rfl rfl rfl ?_ | refine RG.val tok rfl rfl rfl trivial rfl (iv_i64 (by omega)) ?_ | refine RG.val tok rfl rfl rfl trivial rfl rfl ?_ | refine RG.val tok rfl rfl rfl (by omega) rfl rfl ?_ | refine RG.idx tok rfl rfl rfl rfl rfl rfl (Go.Abs.ints_at (by omega)) ⟨by omega, by omega⟩ rfl ?_ | refine RG.idx tok rfl rfl rfl rfl rfl rfl (Go.Abs.rows_at (by omega)) ⟨by omega, by omega⟩ rfl ?_ | refine RG.load tok rfl rfl rfl rfl rfl rfl ?_ | refine RG.new tok rfl rfl rfl trivial rfl rfl ?_ | refine RG.store tok rfl rfl rfl rfl rfl rfl rfl rfl ?_ | refine RG.done rfl ?_ | refine RG.doneD (by kernel_rfl) rfl (by kernel_rfl) ?_ | refine AW.seq ?_ | refine AW.region ?_ | refine AW.skip ?_ | refine AW.block ?_ | refine AW.exit ?_ | refine AW.condT rfl ?_ | refine AW.condF rfl ?_))
  refine RG.call rfl rfl rfl rfl (c1) [] rfl rfl rfl rfl (.nil _) (.nil _) (fun _ h => False.elim h) rfl (A.ren_free _ _ rfl) rfl ?_
  (repeat (first | refine RG.skip rfl rfl rfl ?_ | refine RG.val tok rfl rfl rfl trivial rfl (iv_i64 (by omega)) ?_ | refine RG.val tok rfl rfl rfl trivial rfl rfl ?_ | refine RG.val tok rfl rfl rfl (by omega) rfl rfl ?_ | refine RG.idx tok rfl rfl rfl rfl rfl rfl (Go.Abs.ints_at (by omega)) ⟨by omega, by omega⟩ rfl ?_ | refine RG.idx tok rfl rfl rfl rfl rfl rfl (Go.Abs.rows_at (by omega)) ⟨by omega, by omega⟩ rfl ?_ | refine RG.load tok rfl rfl rfl rfl rfl rfl ?_ | refine RG.new tok rfl rfl rfl trivial rfl rfl ?_ | refine RG.store tok rfl rfl rfl rfl rfl rfl rfl rfl ?_ | refine RG.done rfl ?_ | refine RG.doneD (by kernel_rfl) rfl (by kernel_rfl) ?_ | refine AW.seq ?_ | refine AW.region ?_ | refine AW.skip ?_ | refine AW.block ?_ | refine AW.exit ?_ | refine AW.condT rfl ?_ | refine AW.condF rfl ?_))
  refine RG.call rfl rfl rfl rfl (d1) [] rfl rfl rfl rfl (.nil _) (.nil _) (fun _ h => False.elim h) rfl (A.ren_free _ _ rfl) rfl ?_
  (repeat (first | refine RG.skip rfl rfl rfl ?_ | refine RG.val tok rfl rfl rfl trivial rfl (iv_i64 (by omega)) ?_ | refine RG.val tok rfl rfl rfl trivial rfl rfl ?_ | refine RG.val tok rfl rfl rfl (by omega) rfl rfl ?_ | refine RG.idx tok rfl rfl rfl rfl rfl rfl (Go.Abs.ints_at (by omega)) ⟨by omega, by omega⟩ rfl ?_ | refine RG.idx tok rfl rfl rfl rfl rfl rfl (Go.Abs.rows_at (by omega)) ⟨by omega, by omega⟩ rfl ?_ | refine RG.load tok rfl rfl rfl rfl rfl rfl ?_ | refine RG.new tok rfl rfl rfl trivial rfl rfl ?_ | refine RG.store tok rfl rfl rfl rfl rfl rfl rfl rfl ?_ | refine RG.done rfl ?_ | refine RG.doneD (by kernel_rfl) rfl (by kernel_rfl) ?_ | refine AW.seq ?_ | refine AW.region ?_ | refine AW.skip ?_ | refine AW.block ?_ | refine AW.exit ?_ | refine AW.condT rfl ?_ | refine AW.condF rfl ?_))
  refine RG.call rfl rfl rfl rfl (e1) [] rfl rfl rfl rfl (.nil _) (.nil _) (fun _ h => False.elim h) rfl (A.ren_free _ _ rfl) rfl ?_
  (repeat (first | refine RG.skip rfl rfl rfl ?_ | refine RG.val tok rfl rfl rfl trivial rfl (iv_i64 (by omega)) ?_ | refine RG.val tok rfl rfl rfl trivial rfl rfl ?_ | refine RG.val tok rfl rfl rfl (by omega) rfl rfl ?_ | refine RG.idx tok rfl rfl rfl rfl rfl rfl (Go.Abs.ints_at (by omega)) ⟨by omega, by omega⟩ rfl ?_ | refine RG.idx tok rfl rfl rfl rfl rfl rfl (Go.Abs.rows_at (by omega)) ⟨by omega, by omega⟩ rfl ?_ | refine RG.load tok rfl rfl rfl rfl rfl rfl ?_ | refine RG.new tok rfl rfl rfl trivial rfl rfl ?_ | refine RG.store tok rfl rfl rfl rfl rfl rfl rfl rfl ?_ | refine RG.done rfl ?_ | refine RG.doneD (by kernel_rfl) rfl (by kernel_rfl) ?_ | refine AW.seq ?_ | refine AW.region ?_ | refine AW.skip ?_ | refine AW.block ?_ | refine AW.exit ?_ | refine AW.condT rfl ?_ | refine AW.condF rfl ?_))
  refine RG.call rfl rfl rfl rfl (c2) [] rfl rfl rfl rfl (.nil _) (.nil _) (fun _ h => False.elim h) rfl (A.ren_free _ _ rfl) rfl ?_
  (repeat (first | refine RG.skip rfl rfl rfl ?_ | refine RG.val tok rfl rfl rfl trivial rfl (iv_i64 (by omega)) ?_ | refine RG.val tok rfl rfl rfl trivial rfl rfl ?_ | refine RG.val tok rfl rfl rfl (by omega) rfl rfl ?_ | refine RG.idx tok rfl rfl rfl rfl rfl rfl (Go.Abs.ints_at (by omega)) ⟨by omega, by omega⟩ rfl ?_ | refine RG.idx tok rfl rfl rfl rfl rfl rfl (Go.Abs.rows_at (by omega)) ⟨by omega, by omega⟩ rfl ?_ | refine RG.load tok rfl rfl rfl rfl rfl rfl ?_ | refine RG.new tok rfl rfl rfl trivial rfl rfl ?_ | refine RG.store tok rfl rfl rfl rfl rfl rfl rfl rfl ?_ | refine RG.done rfl ?_ | refine RG.doneD (by kernel_rfl) rfl (by kernel_rfl) ?_ | refine AW.seq ?_ | refine AW.region ?_ | refine AW.skip ?_ | refine AW.block ?_ | refine AW.exit ?_ | refine AW.condT rfl ?_ | refine AW.condF rfl ?_))
  refine RG.call rfl rfl rfl rfl (d2) [] rfl rfl rfl rfl (.nil _) (.nil _) (fun _ h => False.elim h) rfl (A.ren_free _ _ rfl) rfl ?_
  (repeat (first | refine RG.skip rfl rfl rfl ?_ | refine RG.val tok rfl rfl rfl trivial rfl (iv_i64 (by omega)) ?_ | refine RG.val tok rfl rfl rfl trivial rfl rfl ?_ | refine RG.val tok rfl rfl rfl (by omega) rfl rfl ?_ | refine RG.idx tok rfl rfl rfl rfl rfl rfl (Go.Abs.ints_at (by omega)) ⟨by omega, by omega⟩ rfl ?_ | refine RG.idx tok rfl rfl rfl rfl rfl rfl (Go.Abs.rows_at (by omega)) ⟨by omega, by omega⟩ rfl ?_ | refine RG.load tok rfl rfl rfl rfl rfl rfl ?_ | refine RG.new tok rfl rfl rfl trivial rfl rfl ?_ | refine RG.store tok rfl rfl rfl rfl rfl rfl rfl rfl ?_ | refine RG.done rfl ?_ | refine RG.doneD (by kernel_rfl) rfl (by kernel_rfl) ?_ | refine AW.seq ?_ | refine AW.region ?_ | refine AW.skip ?_ | refine AW.block ?_ | refine AW.exit ?_ | refine AW.condT rfl ?_ | refine AW.condF rfl ?_))
  refine RG.call rfl rfl rfl rfl (e2) [] rfl rfl rfl rfl (.nil _) (.nil _) (fun _ h => False.elim h) rfl (A.ren_free _ _ rfl) rfl ?_
  (repeat (first | refine RG.skip rfl rfl rfl ?_ | refine RG.val tok rfl rfl rfl trivial rfl (iv_i64 (by omega)) ?_ | refine RG.val tok rfl rfl rfl trivial rfl rfl ?_ | refine RG.val tok rfl rfl rfl (by omega) rfl rfl ?_ | refine RG.idx tok rfl rfl rfl rfl rfl rfl (Go.Abs.ints_at (by omega)) ⟨by omega, by omega⟩ rfl ?_ | refine RG.idx tok rfl rfl rfl rfl rfl rfl (Go.Abs.rows_at (by omega)) ⟨by omega, by omega⟩ rfl ?_ | refine RG.load tok rfl rfl rfl rfl rfl rfl ?_ | refine RG.new tok rfl rfl rfl trivial rfl rfl ?_ | refine RG.store tok rfl rfl rfl rfl rfl rfl rfl rfl ?_ | refine RG.done rfl ?_ | refine RG.doneD (by kernel_rfl) rfl (by kernel_rfl) ?_ | refine AW.seq ?_ | refine AW.region ?_ | refine AW.skip ?_ | refine AW.block ?_ | refine AW.exit ?_ | refine AW.condT rfl ?_ | refine AW.condF rfl ?_))
  refine RG.call rfl rfl rfl rfl (c3) [] rfl rfl rfl rfl (.nil _) (.nil _) (fun _ h => False.elim h) rfl (A.ren_free _ _ rfl) rfl ?_
  (repeat (first | refine RG.skip rfl rfl rfl ?_ | refine RG.val tok rfl rfl rfl trivial rfl (iv_i64 (by omega)) ?_ | refine RG.val tok rfl rfl rfl trivial rfl rfl ?_ | refine RG.val tok rfl rfl rfl (by omega) rfl rfl ?_ | refine RG.idx tok rfl rfl rfl rfl rfl rfl (Go.Abs.ints_at (by omega)) ⟨by omega, by omega⟩ rfl ?_ | refine RG.idx tok rfl rfl rfl rfl rfl rfl (Go.Abs.rows_at (by omega)) ⟨by omega, by omega⟩ rfl ?_ | refine RG.load tok rfl rfl rfl rfl rfl rfl ?_ | refine RG.new tok rfl rfl rfl trivial rfl rfl ?_ | refine RG.store tok rfl rfl rfl rfl rfl rfl rfl rfl ?_ | refine RG.done rfl ?_ | refine RG.doneD (by kernel_rfl) rfl (by kernel_rfl) ?_ | refine AW.seq ?_ | refine AW.region ?_ | refine AW.skip ?_ | refine AW.block ?_ | refine AW.exit ?_ | refine AW.condT rfl ?_ | refine AW.condF rfl ?_))
  refine RG.call rfl rfl rfl rfl (d3) [] rfl rfl rfl rfl (.nil _) (.nil _) (fun _ h => False.elim h) rfl (A.ren_free _ _ rfl) rfl ?_
  (repeat (first | refine RG.skip rfl rfl rfl ?_ | refine RG.val tok rfl rfl rfl trivial rfl (iv_i64 (by omega)) ?_ | refine RG.val tok rfl rfl rfl trivial rfl rfl ?_ | refine RG.val tok rfl rfl rfl (by omega) rfl rfl ?_ | refine RG.idx tok rfl rfl rfl rfl rfl rfl (Go.Abs.ints_at (by omega)) ⟨by omega, by omega⟩ rfl ?_ | refine RG.idx tok rfl rfl rfl rfl rfl rfl (Go.Abs.rows_at (by omega)) ⟨by omega, by omega⟩ rfl ?_ | refine RG.load tok rfl rfl rfl rfl rfl rfl ?_ | refine RG.new tok rfl rfl rfl trivial rfl rfl ?_ | refine RG.store tok rfl rfl rfl rfl rfl rfl rfl rfl ?_ | refine RG.done rfl ?_ | refine RG.doneD (by kernel_rfl) rfl (by kernel_rfl) ?_ | refine AW.seq ?_ | refine AW.region ?_ | refine AW.skip ?_ | refine AW.block ?_ | refine AW.exit ?_ | refine AW.condT rfl ?_ | refine AW.condF rfl ?_))
  refine RG.call rfl rfl rfl rfl (e3) [] rfl rfl rfl rfl (.nil _) (.nil _) (fun _ h => False.elim h) rfl (A.ren_free _ _ rfl) rfl ?_
  (repeat (first | refine RG.skip rfl rfl rfl ?_ | refine RG.val tok rfl rfl rfl trivial rfl (iv_i64 (by omega)) ?_ | refine RG.val tok rfl rfl rfl trivial rfl rfl ?_ | refine RG.val tok rfl rfl rfl (by omega) rfl rfl ?_ | refine RG.idx tok rfl rfl rfl rfl rfl rfl (Go.Abs.ints_at (by omega)) ⟨by omega, by omega⟩ rfl ?_ | refine RG.idx tok rfl rfl rfl rfl rfl rfl (Go.Abs.rows_at (by omega)) ⟨by omega, by omega⟩ rfl ?_ | refine RG.load tok rfl rfl rfl rfl rfl rfl ?_ | refine RG.new tok rfl rfl rfl trivial rfl rfl ?_ | refine RG.store tok rfl rfl rfl rfl rfl rfl rfl rfl ?_ | refine RG.done rfl ?_ | refine RG.doneD (by kernel_rfl) rfl (by kernel_rfl) ?_ | refine AW.seq ?_ | refine AW.region ?_ | refine AW.skip ?_ | refine AW.block ?_ | refine AW.exit ?_ | refine AW.condT rfl ?_ | refine AW.condF rfl ?_))
  refine RG.call rfl rfl rfl rfl (c4) [] rfl rfl rfl rfl (.nil _) (.nil _) (fun _ h => False.elim h) rfl (A.ren_free _ _ rfl) rfl ?_
  (repeat (first | refine RG.skip rfl rfl rfl ?_ | refine RG.val tok rfl rfl rfl trivial rfl (iv_i64 (by omega)) ?_ | refine RG.val tok rfl rfl rfl trivial rfl rfl ?_ | refine RG.val tok rfl rfl rfl (by omega) rfl rfl ?_ | refine RG.idx tok rfl rfl rfl rfl rfl rfl (Go.Abs.ints_at (by omega)) ⟨by omega, by omega⟩ rfl ?_ | refine RG.idx tok rfl rfl rfl rfl rfl rfl (Go.Abs.rows_at (by omega)) ⟨by omega, by omega⟩ rfl ?_ | refine RG.load tok rfl rfl rfl rfl rfl rfl ?_ | refine RG.new tok rfl rfl rfl trivial rfl rfl ?_ | refine RG.store tok rfl rfl rfl rfl rfl rfl rfl rfl ?_ | refine RG.done rfl ?_ | refine RG.doneD (by kernel_rfl) rfl (by kernel_rfl) ?_ | refine AW.seq ?_ | refine AW.region ?_ | refine AW.skip ?_ | refine AW.block ?_ | refine AW.exit ?_ | refine AW.condT rfl ?_ | refine AW.condF rfl ?_))
  refine RG.call rfl rfl rfl rfl (d4) [] rfl rfl rfl rfl (.nil _) (.nil _) (fun _ h => False.elim h) rfl (A.ren_free _ _ rfl) rfl ?_
  (repeat (first | refine RG.skip rfl rfl rfl ?_ | refine RG.val tok rfl rfl rfl trivial rfl (iv_i64 (by omega)) ?_ | refine RG.val tok rfl rfl rfl trivial rfl rfl ?_ | refine RG.val tok rfl rfl rfl (by omega) rfl rfl ?_ | refine RG.idx tok rfl rfl rfl rfl rfl rfl (Go.Abs.ints_at (by omega)) ⟨by omega, by omega⟩ rfl ?_ | refine RG.idx tok rfl rfl rfl rfl rfl rfl (Go.Abs.rows_at (by omega)) ⟨by omega, by omega⟩ rfl ?_ | refine RG.load tok rfl rfl rfl rfl rfl rfl ?_ | refine RG.new tok rfl rfl rfl trivial rfl rfl ?_ | refine RG.store tok rfl rfl rfl rfl rfl rfl rfl rfl ?_ | refine RG.done rfl ?_ | refine RG.doneD (by kernel_rfl) rfl (by kernel_rfl) ?_ | refine AW.seq ?_ | refine AW.region ?_ | refine AW.skip ?_ | refine AW.block ?_ | refine AW.exit ?_ | refine AW.condT rfl ?_ | refine AW.condF rfl ?_))
  refine RG.call rfl rfl rfl rfl (e4) [] rfl rfl rfl rfl (.nil _) (.nil _) (fun _ h => False.elim h) rfl (A.ren_free _ _ rfl) rfl ?_
  (repeat (first | refine RG.skip rfl rfl rfl ?_ | refine RG.val tok rfl rfl rfl trivial rfl (iv_i64 (by omega)) ?_ | refine RG.val tok rfl rfl rfl trivial rfl rfl ?_ | refine RG.val tok rfl rfl rfl (by omega) rfl rfl ?_ | refine RG.idx tok rfl rfl rfl rfl rfl rfl (Go.Abs.ints_at (by omega)) ⟨by omega, by omega⟩ rfl ?_ | refine RG.idx tok rfl rfl rfl rfl rfl rfl (Go.Abs.rows_at (by omega)) ⟨by omega, by omega⟩ rfl ?_ | refine RG.load tok rfl rfl rfl rfl rfl rfl ?_ | refine RG.new tok rfl rfl rfl trivial rfl rfl ?_ | refine RG.store tok rfl rfl rfl rfl rfl rfl rfl rfl ?_ | refine RG.done rfl ?_ | refine RG.doneD (by kernel_rfl) rfl (by kernel_rfl) ?_ | refine AW.seq ?_ | refine AW.region ?_ | refine AW.skip ?_ | refine AW.block ?_ | refine AW.exit ?_ | refine AW.condT rfl ?_ | refine AW.condF rfl ?_))
  refine RG.call rfl rfl rfl rfl (c5) [] rfl rfl rfl rfl (.nil _) (.nil _) (fun _ h => False.elim h) rfl (A.ren_free _ _ rfl) rfl ?_
  (repeat (first | refine RG.skip rfl rfl rfl ?_ | refine RG.val tok rfl rfl rfl trivial rfl (iv_i64 (by omega)) ?_ | refine RG.val tok rfl rfl rfl trivial rfl rfl ?_ | refine RG.val tok rfl rfl rfl (by omega) rfl rfl ?_ | refine RG.idx tok rfl rfl rfl rfl rfl rfl (Go.Abs.ints_at (by omega)) ⟨by omega, by omega⟩ rfl ?_ | refine RG.idx tok rfl rfl rfl rfl rfl rfl (Go.Abs.rows_at (by omega)) ⟨by omega, by omega⟩ rfl ?_ | refine RG.load tok rfl rfl rfl rfl rfl rfl ?_ | refine RG.new tok rfl rfl rfl trivial rfl rfl ?_ | refine RG.store tok rfl rfl rfl rfl rfl rfl rfl rfl ?_ | refine RG.done rfl ?_ | refine RG.doneD (by kernel_rfl) rfl (by kernel_rfl) ?_ | refine AW.seq ?_ | refine AW.region ?_ | refine AW.skip ?_ | refine AW.block ?_ | refine AW.exit ?_ | refine AW.condT rfl ?_ | refine AW.condF rfl ?_))
  refine RG.call rfl rfl rfl rfl (d5) [] rfl rfl rfl rfl (.nil _) (.nil _) (fun _ h => False.elim h) rfl (A.ren_free _ _ rfl) rfl ?_
  (repeat (first | refine RG.skip rfl rfl rfl ?_ | refine RG.val tok rfl rfl rfl trivial rfl (iv_i64 (by omega)) ?_ | refine RG.val tok rfl rfl rfl trivial rfl rfl ?_ | refine RG.val tok rfl rfl rfl (by omega) rfl rfl ?_ | refine RG.idx tok rfl rfl rfl rfl rfl rfl (Go.Abs.ints_at (by omega)) ⟨by omega, by omega⟩ rfl ?_ | refine RG.idx tok rfl rfl rfl rfl rfl rfl (Go.Abs.rows_at (by omega)) ⟨by omega, by omega⟩ rfl ?_ | refine RG.load tok rfl rfl rfl rfl rfl rfl ?_ | refine RG.new tok rfl rfl rfl trivial rfl rfl ?_ | refine RG.store tok rfl rfl rfl rfl rfl rfl rfl rfl ?_ | refine RG.done rfl ?_ | refine RG.doneD (by kernel_rfl) rfl (by kernel_rfl) ?_ | refine AW.seq ?_ | refine AW.region ?_ | refine AW.skip ?_ | refine AW.block ?_ | refine AW.exit ?_ | refine AW.condT rfl ?_ | refine AW.condF rfl ?_))
  refine RG.call rfl rfl rfl rfl (e5) [] rfl rfl rfl rfl (.nil _) (.nil _) (fun _ h => False.elim h) rfl (A.ren_free _ _ rfl) rfl ?_
  (repeat (first | refine RG.skip rfl rfl rfl ?_ | refine RG.val tok rfl rfl rfl trivial rfl (iv_i64 (by omega)) ?_ | refine RG.val tok rfl rfl rfl trivial rfl rfl ?_ | refine RG.val tok rfl rfl rfl (by omega) rfl rfl ?_ | refine RG.idx tok rfl rfl rfl rfl rfl rfl (Go.Abs.ints_at (by omega)) ⟨by omega, by omega⟩ rfl ?_ | refine RG.idx tok rfl rfl rfl rfl rfl rfl (Go.Abs.rows_at (by omega)) ⟨by omega, by omega⟩ rfl ?_ | refine RG.load tok rfl rfl rfl rfl rfl rfl ?_ | refine RG.new tok rfl rfl rfl trivial rfl rfl ?_ | refine RG.store tok rfl rfl rfl rfl rfl rfl rfl rfl ?_ | refine RG.done rfl ?_ | refine RG.doneD (by kernel_rfl) rfl (by kernel_rfl) ?_ | refine AW.seq ?_ | refine AW.region ?_ | refine AW.skip ?_ | refine AW.block ?_ | refine AW.exit ?_ | refine AW.condT rfl ?_ | refine AW.condF rfl ?_))
  refine RG.call rfl rfl rfl rfl (c6) [] rfl rfl rfl rfl (.nil _) (.nil _) (fun _ h => False.elim h) rfl (A.ren_free _ _ rfl) rfl ?_
  (repeat (first | refine RG.skip rfl rfl rfl ?_ | refine RG.val tok rfl rfl rfl trivial rfl (iv_i64 (by omega)) ?_ | refine RG.val tok rfl rfl rfl trivial rfl rfl ?_ | refine RG.val tok rfl rfl rfl (by omega) rfl rfl ?_ | refine RG.idx tok rfl rfl rfl rfl rfl rfl (Go.Abs.ints_at (by omega)) ⟨by omega, by omega⟩ rfl ?_ | refine RG.idx tok rfl rfl rfl rfl rfl rfl (Go.Abs.rows_at (by omega)) ⟨by omega, by omega⟩ rfl ?_ | refine RG.load tok rfl rfl rfl rfl rfl rfl ?_ | refine RG.new tok rfl rfl rfl trivial rfl rfl ?_ | refine RG.store tok rfl rfl rfl rfl rfl rfl rfl rfl ?_ | refine RG.done rfl ?_ | refine RG.doneD (by kernel_rfl) rfl (by kernel_rfl) ?_ | refine AW.seq ?_ | refine AW.region ?_ | refine AW.skip ?_ | refine AW.block ?_ | refine AW.exit ?_ | refine AW.condT rfl ?_ | refine AW.condF rfl ?_))
  refine RG.call rfl rfl rfl rfl (d6) [] rfl rfl rfl rfl (.nil _) (.nil _) (fun _ h => False.elim h) rfl (A.ren_free _ _ rfl) rfl ?_
  have e6 : (q6 == q6) = true := by simp
  (repeat (first | refine RG.skip rfl rfl rfl ?_ | refine RG.val tok rfl rfl rfl trivial rfl (iv_i64 (by omega)) ?_ | refine RG.val tok rfl rfl rfl trivial rfl rfl ?_ | refine RG.val tok rfl rfl rfl (by omega) rfl rfl ?_ | refine RG.idx tok rfl rfl rfl rfl rfl rfl (Go.Abs.ints_at (by omega)) ⟨by omega, by omega⟩ rfl ?_ | refine RG.idx tok rfl rfl rfl rfl rfl rfl (Go.Abs.rows_at (by omega)) ⟨by omega, by omega⟩ rfl ?_ | refine RG.load tok rfl rfl rfl rfl rfl rfl ?_ | refine RG.new tok rfl rfl rfl trivial rfl rfl ?_ | refine RG.store tok rfl rfl rfl rfl rfl rfl rfl rfl ?_ | refine RG.done rfl ?_ | refine RG.doneD (by kernel_rfl) rfl (by kernel_rfl) ?_ | refine AW.seq ?_ | refine AW.region ?_ | refine AW.skip ?_ | refine AW.block ?_ | refine AW.exit ?_ | refine AW.condT rfl ?_ | refine AW.condF rfl ?_))
  refine RG.splitB 131 rfl (fun e => absurd (show (!(q6 == q6)) = true from e) (by simp)) (fun _ => ?_)
  (repeat (first | refine RG.skip rfl rfl rfl ?_ | refine RG.val tok rfl rfl rfl trivial rfl (iv_i64 (by omega)) ?_ | refine RG.val tok rfl rfl rfl trivial rfl rfl ?_ | refine RG.val tok rfl rfl rfl (by omega) rfl rfl ?_ | refine RG.idx tok rfl rfl rfl rfl rfl rfl (Go.Abs.ints_at (by omega)) ⟨by omega, by omega⟩ rfl ?_ | refine RG.idx tok rfl rfl rfl rfl rfl rfl (Go.Abs.rows_at (by omega)) ⟨by omega, by omega⟩ rfl ?_ | refine RG.load tok rfl rfl rfl rfl rfl rfl ?_ | refine RG.new tok rfl rfl rfl trivial rfl rfl ?_ | refine RG.store tok rfl rfl rfl rfl rfl rfl rfl rfl ?_ | refine RG.done rfl ?_ | refine RG.doneD (by kernel_rfl) rfl (by kernel_rfl) ?_ | refine AW.seq ?_ | refine AW.region ?_ | refine AW.skip ?_ | refine AW.block ?_ | refine AW.exit ?_ | refine AW.condT rfl ?_ | refine AW.condF rfl ?_))
  refine RG.call rfl rfl rfl rfl (c7) [] rfl rfl rfl rfl (.nil _) (.nil _) (fun _ h => False.elim h) rfl (A.ren_free _ _ rfl) rfl ?_
  (repeat (first | refine RG.skip rfl rfl rfl ?_ | refine RG.val tok rfl rfl rfl trivial rfl (iv_i64 (by omega)) ?_ | refine RG.val tok rfl rfl rfl trivial rfl rfl ?_ | refine RG.val tok rfl rfl rfl (by omega) rfl rfl ?_ | refine RG.idx tok rfl rfl rfl rfl rfl rfl (Go.Abs.ints_at (by omega)) ⟨by omega, by omega⟩ rfl ?_ | refine RG.idx tok rfl rfl rfl rfl rfl rfl (Go.Abs.rows_at (by omega)) ⟨by omega, by omega⟩ rfl ?_ | refine RG.load tok rfl rfl rfl rfl rfl rfl ?_ | refine RG.new tok rfl rfl rfl trivial rfl rfl ?_ | refine RG.store tok rfl rfl rfl rfl rfl rfl rfl rfl ?_ | refine RG.done rfl ?_ | refine RG.doneD (by kernel_rfl) rfl (by kernel_rfl) ?_ | refine AW.seq ?_ | refine AW.region ?_ | refine AW.skip ?_ | refine AW.block ?_ | refine AW.exit ?_ | refine AW.condT rfl ?_ | refine AW.condF rfl ?_))
  refine RG.call rfl rfl rfl rfl (d7) [] rfl rfl rfl rfl (.nil _) (.nil _) (fun _ h => False.elim h) rfl (A.ren_free _ _ rfl) rfl ?_
  (repeat (first | refine RG.skip rfl rfl rfl ?_ | refine RG.val tok rfl rfl rfl trivial rfl (iv_i64 (by omega)) ?_ | refine RG.val tok rfl rfl rfl trivial rfl rfl ?_ | refine RG.val tok rfl rfl rfl (by omega) rfl rfl ?_ | refine RG.idx tok rfl rfl rfl rfl rfl rfl (Go.Abs.ints_at (by omega)) ⟨by omega, by omega⟩ rfl ?_ | refine RG.idx tok rfl rfl rfl rfl rfl rfl (Go.Abs.rows_at (by omega)) ⟨by omega, by omega⟩ rfl ?_ | refine RG.load tok rfl rfl rfl rfl rfl rfl ?_ | refine RG.new tok rfl rfl rfl trivial rfl rfl ?_ | refine RG.store tok rfl rfl rfl rfl rfl rfl rfl rfl ?_ | refine RG.done rfl ?_ | refine RG.doneD (by kernel_rfl) rfl (by kernel_rfl) ?_ | refine AW.seq ?_ | refine AW.region ?_ | refine AW.skip ?_ | refine AW.block ?_ | refine AW.exit ?_ | refine AW.condT rfl ?_ | refine AW.condF rfl ?_))
  refine AW.condD rfl (fun k => absurd rfl k) (fun _ => ?_)
  refine AW.skip ?_
  refine AW.seq ?_
  refine AW.region ?_
  (first | refine RG.skip rfl rfl rfl ?_ | refine RG.val tok rfl rfl rfl trivial rfl (iv_i64 (by omega)) ?_ | refine RG.val tok rfl rfl rfl trivial rfl rfl ?_ | refine RG.val tok rfl rfl rfl (by omega) rfl rfl ?_ | refine RG.idx tok rfl rfl rfl rfl rfl rfl (Go.Abs.ints_at (by omega)) ⟨by omega, by omega⟩ rfl ?_ | refine RG.idx tok rfl rfl rfl rfl rfl rfl (Go.Abs.rows_at (by omega)) ⟨by omega, by omega⟩ rfl ?_ | refine RG.load tok rfl rfl rfl rfl rfl rfl ?_ | refine RG.new tok rfl rfl rfl trivial rfl rfl ?_ | refine RG.store tok rfl rfl rfl rfl rfl rfl rfl rfl ?_)
  refine RG.call rfl rfl rfl rfl cc [] rfl rfl rfl rfl (.nil _) (.cons (.one eren) (.cons (.one eren2) (.nil _))) (fun _ h => False.elim h) rfl rfl rfl ?_
  (repeat (first | refine RG.skip rfl rfl rfl ?_ | refine RG.val tok rfl rfl rfl trivial rfl (iv_i64 (by omega)) ?_ | refine RG.val tok rfl rfl rfl trivial rfl rfl ?_ | refine RG.val tok rfl rfl rfl (by omega) rfl rfl ?_ | refine RG.idx tok rfl rfl rfl rfl rfl rfl (Go.Abs.ints_at (by omega)) ⟨by omega, by omega⟩ rfl ?_ | refine RG.idx tok rfl rfl rfl rfl rfl rfl (Go.Abs.rows_at (by omega)) ⟨by omega, by omega⟩ rfl ?_ | refine RG.load tok rfl rfl rfl rfl rfl rfl ?_ | refine RG.new tok rfl rfl rfl trivial rfl rfl ?_ | refine RG.store tok rfl rfl rfl rfl rfl rfl rfl rfl ?_ | refine RG.done rfl ?_ | refine RG.doneD (by kernel_rfl) rfl (by kernel_rfl) ?_ | refine AW.region ?_ | refine AW.skip ?_ | refine AW.block ?_ | refine AW.exit ?_ | refine AW.condT rfl ?_ | refine AW.condF rfl ?_))
  refine AW.sub (t := ⟨put 14 (some (.sl 5 [] 1 0 (gs.length + 1))) (put 5 (some (.ptr 2 [] 0)) (put 7 (some (.val (.bool true))) (put 8 (some (rdM .i64 (r0 :: gs))) (put 10 (some (.val (.int .i64 ((gs.length + 1 : Nat) : Int)))) (put 11 (some (.val (.int .i64 (r0.length : Int)))) (put 12 (some (.ptr 3 [] 0)) (put 13 (some (.ptr 4 [] 0)) noE))))))), hput 5 (.one (.sl 6 [] 1 0 r0.length :: rows .i64 gs)) (hput 6 (.one (ints .i64 r0)) (hput 2 (.one (stepC z)) (hput 3 (.one (xCells a)) (hput 4 (.one (xCells b)) noH)))), 7⟩) (Sub.of (SubE.put rfl (SubE.put rfl (SubE.put rfl (SubE.put rfl (SubE.put rfl (SubE.put rfl (SubE.put rfl (SubE.put rfl (SubE.no _))))))))) (SubH.put rfl (SubH.put rfl (SubH.put rfl (SubH.put rfl (SubH.put rfl (SubH.no _)))))) rfl) ?_
  refine AW.seqJ (fun r : List Int => ⟨put 14 (some (.ro (gs.length + 1) (.ro r0.length (ints .i64 r) :: rows .i64 gs))) (put 5 (some (.ptr 2 [] 0)) (put 7 (some (.val (.bool true))) (put 8 (some (rdM .i64 (r0 :: gs))) (put 10 (some (.val (.int .i64 ((gs.length + 1 : Nat) : Int)))) (put 11 (some (.val (.int .i64 (r0.length : Int)))) (put 12 (some (.ptr 3 [] 0)) (put 13 (some (.ptr 4 [] 0)) noE))))))), hput 2 (.one (stepC z)) (hput 3 (.one (xCells a)) (hput 4 (.one (xCells b)) noH)), 7⟩) (fun r => r.length = r0.length) ?_ ?_
  · have lr : (rows .i64 gs).length = gs.length := by simp [rows]
    have fin : ∀ (e : Nat → Option A) (r : List Int) (C : Ctx), r.length = r0.length → Abs.Sub C ⟨put 14 (some (.sl 5 [] 1 0 (gs.length + 1))) (put 5 (some (.ptr 2 [] 0)) (put 7 (some (.val (.bool true))) (put 8 (some (rdM .i64 (r0 :: gs))) (put 10 (some (.val (.int .i64 ((gs.length + 1 : Nat) : Int)))) (put 11 (some (.val (.int .i64 (r0.length : Int)))) (put 12 (some (.ptr 3 [] 0)) (put 13 (some (.ptr 4 [] 0)) noE))))))), hput 5 (.one (.sl 6 [] 1 0 r0.length :: rows .i64 gs)) (hput 6 (.one (ints .i64 r)) (hput 2 (.one (stepC z)) (hput 3 (.one (xCells a)) (hput 4 (.one (xCells b)) noH)))), 7⟩
        ⟨put 14 (some (.ro (gs.length + 1) (.ro r0.length (ints .i64 r) :: rows .i64 gs))) (put 5 (some (.ptr 2 [] 0)) (put 7 (some (.val (.bool true))) (put 8 (some (rdM .i64 (r0 :: gs))) (put 10 (some (.val (.int .i64 ((gs.length + 1 : Nat) : Int)))) (put 11 (some (.val (.int .i64 (r0.length : Int)))) (put 12 (some (.ptr 3 [] 0)) (put 13 (some (.ptr 4 [] 0)) noE))))))), hput 2 (.one (stepC z)) (hput 3 (.one (xCells a)) (hput 4 (.one (xCells b)) noH)), 7⟩ := by
      intro e r C hr
      refine Sub.trans (Sub.frzH (ks := [6]) 5 rfl (by decide) (.cons (Frz.sl (l := ints .i64 r) rfl (by decide) (by simp [ints, List.take_of_length_le, hr]) (ints_free _ _ _)) (Frzs.refl _))) ?_
      refine Sub.trans (Sub.frz 14 (ks := [5]) rfl (Frz.sl (l := .ro r0.length (ints .i64 r) :: rows .i64 gs) rfl (by decide) (by simp [List.take_of_length_le, lr]) (by show (true && ltL 0 (rows .i64 gs)) = true; rw [show ltL 0 (rows .i64 gs) = true from ltL_map (fun _ => rfl) gs]; rfl))) ?_
      exact Sub.of (SubE.put rfl (SubE.put rfl (SubE.put rfl (SubE.put rfl (SubE.put rfl (SubE.put rfl (SubE.put rfl (SubE.put rfl (SubE.no _))))))))) (SubH.put rfl (SubH.put rfl (SubH.put rfl (SubH.no _)))) rfl
    refine AW.seq ?_; (repeat (first | refine RG.skip rfl rfl rfl ?_ | refine RG.val tok rfl rfl rfl trivial rfl (iv_i64 (by omega)) ?_ | refine RG.val tok rfl rfl rfl trivial rfl rfl ?_ | refine RG.val tok rfl rfl rfl (by omega) rfl rfl ?_ | refine RG.idx tok rfl rfl rfl rfl rfl rfl (Go.Abs.ints_at (by omega)) ⟨by omega, by omega⟩ rfl ?_ | refine RG.idx tok rfl rfl rfl rfl rfl rfl (Go.Abs.rows_at (by omega)) ⟨by omega, by omega⟩ rfl ?_ | refine RG.load tok rfl rfl rfl rfl rfl rfl ?_ | refine RG.new tok rfl rfl rfl trivial rfl rfl ?_ | refine RG.store tok rfl rfl rfl rfl rfl rfl rfl rfl ?_ | refine RG.done rfl ?_ | refine RG.doneD (by kernel_rfl) rfl (by kernel_rfl) ?_ | refine AW.region ?_ | refine AW.skip ?_ | refine AW.block ?_ | refine AW.exit ?_ | refine AW.condT rfl ?_ | refine AW.condF rfl ?_))
    refine RG.split 151 rfl (fun _ => ?_) (fun k => absurd (show (0 : Int) < ((gs.length + 1 : Nat) : Int) from by omega) k)
    (repeat (first | refine RG.skip rfl rfl rfl ?_ | refine RG.val tok rfl rfl rfl trivial rfl (iv_i64 (by omega)) ?_ | refine RG.val tok rfl rfl rfl trivial rfl rfl ?_ | refine RG.val tok rfl rfl rfl (by omega) rfl rfl ?_ | refine RG.idx tok rfl rfl rfl rfl rfl rfl (Go.Abs.ints_at (by omega)) ⟨by omega, by omega⟩ rfl ?_ | refine RG.idx tok rfl rfl rfl rfl rfl rfl (Go.Abs.rows_at (by omega)) ⟨by omega, by omega⟩ rfl ?_ | refine RG.load tok rfl rfl rfl rfl rfl rfl ?_ | refine RG.new tok rfl rfl rfl trivial rfl rfl ?_ | refine RG.store tok rfl rfl rfl rfl rfl rfl rfl rfl ?_ | refine RG.done rfl ?_ | refine RG.doneD (by kernel_rfl) rfl (by kernel_rfl) ?_ | refine AW.seq ?_ | refine AW.region ?_ | refine AW.skip ?_ | refine AW.block ?_ | refine AW.exit ?_ | refine AW.condT rfl ?_ | refine AW.condF rfl ?_))
    refine AW.condD rfl (fun k => ?_) (fun k => ?_)
    · have k' : 0 < r0.length := by
        have : (0 : Int) < (r0.length : Int) := k
        omega
      (repeat (first | refine RG.skip rfl rfl rfl ?_ | refine RG.val tok rfl rfl rfl trivial rfl (iv_i64 (by omega)) ?_ | refine RG.val tok rfl rfl rfl trivial rfl rfl ?_ | refine RG.val tok rfl rfl rfl (by omega) rfl rfl ?_ | refine RG.idx tok rfl rfl rfl rfl rfl rfl (Go.Abs.ints_at (by omega)) ⟨by omega, by omega⟩ rfl ?_ | refine RG.idx tok rfl rfl rfl rfl rfl rfl (Go.Abs.rows_at (by omega)) ⟨by omega, by omega⟩ rfl ?_ | refine RG.load tok rfl rfl rfl rfl rfl rfl ?_ | refine RG.new tok rfl rfl rfl trivial rfl rfl ?_ | refine RG.store tok rfl rfl rfl rfl rfl rfl rfl rfl ?_ | refine RG.done rfl ?_ | refine RG.doneD (by kernel_rfl) rfl (by kernel_rfl) ?_ | refine AW.seq ?_ | refine AW.region ?_ | refine AW.skip ?_ | refine AW.block ?_ | refine AW.exit ?_ | refine AW.condT rfl ?_ | refine AW.condF rfl ?_))
      refine RG.store (k := 6) (p := []) (c' := ints .i64 (r0.set 0 z.c)) tok rfl rfl rfl rfl ?hl rfl rfl rfl ?_
      case hl => exact stA_map (k := 6) rfl (fun x => .val (.int .i64 x)) (xs := r0) rfl k' z.c rfl rfl
      (repeat (first | refine RG.skip rfl rfl rfl ?_ | refine RG.val tok rfl rfl rfl trivial rfl (iv_i64 (by omega)) ?_ | refine RG.val tok rfl rfl rfl trivial rfl rfl ?_ | refine RG.val tok rfl rfl rfl (by omega) rfl rfl ?_ | refine RG.idx tok rfl rfl rfl rfl rfl rfl (Go.Abs.ints_at (by omega)) ⟨by omega, by omega⟩ rfl ?_ | refine RG.idx tok rfl rfl rfl rfl rfl rfl (Go.Abs.rows_at (by omega)) ⟨by omega, by omega⟩ rfl ?_ | refine RG.load tok rfl rfl rfl rfl rfl rfl ?_ | refine RG.new tok rfl rfl rfl trivial rfl rfl ?_ | refine RG.store tok rfl rfl rfl rfl rfl rfl rfl rfl ?_ | refine RG.done rfl ?_ | refine RG.doneD (by kernel_rfl) rfl (by kernel_rfl) ?_ | refine AW.seq ?_ | refine AW.region ?_ | refine AW.skip ?_ | refine AW.block ?_ | refine AW.exit ?_ | refine AW.condT rfl ?_ | refine AW.condF rfl ?_))
      refine ⟨r0.set 0 z.c, by simp, Sub.trans ?_ (fin noE (r0.set 0 z.c) _ (by simp))⟩
      exact Sub.of (SubE.put rfl (SubE.put rfl (SubE.put rfl (SubE.put rfl (SubE.put rfl (SubE.put rfl (SubE.put rfl (SubE.put rfl (SubE.no _))))))))) (SubH.put rfl (SubH.put rfl (SubH.put rfl (SubH.put rfl (SubH.put rfl (SubH.no _)))))) rfl
    · (repeat (first | refine RG.skip rfl rfl rfl ?_ | refine RG.val tok rfl rfl rfl trivial rfl (iv_i64 (by omega)) ?_ | refine RG.val tok rfl rfl rfl trivial rfl rfl ?_ | refine RG.val tok rfl rfl rfl (by omega) rfl rfl ?_ | refine RG.idx tok rfl rfl rfl rfl rfl rfl (Go.Abs.ints_at (by omega)) ⟨by omega, by omega⟩ rfl ?_ | refine RG.idx tok rfl rfl rfl rfl rfl rfl (Go.Abs.rows_at (by omega)) ⟨by omega, by omega⟩ rfl ?_ | refine RG.load tok rfl rfl rfl rfl rfl rfl ?_ | refine RG.new tok rfl rfl rfl trivial rfl rfl ?_ | refine RG.store tok rfl rfl rfl rfl rfl rfl rfl rfl ?_ | refine RG.done rfl ?_ | refine RG.doneD (by kernel_rfl) rfl (by kernel_rfl) ?_ | refine AW.seq ?_ | refine AW.region ?_ | refine AW.skip ?_ | refine AW.block ?_ | refine AW.exit ?_ | refine AW.condT rfl ?_ | refine AW.condF rfl ?_))
      refine ⟨r0, rfl, Sub.trans ?_ (fin noE r0 _ rfl)⟩
      exact Sub.of (SubE.put rfl (SubE.put rfl (SubE.put rfl (SubE.put rfl (SubE.put rfl (SubE.put rfl (SubE.put rfl (SubE.put rfl (SubE.no _))))))))) (SubH.put rfl (SubH.put rfl (SubH.put rfl (SubH.put rfl (SubH.put rfl (SubH.no _)))))) rfl
  intro r hr
  have vo := valid_fc (r :: gs) (gs.length + 1 : Nat) r0.length (small_odd r hr)
  have wo := rvalid_fc (r :: gs) (gs.length + 1 : Nat) r0.length (small_odd r hr)
  rw [show rdM .i64 (r :: gs) = .ro (gs.length + 1) (.ro r0.length (ints .i64 r) :: rows .i64 gs) from by rw [← hr]; rfl] at vo wo
  generalize Gp.valid (r :: gs) ((gs.length + 1 : Nat) : Int) r0.length = q9 at vo wo
  (repeat (first | refine RG.skip rfl rfl rfl ?_ | refine RG.val tok rfl rfl rfl trivial rfl (iv_i64 (by omega)) ?_ | refine RG.val tok rfl rfl rfl trivial rfl rfl ?_ | refine RG.val tok rfl rfl rfl (by omega) rfl rfl ?_ | refine RG.idx tok rfl rfl rfl rfl rfl rfl (Go.Abs.ints_at (by omega)) ⟨by omega, by omega⟩ rfl ?_ | refine RG.idx tok rfl rfl rfl rfl rfl rfl (Go.Abs.rows_at (by omega)) ⟨by omega, by omega⟩ rfl ?_ | refine RG.load tok rfl rfl rfl rfl rfl rfl ?_ | refine RG.new tok rfl rfl rfl trivial rfl rfl ?_ | refine RG.store tok rfl rfl rfl rfl rfl rfl rfl rfl ?_ | refine RG.done rfl ?_ | refine RG.doneD (by kernel_rfl) rfl (by kernel_rfl) ?_ | refine AW.seq ?_ | refine AW.region ?_ | refine AW.skip ?_ | refine AW.block ?_ | refine AW.exit ?_ | refine AW.condT rfl ?_ | refine AW.condF rfl ?_))
  refine RG.call rfl rfl rfl rfl (vo) [] rfl rfl rfl rfl (.nil _) (.nil _) (fun _ h => False.elim h) rfl (A.ren_free _ _ rfl) rfl ?_
  (repeat (first | refine RG.skip rfl rfl rfl ?_ | refine RG.val tok rfl rfl rfl trivial rfl (iv_i64 (by omega)) ?_ | refine RG.val tok rfl rfl rfl trivial rfl rfl ?_ | refine RG.val tok rfl rfl rfl (by omega) rfl rfl ?_ | refine RG.idx tok rfl rfl rfl rfl rfl rfl (Go.Abs.ints_at (by omega)) ⟨by omega, by omega⟩ rfl ?_ | refine RG.idx tok rfl rfl rfl rfl rfl rfl (Go.Abs.rows_at (by omega)) ⟨by omega, by omega⟩ rfl ?_ | refine RG.load tok rfl rfl rfl rfl rfl rfl ?_ | refine RG.new tok rfl rfl rfl trivial rfl rfl ?_ | refine RG.store tok rfl rfl rfl rfl rfl rfl rfl rfl ?_ | refine RG.done rfl ?_ | refine RG.doneD (by kernel_rfl) rfl (by kernel_rfl) ?_ | refine AW.seq ?_ | refine AW.region ?_ | refine AW.skip ?_ | refine AW.block ?_ | refine AW.exit ?_ | refine AW.condT rfl ?_ | refine AW.condF rfl ?_))
  refine RG.call rfl rfl rfl rfl (wo) [] rfl rfl rfl rfl (.nil _) (.nil _) (fun _ h => False.elim h) rfl (A.ren_free _ _ rfl) rfl ?_
  (repeat (first | refine RG.skip rfl rfl rfl ?_ | refine RG.val tok rfl rfl rfl trivial rfl (iv_i64 (by omega)) ?_ | refine RG.val tok rfl rfl rfl trivial rfl rfl ?_ | refine RG.val tok rfl rfl rfl (by omega) rfl rfl ?_ | refine RG.idx tok rfl rfl rfl rfl rfl rfl (Go.Abs.ints_at (by omega)) ⟨by omega, by omega⟩ rfl ?_ | refine RG.idx tok rfl rfl rfl rfl rfl rfl (Go.Abs.rows_at (by omega)) ⟨by omega, by omega⟩ rfl ?_ | refine RG.load tok rfl rfl rfl rfl rfl rfl ?_ | refine RG.new tok rfl rfl rfl trivial rfl rfl ?_ | refine RG.store tok rfl rfl rfl rfl rfl rfl rfl rfl ?_ | refine RG.done rfl ?_ | refine RG.doneD (by kernel_rfl) rfl (by kernel_rfl) ?_ | refine AW.seq ?_ | refine AW.region ?_ | refine AW.skip ?_ | refine AW.block ?_ | refine AW.exit ?_ | refine AW.condT rfl ?_ | refine AW.condF rfl ?_))
  refine RG.splitB 176 rfl (fun _ => ?_) (fun e => absurd (show (q9 == q9) = false from e) (by simp))
  (repeat (first | refine RG.skip rfl rfl rfl ?_ | refine RG.val tok rfl rfl rfl trivial rfl (iv_i64 (by omega)) ?_ | refine RG.val tok rfl rfl rfl trivial rfl rfl ?_ | refine RG.val tok rfl rfl rfl (by omega) rfl rfl ?_ | refine RG.idx tok rfl rfl rfl rfl rfl rfl (Go.Abs.ints_at (by omega)) ⟨by omega, by omega⟩ rfl ?_ | refine RG.idx tok rfl rfl rfl rfl rfl rfl (Go.Abs.rows_at (by omega)) ⟨by omega, by omega⟩ rfl ?_ | refine RG.load tok rfl rfl rfl rfl rfl rfl ?_ | refine RG.new tok rfl rfl rfl trivial rfl rfl ?_ | refine RG.store tok rfl rfl rfl rfl rfl rfl rfl rfl ?_ | refine RG.done rfl ?_ | refine RG.doneD (by kernel_rfl) rfl (by kernel_rfl) ?_ | refine AW.seq ?_ | refine AW.region ?_ | refine AW.skip ?_ | refine AW.block ?_ | refine AW.exit ?_ | refine AW.condT rfl ?_ | refine AW.condF rfl ?_))
  refine RG.call rfl rfl rfl rfl (c8) [] rfl rfl rfl rfl (.nil _) (.nil _) (fun _ h => False.elim h) rfl (A.ren_free _ _ rfl) rfl ?_
  (repeat (first | refine RG.skip rfl rfl rfl ?_ | refine RG.val tok rfl rfl rfl trivial rfl (iv_i64 (by omega)) ?_ | refine RG.val tok rfl rfl rfl trivial rfl rfl ?_ | refine RG.val tok rfl rfl rfl (by omega) rfl rfl ?_ | refine RG.idx tok rfl rfl rfl rfl rfl rfl (Go.Abs.ints_at (by omega)) ⟨by omega, by omega⟩ rfl ?_ | refine RG.idx tok rfl rfl rfl rfl rfl rfl (Go.Abs.rows_at (by omega)) ⟨by omega, by omega⟩ rfl ?_ | refine RG.load tok rfl rfl rfl rfl rfl rfl ?_ | refine RG.new tok rfl rfl rfl trivial rfl rfl ?_ | refine RG.store tok rfl rfl rfl rfl rfl rfl rfl rfl ?_ | refine RG.done rfl ?_ | refine RG.doneD (by kernel_rfl) rfl (by kernel_rfl) ?_ | refine AW.seq ?_ | refine AW.region ?_ | refine AW.skip ?_ | refine AW.block ?_ | refine AW.exit ?_ | refine AW.condT rfl ?_ | refine AW.condF rfl ?_))
  refine RG.call rfl rfl rfl rfl (d8) [] rfl rfl rfl rfl (.nil _) (.nil _) (fun _ h => False.elim h) rfl (A.ren_free _ _ rfl) rfl ?_
  (repeat (first | refine RG.skip rfl rfl rfl ?_ | refine RG.val tok rfl rfl rfl trivial rfl (iv_i64 (by omega)) ?_ | refine RG.val tok rfl rfl rfl trivial rfl rfl ?_ | refine RG.val tok rfl rfl rfl (by omega) rfl rfl ?_ | refine RG.idx tok rfl rfl rfl rfl rfl rfl (Go.Abs.ints_at (by omega)) ⟨by omega, by omega⟩ rfl ?_ | refine RG.idx tok rfl rfl rfl rfl rfl rfl (Go.Abs.rows_at (by omega)) ⟨by omega, by omega⟩ rfl ?_ | refine RG.load tok rfl rfl rfl rfl rfl rfl ?_ | refine RG.new tok rfl rfl rfl trivial rfl rfl ?_ | refine RG.store tok rfl rfl rfl rfl rfl rfl rfl rfl ?_ | refine RG.done rfl ?_ | refine RG.doneD (by kernel_rfl) rfl (by kernel_rfl) ?_ | refine AW.seq ?_ | refine AW.region ?_ | refine AW.skip ?_ | refine AW.block ?_ | refine AW.exit ?_ | refine AW.condT rfl ?_ | refine AW.condF rfl ?_))
  refine RG.splitB 191 rfl (fun _ => ?_) (fun e => absurd (show (q8 == q8) = false from e) (by simp))
  (repeat (first | refine RG.skip rfl rfl rfl ?_ | refine RG.val tok rfl rfl rfl trivial rfl (iv_i64 (by omega)) ?_ | refine RG.val tok rfl rfl rfl trivial rfl rfl ?_ | refine RG.val tok rfl rfl rfl (by omega) rfl rfl ?_ | refine RG.idx tok rfl rfl rfl rfl rfl rfl (Go.Abs.ints_at (by omega)) ⟨by omega, by omega⟩ rfl ?_ | refine RG.idx tok rfl rfl rfl rfl rfl rfl (Go.Abs.rows_at (by omega)) ⟨by omega, by omega⟩ rfl ?_ | refine RG.load tok rfl rfl rfl rfl rfl rfl ?_ | refine RG.new tok rfl rfl rfl trivial rfl rfl ?_ | refine RG.store tok rfl rfl rfl rfl rfl rfl rfl rfl ?_ | refine RG.done rfl ?_ | refine RG.doneD (by kernel_rfl) rfl (by kernel_rfl) ?_ | refine AW.seq ?_ | refine AW.region ?_ | refine AW.skip ?_ | refine AW.block ?_ | refine AW.exit ?_ | refine AW.condT rfl ?_ | refine AW.condF rfl ?_))
  refine RG.call rfl rfl rfl rfl (d9) [] rfl rfl rfl rfl (.nil _) (.nil _) (fun _ h => False.elim h) rfl (A.ren_free _ _ rfl) rfl ?_
  (repeat (first | refine RG.skip rfl rfl rfl ?_ | refine RG.val tok rfl rfl rfl trivial rfl (iv_i64 (by omega)) ?_ | refine RG.val tok rfl rfl rfl trivial rfl rfl ?_ | refine RG.val tok rfl rfl rfl (by omega) rfl rfl ?_ | refine RG.idx tok rfl rfl rfl rfl rfl rfl (Go.Abs.ints_at (by omega)) ⟨by omega, by omega⟩ rfl ?_ | refine RG.idx tok rfl rfl rfl rfl rfl rfl (Go.Abs.rows_at (by omega)) ⟨by omega, by omega⟩ rfl ?_ | refine RG.load tok rfl rfl rfl rfl rfl rfl ?_ | refine RG.new tok rfl rfl rfl trivial rfl rfl ?_ | refine RG.store tok rfl rfl rfl rfl rfl rfl rfl rfl ?_ | refine RG.done rfl ?_ | refine RG.doneD (by kernel_rfl) rfl (by kernel_rfl) ?_ | refine AW.seq ?_ | refine AW.region ?_ | refine AW.skip ?_ | refine AW.block ?_ | refine AW.exit ?_ | refine AW.condT rfl ?_ | refine AW.condF rfl ?_))
  refine RG.call rfl rfl rfl rfl (c9) [] rfl rfl rfl rfl (.nil _) (.nil _) (fun _ h => False.elim h) rfl (A.ren_free _ _ rfl) rfl ?_
  (repeat (first | refine RG.skip rfl rfl rfl ?_ | refine RG.val tok rfl rfl rfl trivial rfl (iv_i64 (by omega)) ?_ | refine RG.val tok rfl rfl rfl trivial rfl rfl ?_ | refine RG.val tok rfl rfl rfl (by omega) rfl rfl ?_ | refine RG.idx tok rfl rfl rfl rfl rfl rfl (Go.Abs.ints_at (by omega)) ⟨by omega, by omega⟩ rfl ?_ | refine RG.idx tok rfl rfl rfl rfl rfl rfl (Go.Abs.rows_at (by omega)) ⟨by omega, by omega⟩ rfl ?_ | refine RG.load tok rfl rfl rfl rfl rfl rfl ?_ | refine RG.new tok rfl rfl rfl trivial rfl rfl ?_ | refine RG.store tok rfl rfl rfl rfl rfl rfl rfl rfl ?_ | refine RG.done rfl ?_ | refine RG.doneD (by kernel_rfl) rfl (by kernel_rfl) ?_ | refine AW.seq ?_ | refine AW.region ?_ | refine AW.skip ?_ | refine AW.block ?_ | refine AW.exit ?_ | refine AW.condT rfl ?_ | refine AW.condF rfl ?_))
  refine RG.call rfl rfl rfl rfl (both_fc) [] rfl rfl rfl rfl (.nil _) (.nil _) (fun _ h => False.elim h) rfl (A.ren_free _ _ rfl) rfl ?_
  (repeat (first | refine RG.skip rfl rfl rfl ?_ | refine RG.val tok rfl rfl rfl trivial rfl (iv_i64 (by omega)) ?_ | refine RG.val tok rfl rfl rfl trivial rfl rfl ?_ | refine RG.val tok rfl rfl rfl (by omega) rfl rfl ?_ | refine RG.idx tok rfl rfl rfl rfl rfl rfl (Go.Abs.ints_at (by omega)) ⟨by omega, by omega⟩ rfl ?_ | refine RG.idx tok rfl rfl rfl rfl rfl rfl (Go.Abs.rows_at (by omega)) ⟨by omega, by omega⟩ rfl ?_ | refine RG.load tok rfl rfl rfl rfl rfl rfl ?_ | refine RG.new tok rfl rfl rfl trivial rfl rfl ?_ | refine RG.store tok rfl rfl rfl rfl rfl rfl rfl rfl ?_ | refine RG.done rfl ?_ | refine RG.doneD (by kernel_rfl) rfl (by kernel_rfl) ?_ | refine AW.seq ?_ | refine AW.region ?_ | refine AW.skip ?_ | refine AW.block ?_ | refine AW.exit ?_ | refine AW.condT rfl ?_ | refine AW.condF rfl ?_))
  refine RG.call rfl rfl rfl rfl (d10) [] rfl rfl rfl rfl (.nil _) (.nil _) (fun _ h => False.elim h) rfl (A.ren_free _ _ rfl) rfl ?_
  (repeat (first | refine RG.skip rfl rfl rfl ?_ | refine RG.val tok rfl rfl rfl trivial rfl (iv_i64 (by omega)) ?_ | refine RG.val tok rfl rfl rfl trivial rfl rfl ?_ | refine RG.val tok rfl rfl rfl (by omega) rfl rfl ?_ | refine RG.idx tok rfl rfl rfl rfl rfl rfl (Go.Abs.ints_at (by omega)) ⟨by omega, by omega⟩ rfl ?_ | refine RG.idx tok rfl rfl rfl rfl rfl rfl (Go.Abs.rows_at (by omega)) ⟨by omega, by omega⟩ rfl ?_ | refine RG.load tok rfl rfl rfl rfl rfl rfl ?_ | refine RG.new tok rfl rfl rfl trivial rfl rfl ?_ | refine RG.store tok rfl rfl rfl rfl rfl rfl rfl rfl ?_ | refine RG.done rfl ?_ | refine RG.doneD (by kernel_rfl) rfl (by kernel_rfl) ?_ | refine AW.seq ?_ | refine AW.region ?_ | refine AW.skip ?_ | refine AW.block ?_ | refine AW.exit ?_ | refine AW.condT rfl ?_ | refine AW.condF rfl ?_))
  refine RG.call rfl rfl rfl rfl (c10) [] rfl rfl rfl rfl (.nil _) (.nil _) (fun _ h => False.elim h) rfl (A.ren_free _ _ rfl) rfl ?_
  (repeat (first | refine RG.skip rfl rfl rfl ?_ | refine RG.val tok rfl rfl rfl trivial rfl (iv_i64 (by omega)) ?_ | refine RG.val tok rfl rfl rfl trivial rfl rfl ?_ | refine RG.val tok rfl rfl rfl (by omega) rfl rfl ?_ | refine RG.idx tok rfl rfl rfl rfl rfl rfl (Go.Abs.ints_at (by omega)) ⟨by omega, by omega⟩ rfl ?_ | refine RG.idx tok rfl rfl rfl rfl rfl rfl (Go.Abs.rows_at (by omega)) ⟨by omega, by omega⟩ rfl ?_ | refine RG.load tok rfl rfl rfl rfl rfl rfl ?_ | refine RG.new tok rfl rfl rfl trivial rfl rfl ?_ | refine RG.store tok rfl rfl rfl rfl rfl rfl rfl rfl ?_ | refine RG.done rfl ?_ | refine RG.doneD (by kernel_rfl) rfl (by kernel_rfl) ?_ | refine AW.seq ?_ | refine AW.region ?_ | refine AW.skip ?_ | refine AW.block ?_ | refine AW.exit ?_ | refine AW.ret ?_ | refine AW.condT rfl ?_ | refine AW.condF rfl ?_))
  exact ⟨⟨_, rfl, rfl⟩, rfl, .nil _⟩
theorem gapMatches_true (d0 : Dd) (v0 : Value) (d1 : Dd) (v1 : Value) (d2 : Dd) (v2 : Value) (W : World) (h0 : Dd.Ty Try.prog 24 d0) (r0 : V noPl (fun _ => False) W d0.aw v0) (h1 : Dd.Ty Try.prog 24 d1) (r1 : V noPl (fun _ => False) W d1.aw v1) (h2 : Dd.Ty Try.prog 32 d2) (r2 : V noPl (fun _ => False) W d2.aw v2) :
    Says 8 #[v0, v1, v2] W := by
  obtain ⟨V0, P0, N0, e0, _, hV0, hP0, lN0⟩ := raw_of h0
  obtain ⟨V1, P1, N1, e1, _, hV1, hP1, lN1⟩ := raw_of h1
  obtain ⟨z, e2, b0, b1⟩ := step_of h2
  rw [e0] at r0; rw [e1] at r1; rw [e2] at r2
  exact FC.calls (gapMatches_fc V0 P0 V1 P1 N0 N1 z b0 b1 hV0 hP0 lN0 lN1) (vs := [v0, v1, v2]) (.cons r0 (.cons r1 (.cons r2 .nil)))
end Go.Proofs.Ytajlmkokfgbjdaa
