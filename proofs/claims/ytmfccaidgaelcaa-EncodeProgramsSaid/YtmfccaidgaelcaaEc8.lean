/- How lists are read. No conditions. -/
import Derived.Test.YtmfccaidgaelcaaEc7
import Derived.Test.YtmfccaidgaelcaaAbsE
set_option linter.unusedVariables false
set_option linter.unusedSimpArgs false
namespace Go.Abs
theorem SubHr.putR {σ : Nat → Nat} {k : Nat} {c c' : List A} {h h' : Nat → Reg} (h1 : h' (σ k) = .one c') (hc : renPL (fun k p => (σ k, p)) c = c') (h2 : SubHr σ h h') : SubHr σ (hput k (.one c) h) h' := by
  intro j p c0 hj
  by_cases hk : j = k
  · subst hk
    rw [hput_same] at hj
    rw [h1]
    have e : c0 = c := by
      cases p with
      | nil => simpa [Reg.get] using hj.symm
      | cons _ _ => simp [Reg.get] at hj
    rw [e] at hj ⊢
    cases p with
    | nil => simp only [Reg.get]; rw [hc]
    | cons _ _ => simp [Reg.get] at hj
  · rw [hput_ne _ _ hk] at hj; exact h2 j p c0 hj
end Go.Abs
namespace Go.Proofs.Ytmfccaidgaelcaa
open Go.Abs Go Go.RowKit
def sigM (k : Nat) : Nat := if k = 0 then 0 else if k = 1 then 1 else k + 2
theorem sigM_inj : ∀ a b, sigM a = sigM b → a = b := by intro a b h; unfold sigM at h; repeat' split at h
                                                        all_goals omega
theorem sigM_hi (a : Nat) (ha : 3 ≤ a) : 5 ≤ sigM a := by unfold sigM; repeat' split
                                                          all_goals omega
theorem sigM_q (a : Nat) (ha : a < 1) : sigM a = a := by unfold sigM; repeat' split
                                                         all_goals omega
def sigN (k : Nat) : Nat := if k = 0 then 0 else if k = 1 then 1 else if k = 2 then 2 else k + 2
theorem sigN_inj : ∀ a b, sigN a = sigN b → a = b := by intro a b h; unfold sigN at h; repeat' split at h
                                                        all_goals omega
theorem sigN_hi (a : Nat) (ha : 4 ≤ a) : 6 ≤ sigN a := by unfold sigN; repeat' split
                                                          all_goals omega
theorem sigN_q (a : Nat) (ha : a < 2) : sigN a = a := by unfold sigN; repeat' split
                                                         all_goals omega

set_option maxHeartbeats 16000000 in
set_option maxRecDepth 10000 in
theorem many_ex_fc {w : Ex → List Int} {ok : Ex → Prop} (G : FuncId) (rd : Rdr Ex) (hcan : Can rd w ok) (t : List Int) (ht : t.length < 8) (N : Nat) (hN : N ≤ 200000)
    (c : ∀ ws, ws.length < N → (∀ x, x ∈ ws → I64' x) → FC Try.prog ge G [rdrA] [.one (stB ws t)] (rres (fun x => .agg x.cl) (rd ws)) [.one (stB (rrest (rd ws)) t)] (PN (rd ws)))
    (ws : List Int) (hws : ws.length ≤ N) (hi : ∀ x, x ∈ ws → I64' x) :
    FC Try.prog ge 123 [rdrA, .fn G [rdrA] []] [.one (stB ws t)] (rres (fun xs => .ro xs.length (flC Ex.cl xs)) (lst rd ws)) [.one (stB (rrest (lst rd ws)) t)] (PN (lst rd ws)) := by
  cases ws with
  | nil =>
    have cn := next_no t ht
    show FC _ _ _ _ _ A.no [.one (stB [] t)] PW
    refine FC.of_AW tok Try.func123 (by kernel_rfl) rfl Try.ntmps123 [] rfl rfl rfl ?_; intro w0 X0 Y f0 hI0 hX0
    refine S1 ?_; (repeat (first | refine K4 ?_ | refine L2 ?_ | refine RG.d ?_ | refine S2 ?_))
    refine S1 ?_; (repeat (first | refine K4 ?_ | refine L1 ?_ | refine S2 ?_))
    refine RG.call rfl rfl rfl rfl (cn) [0] rfl rfl rfl rfl (.cons rfl (.one rfl) (Reg.lt_one rfl) ⟨[], _, rfl⟩ (.nil _)) (.cons (.one rfl) (.nil _)) (fun _ h => by first | exact h | exact False.elim h) rfl rfl rfl ?_
    (repeat (first | refine K4 ?_ | refine RG.d ?_))
    exact AW.absurd 9 rfl
  | cons n l =>
    have cn := next_ok n l t (hi n (by simp)) (by simp only [List.length_cons] at hws; unfold BW; omega) ht
    simp only [List.length_cons] at hws
    obtain ⟨M, hM⟩ : ∃ M, M = lst rd (n :: l) := ⟨_, rfl⟩
    rw [← hM]
    have hq : some (A.val (.int .i64 (IntKind.i64.wrap (((8 * l.length + t.length : Nat) : Int).tdiv 8)))) = some (i64 (l.length : Int)) := by
      rw [show (((8 * l.length + t.length : Nat) : Int).tdiv 8) = (((8 * l.length + t.length) / 8 : Nat) : Int) from rfl, show (8 * l.length + t.length) / 8 = l.length by omega, wrap_i64 (by omega)]
    by_cases hneg : n < 0
    · rw [lst, if_neg (by omega)] at hM
      subst hM
      show FC _ _ _ _ _ A.no [.one (stB [] t)] PW
      refine FC.of_AW tok Try.func123 (by kernel_rfl) rfl Try.ntmps123 [] rfl rfl rfl ?_; intro w0 X0 Y f0 hI0 hX0
      refine S1 ?_; (repeat (first | refine K4 ?_ | refine L2 ?_ | refine RG.d ?_ | refine S2 ?_))
      refine S1 ?_; (repeat (first | refine K4 ?_ | refine L1 ?_ | refine S2 ?_))
      refine RG.call rfl rfl rfl rfl (cn) [0] rfl rfl rfl rfl (.cons rfl (.one rfl) (Reg.lt_one rfl) ⟨[], _, rfl⟩ (.nil _)) (.cons (.one rfl) (.nil _)) (fun _ h => by first | exact h | exact False.elim h) rfl rfl rfl ?_
      (repeat (first | refine K4 ?_ | refine RG.d ?_))
      refine S1 ?_
      (repeat (first | refine K4 ?_ | refine S1 ?_ | refine S2 ?_))
      refine RG.split 12 rfl (fun _ => ?_) (fun k => absurd hneg k)
      (repeat (first | refine K1 ?_ | refine K4 ?_ | refine RG.d ?_ | refine S2 ?_ | refine S7 ?_))
      refine RG.panic rfl rfl rfl rfl ?_
      (repeat (first | refine K4 ?_ | refine RG.d ?_ | refine S1 ?_ | refine S2 ?_ | refine S4 ?_))
      exact AW.absurd 24 rfl
    obtain ⟨m, hm⟩ : ∃ m : Nat, n = m := ⟨n.toNat, by omega⟩
    by_cases hbig : l.length < m
    · rw [lst, if_neg (by omega)] at hM
      subst hM
      show FC _ _ _ _ _ A.no [.one (stB [] t)] PW
      refine FC.of_AW tok Try.func123 (by kernel_rfl) rfl Try.ntmps123 [] rfl rfl rfl ?_; intro w0 X0 Y f0 hI0 hX0
      refine S1 ?_; (repeat (first | refine K4 ?_ | refine L2 ?_ | refine RG.d ?_ | refine S2 ?_))
      refine S1 ?_; (repeat (first | refine K4 ?_ | refine L1 ?_ | refine S2 ?_))
      refine RG.call rfl rfl rfl rfl (cn) [0] rfl rfl rfl rfl (.cons rfl (.one rfl) (Reg.lt_one rfl) ⟨[], _, rfl⟩ (.nil _)) (.cons (.one rfl) (.nil _)) (fun _ h => by first | exact h | exact False.elim h) rfl rfl rfl ?_
      (repeat (first | refine K4 ?_ | refine RG.d ?_))
      refine S1 ?_
      (repeat (first | refine K4 ?_ | refine S1 ?_ | refine S2 ?_))
      refine RG.split 12 rfl (fun k => absurd k hneg) (fun _ => ?_)
      (first | refine K4 ?_)
      (first | refine K4 ?_)
      (first | refine L1 ?_)
      (first | refine K4 ?_)
      (first | refine K4 ?_)
      (first | refine L1 ?_)
      (first | refine K4 ?_)
      refine RG.val tok rfl rfl rfl (show (8 : Int) ≠ 0 by decide) rfl hq ?_
      (repeat (first | refine K4 ?_ | refine RG.d ?_))
      refine AW.condD rfl (fun _ => ?_) (fun k => absurd (show (l.length : Int) < n by omega) k)
      (repeat (first | refine K4 ?_ | refine S2 ?_))
      refine RG.panic rfl rfl rfl rfl ?_
      (repeat (first | refine K4 ?_ | refine RG.d ?_ | refine S1 ?_ | refine S2 ?_ | refine S4 ?_))
      exact AW.absurd 24 rfl
    rw [lst, if_pos ⟨by omega, by omega⟩, show n.toNat = m by omega] at hM
    have hil : ∀ x, x ∈ l → I64' x := fun x hx => hi x (by simp [hx])
    refine FC.of_AW tok Try.func123 (by kernel_rfl) rfl Try.ntmps123 [] rfl rfl rfl ?_; intro w0 X0 Y f0 hI0 hX0
    refine S1 ?_; (repeat (first | refine K4 ?_ | refine L2 ?_ | refine RG.d ?_ | refine S2 ?_))
    refine S1 ?_; (repeat (first | refine K4 ?_ | refine L1 ?_ | refine S2 ?_))
    refine RG.call rfl rfl rfl rfl (cn) [0] rfl rfl rfl rfl (.cons rfl (.one rfl) (Reg.lt_one rfl) ⟨[], _, rfl⟩ (.nil _)) (.cons (.one rfl) (.nil _)) (fun _ h => by first | exact h | exact False.elim h) rfl rfl rfl ?_
    (repeat (first | refine K4 ?_ | refine RG.d ?_))
    refine S1 ?_
    (repeat (first | refine K4 ?_ | refine S1 ?_ | refine S2 ?_))
    refine RG.split 12 rfl (fun k => absurd k hneg) (fun _ => ?_)
    (first | refine K4 ?_)
    (first | refine K4 ?_)
    (first | refine L1 ?_)
    (first | refine K4 ?_)
    (first | refine K4 ?_)
    (first | refine L1 ?_)
    (first | refine K4 ?_)
    refine RG.val tok rfl rfl rfl (show (8 : Int) ≠ 0 by decide) rfl hq ?_
    (repeat (first | refine K4 ?_ | refine RG.d ?_))
    refine AW.condD rfl (fun k => absurd (show (l.length : Int) < n from k) (by omega)) (fun _ => ?_)
    refine S3 ?_
    refine S1 ?_; (repeat (first | refine K4 ?_ | refine RG.d ?_ | refine S2 ?_))
    refine AW.sub (Sub.nil 6 4 rfl) ?_
    refine AW.seqJ (fun p : List Ex × List Int => ⟨put 6 (some (.ro p.1.length (flC Ex.cl p.1))) noE, hput 0 (.one (stB p.2 t)) noH, 1⟩) (fun p => M = some (p.1, p.2)) ?_ ?_
    · refine S1 ?_; (repeat (first | refine K4 ?_ | refine RG.d ?_ | refine S2 ?_ | refine S4 ?_))
      refine AW.loopS (fun p : Nat × List Ex × List Int => ⟨put 1 (some (.fn G [rdrA] [])) (put 6 (some (.sl 2 [] 4 0 p.2.1.length)) (put 25 (some (i64 n)) (put 26 (some (i64 (p.1 : Int))) noE))), hput 0 (.one (stB p.2.2 t)) (hput 1 (.one ([.ptr 0 [] 0])) (hput 2 (.one (flC Ex.cl p.2.1)) noH)), 3⟩)
        (fun p => p.1 ≤ m ∧ p.2.1.length = p.1 ∧ p.2.2.length ≤ l.length ∧ (∀ x, x ∈ p.2.2 → I64' x) ∧ M = (many rd (m - p.1) p.2.2).map (fun q => (p.2.1 ++ q.1, q.2))) (fun p => m - p.1) (0, [], l) ⟨Nat.zero_le _, rfl, Nat.le_refl _, hil, by rw [hM]; cases many rd m l <;> rfl⟩ (Sub.of (by repeat (first | exact SubE.no _ | refine SubE.put rfl ?_)) (by repeat (first | exact SubH.no _ | refine SubH.put rfl ?_)) rfl) ?_
      rintro ⟨i, xs, li⟩ ⟨g1, g2, g3, g4, g5⟩
      dsimp only at g1 g2 g3 g4 g5
      (repeat (first | refine K4 ?_ | refine RG.d ?_ | refine S1 ?_ | refine S2 ?_))
      refine AW.condD rfl (fun k => ?_) (fun k => ?_)
      rotate_left
      · have hi2 : i = m := by
          have : ¬ (i : Int) < n := k
          omega
        rw [hi2, Nat.sub_self] at g5
        (repeat (first | refine S5 ?_))
        exact ⟨(xs, li), by rw [g5]; simp [many], Sub.trans (Sub.frz (ks := [2]) 6 rfl (frzC rfl (by decide) (flC_len Ex.cl_len xs) (flC_free Ex.cl_free xs))) (Sub.down (by repeat (first | exact SubE.no _ | refine SubE.put rfl ?_)) (by repeat (first | exact SubH.no _ | refine SubH.put rfl ?_)) (by repeat (first | exact LtE.no _ | refine LtE.put rfl ?_)) (by repeat (first | exact LtH.no _ | refine LtH.put rfl rfl ?_)) rfl)⟩
      have hi2 : i < m := by
        have : (i : Int) < n := k
        omega
      obtain ⟨j, hj⟩ : ∃ j, m - i = j + 1 := ⟨m - i - 1, by omega⟩
      have hj2 : m - (i + 1) = j := by omega
      rw [hj, many] at g5
      have cx := c li (by omega) g4
      cases hrd : rd li with
      | none =>
        rw [hrd] at cx g5
        simp only [rres, rrest, PN] at cx
        have g5 : M = none := g5
        rw [g5]
        (repeat (first | refine K4 ?_ | refine S1 ?_ | refine S2 ?_ | refine S3 ?_ | refine S4 ?_))
        refine RG.call rfl rfl rfl rfl (cx) [0] rfl rfl rfl rfl (.cons rfl (.one rfl) (Reg.lt_one rfl) ⟨[], _, rfl⟩ (.nil _)) (.cons (.one rfl) (.nil _)) (fun _ h => by first | exact h | exact False.elim h) rfl rfl rfl ?_
        repeat refine RG.dead 30 rfl rfl ?_
        refine RG.done rfl ?_
        exact AW.absurd 30 rfl
      | some p =>
        obtain ⟨x, l'⟩ := p
        rw [hrd] at cx g5
        simp only [rres, rrest, PN] at cx
        obtain ⟨e1, -⟩ := hcan _ _ _ hrd
        have hsub : ∀ y, y ∈ l' → I64' y := fun y hy => g4 y (by rw [e1]; simp [hy])
        have hlen' : l'.length ≤ li.length := by rw [e1, List.length_append]; omega
        have g6 : M = (many rd j l').map (fun q => ((xs ++ [x]) ++ q.1, q.2)) := by
          rw [g5]
          simp only
          cases many rd j l' with
          | none => rfl
          | some q => simp
        have hfl : (flC Ex.cl xs).length = xs.length * 4 := flC_len Ex.cl_len xs
        have happ := flC_append Ex.cl xs [x]
        obtain ⟨Z, hZ⟩ : ∃ Z, Z = xs ++ [x] := ⟨_, rfl⟩
        have lZ : xs.length + 1 = Z.length := by rw [hZ, List.length_append]; rfl
        rw [← hZ] at happ g6
        obtain ⟨op, n, v, a⟩ := x; simp only [Ex.cl] at cx
        (repeat (first | refine K4 ?_ | refine S1 ?_ | refine S2 ?_ | refine S3 ?_ | refine S4 ?_))
        refine RG.call rfl rfl rfl rfl (cx) [0] rfl rfl rfl rfl (.cons rfl (.one rfl) (Reg.lt_one rfl) ⟨[], _, rfl⟩ (.nil _)) (.cons (.one rfl) (.nil _)) (fun _ h => by first | exact h | exact False.elim h) rfl rfl rfl ?_
        (first | refine L2 ?_)
        refine RG.append tok rfl rfl rfl rfl rfl rfl rfl rfl (n1 := xs.length) (c := flC Ex.cl xs) (ks := [2]) rfl (m := 1) (ks' := [3]) rfl rfl (by omega) rfl (by omega) (by omega) rfl (c' := flC Ex.cl Z) (by rw [List.take_of_length_le (by omega), happ]; rfl) ?_
        rw [lZ]
        (repeat (first | refine K2 ?_ | refine K4 ?_ | refine RG.d ?_ | refine S2 ?_))
        refine ⟨(i + 1, Z, l'), ⟨by dsimp only; omega, by dsimp only; omega, by dsimp only; omega, hsub, by dsimp only; rw [hj2]; exact g6⟩, by dsimp only; omega, Sub.renB sigM ?_ ?_ sigM_inj (fun a ha => sigM_hi a ha) (fun a ha => sigM_q a ha)⟩
        · exact SubEr.put rfl (SubEr.put rfl (SubEr.put rfl (SubEr.put rfl (SubEr.no _ _))))
        · exact SubHr.put rfl rfl (SubHr.putR rfl rfl (SubHr.put rfl (flC_free Ex.cl_free _) (SubHr.no _ _)))
    rintro ⟨xs, li⟩ hM'
    subst hM'
    (repeat (first | refine K4 ?_ | refine RG.d ?_ | refine S1 ?_ | refine S2 ?_ | refine S6 ?_))
    exact ⟨⟨_, rfl, rfl⟩, rfl, .cons rfl (.one rfl) (Reg.lt_one rfl) ⟨[], _, rfl⟩ (.nil _)⟩

set_option maxHeartbeats 16000000 in
set_option maxRecDepth 10000 in
theorem many_co_fc {w : Co → List Int} {ok : Co → Prop} (G : FuncId) (rd : Rdr Co) (hcan : Can rd w ok) (t : List Int) (ht : t.length < 8) (N : Nat) (hN : N ≤ 200000)
    (c : ∀ ws, ws.length < N → (∀ x, x ∈ ws → I64' x) → FC Try.prog ge G [rdrA] [.one (stB ws t)] (rres (fun x => .agg x.cl) (rd ws)) [.one (stB (rrest (rd ws)) t)] (PN (rd ws)))
    (ws : List Int) (hws : ws.length ≤ N) (hi : ∀ x, x ∈ ws → I64' x) :
    FC Try.prog ge 127 [rdrA, .fn G [rdrA] []] [.one (stB ws t)] (rres (fun xs => .ro xs.length (flC Co.cl xs)) (lst rd ws)) [.one (stB (rrest (lst rd ws)) t)] (PN (lst rd ws)) := by
  cases ws with
  | nil =>
    have cn := next_no t ht
    show FC _ _ _ _ _ A.no [.one (stB [] t)] PW
    refine FC.of_AW tok Try.func127 (by kernel_rfl) rfl Try.ntmps127 [] rfl rfl rfl ?_; intro w0 X0 Y f0 hI0 hX0
    refine S1 ?_; (repeat (first | refine K4 ?_ | refine L2 ?_ | refine RG.d ?_ | refine S2 ?_))
    refine S1 ?_; (repeat (first | refine K4 ?_ | refine L1 ?_ | refine S2 ?_))
    refine RG.call rfl rfl rfl rfl (cn) [0] rfl rfl rfl rfl (.cons rfl (.one rfl) (Reg.lt_one rfl) ⟨[], _, rfl⟩ (.nil _)) (.cons (.one rfl) (.nil _)) (fun _ h => by first | exact h | exact False.elim h) rfl rfl rfl ?_
    (repeat (first | refine K4 ?_ | refine RG.d ?_))
    exact AW.absurd 9 rfl
  | cons n l =>
    have cn := next_ok n l t (hi n (by simp)) (by simp only [List.length_cons] at hws; unfold BW; omega) ht
    simp only [List.length_cons] at hws
    obtain ⟨M, hM⟩ : ∃ M, M = lst rd (n :: l) := ⟨_, rfl⟩
    rw [← hM]
    have hq : some (A.val (.int .i64 (IntKind.i64.wrap (((8 * l.length + t.length : Nat) : Int).tdiv 8)))) = some (i64 (l.length : Int)) := by
      rw [show (((8 * l.length + t.length : Nat) : Int).tdiv 8) = (((8 * l.length + t.length) / 8 : Nat) : Int) from rfl, show (8 * l.length + t.length) / 8 = l.length by omega, wrap_i64 (by omega)]
    by_cases hneg : n < 0
    · rw [lst, if_neg (by omega)] at hM
      subst hM
      show FC _ _ _ _ _ A.no [.one (stB [] t)] PW
      refine FC.of_AW tok Try.func127 (by kernel_rfl) rfl Try.ntmps127 [] rfl rfl rfl ?_; intro w0 X0 Y f0 hI0 hX0
      refine S1 ?_; (repeat (first | refine K4 ?_ | refine L2 ?_ | refine RG.d ?_ | refine S2 ?_))
      refine S1 ?_; (repeat (first | refine K4 ?_ | refine L1 ?_ | refine S2 ?_))
      refine RG.call rfl rfl rfl rfl (cn) [0] rfl rfl rfl rfl (.cons rfl (.one rfl) (Reg.lt_one rfl) ⟨[], _, rfl⟩ (.nil _)) (.cons (.one rfl) (.nil _)) (fun _ h => by first | exact h | exact False.elim h) rfl rfl rfl ?_
      (repeat (first | refine K4 ?_ | refine RG.d ?_))
      refine S1 ?_
      (repeat (first | refine K4 ?_ | refine S1 ?_ | refine S2 ?_))
      refine RG.split 12 rfl (fun _ => ?_) (fun k => absurd hneg k)
      (repeat (first | refine K1 ?_ | refine K4 ?_ | refine RG.d ?_ | refine S2 ?_ | refine S7 ?_))
      refine RG.panic rfl rfl rfl rfl ?_
      (repeat (first | refine K4 ?_ | refine RG.d ?_ | refine S1 ?_ | refine S2 ?_ | refine S4 ?_))
      exact AW.absurd 24 rfl
    obtain ⟨m, hm⟩ : ∃ m : Nat, n = m := ⟨n.toNat, by omega⟩
    by_cases hbig : l.length < m
    · rw [lst, if_neg (by omega)] at hM
      subst hM
      show FC _ _ _ _ _ A.no [.one (stB [] t)] PW
      refine FC.of_AW tok Try.func127 (by kernel_rfl) rfl Try.ntmps127 [] rfl rfl rfl ?_; intro w0 X0 Y f0 hI0 hX0
      refine S1 ?_; (repeat (first | refine K4 ?_ | refine L2 ?_ | refine RG.d ?_ | refine S2 ?_))
      refine S1 ?_; (repeat (first | refine K4 ?_ | refine L1 ?_ | refine S2 ?_))
      refine RG.call rfl rfl rfl rfl (cn) [0] rfl rfl rfl rfl (.cons rfl (.one rfl) (Reg.lt_one rfl) ⟨[], _, rfl⟩ (.nil _)) (.cons (.one rfl) (.nil _)) (fun _ h => by first | exact h | exact False.elim h) rfl rfl rfl ?_
      (repeat (first | refine K4 ?_ | refine RG.d ?_))
      refine S1 ?_
      (repeat (first | refine K4 ?_ | refine S1 ?_ | refine S2 ?_))
      refine RG.split 12 rfl (fun k => absurd k hneg) (fun _ => ?_)
      (first | refine K4 ?_)
      (first | refine K4 ?_)
      (first | refine L1 ?_)
      (first | refine K4 ?_)
      (first | refine K4 ?_)
      (first | refine L1 ?_)
      (first | refine K4 ?_)
      refine RG.val tok rfl rfl rfl (show (8 : Int) ≠ 0 by decide) rfl hq ?_
      (repeat (first | refine K4 ?_ | refine RG.d ?_))
      refine AW.condD rfl (fun _ => ?_) (fun k => absurd (show (l.length : Int) < n by omega) k)
      (repeat (first | refine K4 ?_ | refine S2 ?_))
      refine RG.panic rfl rfl rfl rfl ?_
      (repeat (first | refine K4 ?_ | refine RG.d ?_ | refine S1 ?_ | refine S2 ?_ | refine S4 ?_))
      exact AW.absurd 24 rfl
    rw [lst, if_pos ⟨by omega, by omega⟩, show n.toNat = m by omega] at hM
    have hil : ∀ x, x ∈ l → I64' x := fun x hx => hi x (by simp [hx])
    refine FC.of_AW tok Try.func127 (by kernel_rfl) rfl Try.ntmps127 [] rfl rfl rfl ?_; intro w0 X0 Y f0 hI0 hX0
    refine S1 ?_; (repeat (first | refine K4 ?_ | refine L2 ?_ | refine RG.d ?_ | refine S2 ?_))
    refine S1 ?_; (repeat (first | refine K4 ?_ | refine L1 ?_ | refine S2 ?_))
    refine RG.call rfl rfl rfl rfl (cn) [0] rfl rfl rfl rfl (.cons rfl (.one rfl) (Reg.lt_one rfl) ⟨[], _, rfl⟩ (.nil _)) (.cons (.one rfl) (.nil _)) (fun _ h => by first | exact h | exact False.elim h) rfl rfl rfl ?_
    (repeat (first | refine K4 ?_ | refine RG.d ?_))
    refine S1 ?_
    (repeat (first | refine K4 ?_ | refine S1 ?_ | refine S2 ?_))
    refine RG.split 12 rfl (fun k => absurd k hneg) (fun _ => ?_)
    (first | refine K4 ?_)
    (first | refine K4 ?_)
    (first | refine L1 ?_)
    (first | refine K4 ?_)
    (first | refine K4 ?_)
    (first | refine L1 ?_)
    (first | refine K4 ?_)
    refine RG.val tok rfl rfl rfl (show (8 : Int) ≠ 0 by decide) rfl hq ?_
    (repeat (first | refine K4 ?_ | refine RG.d ?_))
    refine AW.condD rfl (fun k => absurd (show (l.length : Int) < n from k) (by omega)) (fun _ => ?_)
    refine S3 ?_
    refine S1 ?_; (repeat (first | refine K4 ?_ | refine RG.d ?_ | refine S2 ?_))
    refine AW.sub (Sub.nil 6 3 rfl) ?_
    refine AW.seqJ (fun p : List Co × List Int => ⟨put 6 (some (.ro p.1.length (flC Co.cl p.1))) noE, hput 0 (.one (stB p.2 t)) noH, 1⟩) (fun p => M = some (p.1, p.2)) ?_ ?_
    · refine S1 ?_; (repeat (first | refine K4 ?_ | refine RG.d ?_ | refine S2 ?_ | refine S4 ?_))
      refine AW.loopS (fun p : Nat × List Co × List Int => ⟨put 1 (some (.fn G [rdrA] [])) (put 6 (some (.sl 2 [] 3 0 p.2.1.length)) (put 25 (some (i64 n)) (put 26 (some (i64 (p.1 : Int))) noE))), hput 0 (.one (stB p.2.2 t)) (hput 1 (.one ([.ptr 0 [] 0])) (hput 2 (.one (flC Co.cl p.2.1)) noH)), 3⟩)
        (fun p => p.1 ≤ m ∧ p.2.1.length = p.1 ∧ p.2.2.length ≤ l.length ∧ (∀ x, x ∈ p.2.2 → I64' x) ∧ M = (many rd (m - p.1) p.2.2).map (fun q => (p.2.1 ++ q.1, q.2))) (fun p => m - p.1) (0, [], l) ⟨Nat.zero_le _, rfl, Nat.le_refl _, hil, by rw [hM]; cases many rd m l <;> rfl⟩ (Sub.of (by repeat (first | exact SubE.no _ | refine SubE.put rfl ?_)) (by repeat (first | exact SubH.no _ | refine SubH.put rfl ?_)) rfl) ?_
      rintro ⟨i, xs, li⟩ ⟨g1, g2, g3, g4, g5⟩
      dsimp only at g1 g2 g3 g4 g5
      (repeat (first | refine K4 ?_ | refine RG.d ?_ | refine S1 ?_ | refine S2 ?_))
      refine AW.condD rfl (fun k => ?_) (fun k => ?_)
      rotate_left
      · have hi2 : i = m := by
          have : ¬ (i : Int) < n := k
          omega
        rw [hi2, Nat.sub_self] at g5
        (repeat (first | refine S5 ?_))
        exact ⟨(xs, li), by rw [g5]; simp [many], Sub.trans (Sub.frz (ks := [2]) 6 rfl (frzC rfl (by decide) (flC_len Co.cl_len xs) (flC_free Co.cl_free xs))) (Sub.down (by repeat (first | exact SubE.no _ | refine SubE.put rfl ?_)) (by repeat (first | exact SubH.no _ | refine SubH.put rfl ?_)) (by repeat (first | exact LtE.no _ | refine LtE.put rfl ?_)) (by repeat (first | exact LtH.no _ | refine LtH.put rfl rfl ?_)) rfl)⟩
      have hi2 : i < m := by
        have : (i : Int) < n := k
        omega
      obtain ⟨j, hj⟩ : ∃ j, m - i = j + 1 := ⟨m - i - 1, by omega⟩
      have hj2 : m - (i + 1) = j := by omega
      rw [hj, many] at g5
      have cx := c li (by omega) g4
      cases hrd : rd li with
      | none =>
        rw [hrd] at cx g5
        simp only [rres, rrest, PN] at cx
        have g5 : M = none := g5
        rw [g5]
        (repeat (first | refine K4 ?_ | refine S1 ?_ | refine S2 ?_ | refine S3 ?_ | refine S4 ?_))
        refine RG.call rfl rfl rfl rfl (cx) [0] rfl rfl rfl rfl (.cons rfl (.one rfl) (Reg.lt_one rfl) ⟨[], _, rfl⟩ (.nil _)) (.cons (.one rfl) (.nil _)) (fun _ h => by first | exact h | exact False.elim h) rfl rfl rfl ?_
        repeat refine RG.dead 30 rfl rfl ?_
        refine RG.done rfl ?_
        exact AW.absurd 30 rfl
      | some p =>
        obtain ⟨x, l'⟩ := p
        rw [hrd] at cx g5
        simp only [rres, rrest, PN] at cx
        obtain ⟨e1, -⟩ := hcan _ _ _ hrd
        have hsub : ∀ y, y ∈ l' → I64' y := fun y hy => g4 y (by rw [e1]; simp [hy])
        have hlen' : l'.length ≤ li.length := by rw [e1, List.length_append]; omega
        have g6 : M = (many rd j l').map (fun q => ((xs ++ [x]) ++ q.1, q.2)) := by
          rw [g5]
          simp only
          cases many rd j l' with
          | none => rfl
          | some q => simp
        have hfl : (flC Co.cl xs).length = xs.length * 3 := flC_len Co.cl_len xs
        have happ := flC_append Co.cl xs [x]
        obtain ⟨Z, hZ⟩ : ∃ Z, Z = xs ++ [x] := ⟨_, rfl⟩
        have lZ : xs.length + 1 = Z.length := by rw [hZ, List.length_append]; rfl
        rw [← hZ] at happ g6
        obtain ⟨op, a, cc⟩ := x; simp only [Co.cl] at cx
        (repeat (first | refine K4 ?_ | refine S1 ?_ | refine S2 ?_ | refine S3 ?_ | refine S4 ?_))
        refine RG.call rfl rfl rfl rfl (cx) [0] rfl rfl rfl rfl (.cons rfl (.one rfl) (Reg.lt_one rfl) ⟨[], _, rfl⟩ (.nil _)) (.cons (.one rfl) (.nil _)) (fun _ h => by first | exact h | exact False.elim h) rfl rfl rfl ?_
        (first | refine L2 ?_)
        refine RG.append tok rfl rfl rfl rfl rfl rfl rfl rfl (n1 := xs.length) (c := flC Co.cl xs) (ks := [2]) rfl (m := 1) (ks' := [3]) rfl rfl (by omega) rfl (by omega) (by omega) rfl (c' := flC Co.cl Z) (by rw [List.take_of_length_le (by omega), happ]; rfl) ?_
        rw [lZ]
        (repeat (first | refine K2 ?_ | refine K4 ?_ | refine RG.d ?_ | refine S2 ?_))
        refine ⟨(i + 1, Z, l'), ⟨by dsimp only; omega, by dsimp only; omega, by dsimp only; omega, hsub, by dsimp only; rw [hj2]; exact g6⟩, by dsimp only; omega, Sub.renB sigM ?_ ?_ sigM_inj (fun a ha => sigM_hi a ha) (fun a ha => sigM_q a ha)⟩
        · exact SubEr.put rfl (SubEr.put rfl (SubEr.put rfl (SubEr.put rfl (SubEr.no _ _))))
        · exact SubHr.put rfl rfl (SubHr.putR rfl rfl (SubHr.put rfl (flC_free Co.cl_free _) (SubHr.no _ _)))
    rintro ⟨xs, li⟩ hM'
    subst hM'
    (repeat (first | refine K4 ?_ | refine RG.d ?_ | refine S1 ?_ | refine S2 ?_ | refine S6 ?_))
    exact ⟨⟨_, rfl, rfl⟩, rfl, .cons rfl (.one rfl) (Reg.lt_one rfl) ⟨[], _, rfl⟩ (.nil _)⟩

set_option maxHeartbeats 16000000 in
set_option maxRecDepth 10000 in
theorem many_rg_fc {w : Rg → List Int} {ok : Rg → Prop} (G : FuncId) (rd : Rdr Rg) (hcan : Can rd w ok) (t : List Int) (ht : t.length < 8) (N : Nat) (hN : N ≤ 200000)
    (c : ∀ ws, ws.length < N → (∀ x, x ∈ ws → I64' x) → FC Try.prog ge G [rdrA] [.one (stB ws t)] (rres (fun x => .agg x.cl) (rd ws)) [.one (stB (rrest (rd ws)) t)] (PN (rd ws)))
    (ws : List Int) (hws : ws.length ≤ N) (hi : ∀ x, x ∈ ws → I64' x) :
    FC Try.prog ge 78 [rdrA, .fn G [rdrA] []] [.one (stB ws t)] (rres (fun xs => .ro xs.length (flC Rg.cl xs)) (lst rd ws)) [.one (stB (rrest (lst rd ws)) t)] (PN (lst rd ws)) := by
  cases ws with
  | nil =>
    have cn := next_no t ht
    show FC _ _ _ _ _ A.no [.one (stB [] t)] PW
    refine FC.of_AW tok Try.func78 (by kernel_rfl) rfl Try.ntmps78 [] rfl rfl rfl ?_; intro w0 X0 Y f0 hI0 hX0
    refine S1 ?_; (repeat (first | refine K4 ?_ | refine L2 ?_ | refine RG.d ?_ | refine S2 ?_))
    refine S1 ?_; (repeat (first | refine K4 ?_ | refine L1 ?_ | refine S2 ?_))
    refine RG.call rfl rfl rfl rfl (cn) [0] rfl rfl rfl rfl (.cons rfl (.one rfl) (Reg.lt_one rfl) ⟨[], _, rfl⟩ (.nil _)) (.cons (.one rfl) (.nil _)) (fun _ h => by first | exact h | exact False.elim h) rfl rfl rfl ?_
    (repeat (first | refine K4 ?_ | refine RG.d ?_))
    exact AW.absurd 9 rfl
  | cons n l =>
    have cn := next_ok n l t (hi n (by simp)) (by simp only [List.length_cons] at hws; unfold BW; omega) ht
    simp only [List.length_cons] at hws
    obtain ⟨M, hM⟩ : ∃ M, M = lst rd (n :: l) := ⟨_, rfl⟩
    rw [← hM]
    have hq : some (A.val (.int .i64 (IntKind.i64.wrap (((8 * l.length + t.length : Nat) : Int).tdiv 8)))) = some (i64 (l.length : Int)) := by
      rw [show (((8 * l.length + t.length : Nat) : Int).tdiv 8) = (((8 * l.length + t.length) / 8 : Nat) : Int) from rfl, show (8 * l.length + t.length) / 8 = l.length by omega, wrap_i64 (by omega)]
    by_cases hneg : n < 0
    · rw [lst, if_neg (by omega)] at hM
      subst hM
      show FC _ _ _ _ _ A.no [.one (stB [] t)] PW
      refine FC.of_AW tok Try.func78 (by kernel_rfl) rfl Try.ntmps78 [] rfl rfl rfl ?_; intro w0 X0 Y f0 hI0 hX0
      refine S1 ?_; (repeat (first | refine K4 ?_ | refine L2 ?_ | refine RG.d ?_ | refine S2 ?_))
      refine S1 ?_; (repeat (first | refine K4 ?_ | refine L1 ?_ | refine S2 ?_))
      refine RG.call rfl rfl rfl rfl (cn) [0] rfl rfl rfl rfl (.cons rfl (.one rfl) (Reg.lt_one rfl) ⟨[], _, rfl⟩ (.nil _)) (.cons (.one rfl) (.nil _)) (fun _ h => by first | exact h | exact False.elim h) rfl rfl rfl ?_
      (repeat (first | refine K4 ?_ | refine RG.d ?_))
      refine S1 ?_
      (repeat (first | refine K4 ?_ | refine S1 ?_ | refine S2 ?_))
      refine RG.split 12 rfl (fun _ => ?_) (fun k => absurd hneg k)
      (repeat (first | refine K1 ?_ | refine K4 ?_ | refine RG.d ?_ | refine S2 ?_ | refine S7 ?_))
      refine RG.panic rfl rfl rfl rfl ?_
      (repeat (first | refine K4 ?_ | refine RG.d ?_ | refine S1 ?_ | refine S2 ?_ | refine S4 ?_))
      exact AW.absurd 24 rfl
    obtain ⟨m, hm⟩ : ∃ m : Nat, n = m := ⟨n.toNat, by omega⟩
    by_cases hbig : l.length < m
    · rw [lst, if_neg (by omega)] at hM
      subst hM
      show FC _ _ _ _ _ A.no [.one (stB [] t)] PW
      refine FC.of_AW tok Try.func78 (by kernel_rfl) rfl Try.ntmps78 [] rfl rfl rfl ?_; intro w0 X0 Y f0 hI0 hX0
      refine S1 ?_; (repeat (first | refine K4 ?_ | refine L2 ?_ | refine RG.d ?_ | refine S2 ?_))
      refine S1 ?_; (repeat (first | refine K4 ?_ | refine L1 ?_ | refine S2 ?_))
      refine RG.call rfl rfl rfl rfl (cn) [0] rfl rfl rfl rfl (.cons rfl (.one rfl) (Reg.lt_one rfl) ⟨[], _, rfl⟩ (.nil _)) (.cons (.one rfl) (.nil _)) (fun _ h => by first | exact h | exact False.elim h) rfl rfl rfl ?_
      (repeat (first | refine K4 ?_ | refine RG.d ?_))
      refine S1 ?_
      (repeat (first | refine K4 ?_ | refine S1 ?_ | refine S2 ?_))
      refine RG.split 12 rfl (fun k => absurd k hneg) (fun _ => ?_)
      (first | refine K4 ?_)
      (first | refine K4 ?_)
      (first | refine L1 ?_)
      (first | refine K4 ?_)
      (first | refine K4 ?_)
      (first | refine L1 ?_)
      (first | refine K4 ?_)
      refine RG.val tok rfl rfl rfl (show (8 : Int) ≠ 0 by decide) rfl hq ?_
      (repeat (first | refine K4 ?_ | refine RG.d ?_))
      refine AW.condD rfl (fun _ => ?_) (fun k => absurd (show (l.length : Int) < n by omega) k)
      (repeat (first | refine K4 ?_ | refine S2 ?_))
      refine RG.panic rfl rfl rfl rfl ?_
      (repeat (first | refine K4 ?_ | refine RG.d ?_ | refine S1 ?_ | refine S2 ?_ | refine S4 ?_))
      exact AW.absurd 24 rfl
    rw [lst, if_pos ⟨by omega, by omega⟩, show n.toNat = m by omega] at hM
    have hil : ∀ x, x ∈ l → I64' x := fun x hx => hi x (by simp [hx])
    refine FC.of_AW tok Try.func78 (by kernel_rfl) rfl Try.ntmps78 [] rfl rfl rfl ?_; intro w0 X0 Y f0 hI0 hX0
    refine S1 ?_; (repeat (first | refine K4 ?_ | refine L2 ?_ | refine RG.d ?_ | refine S2 ?_))
    refine S1 ?_; (repeat (first | refine K4 ?_ | refine L1 ?_ | refine S2 ?_))
    refine RG.call rfl rfl rfl rfl (cn) [0] rfl rfl rfl rfl (.cons rfl (.one rfl) (Reg.lt_one rfl) ⟨[], _, rfl⟩ (.nil _)) (.cons (.one rfl) (.nil _)) (fun _ h => by first | exact h | exact False.elim h) rfl rfl rfl ?_
    (repeat (first | refine K4 ?_ | refine RG.d ?_))
    refine S1 ?_
    (repeat (first | refine K4 ?_ | refine S1 ?_ | refine S2 ?_))
    refine RG.split 12 rfl (fun k => absurd k hneg) (fun _ => ?_)
    (first | refine K4 ?_)
    (first | refine K4 ?_)
    (first | refine L1 ?_)
    (first | refine K4 ?_)
    (first | refine K4 ?_)
    (first | refine L1 ?_)
    (first | refine K4 ?_)
    refine RG.val tok rfl rfl rfl (show (8 : Int) ≠ 0 by decide) rfl hq ?_
    (repeat (first | refine K4 ?_ | refine RG.d ?_))
    refine AW.condD rfl (fun k => absurd (show (l.length : Int) < n from k) (by omega)) (fun _ => ?_)
    refine S3 ?_
    refine S1 ?_; (repeat (first | refine K4 ?_ | refine RG.d ?_ | refine S2 ?_))
    refine AW.sub (Sub.nil 6 3 rfl) ?_
    refine AW.seqJ (fun p : List Rg × List Int => ⟨put 6 (some (.ro p.1.length (flC Rg.cl p.1))) noE, hput 0 (.one (stB p.2 t)) noH, 1⟩) (fun p => M = some (p.1, p.2)) ?_ ?_
    · refine S1 ?_; (repeat (first | refine K4 ?_ | refine RG.d ?_ | refine S2 ?_ | refine S4 ?_))
      refine AW.loopS (fun p : Nat × List Rg × List Int => ⟨put 1 (some (.fn G [rdrA] [])) (put 6 (some (.sl 2 [] 3 0 p.2.1.length)) (put 25 (some (i64 n)) (put 26 (some (i64 (p.1 : Int))) noE))), hput 0 (.one (stB p.2.2 t)) (hput 1 (.one ([.ptr 0 [] 0])) (hput 2 (.one (flC Rg.cl p.2.1)) noH)), 3⟩)
        (fun p => p.1 ≤ m ∧ p.2.1.length = p.1 ∧ p.2.2.length ≤ l.length ∧ (∀ x, x ∈ p.2.2 → I64' x) ∧ M = (many rd (m - p.1) p.2.2).map (fun q => (p.2.1 ++ q.1, q.2))) (fun p => m - p.1) (0, [], l) ⟨Nat.zero_le _, rfl, Nat.le_refl _, hil, by rw [hM]; cases many rd m l <;> rfl⟩ (Sub.of (by repeat (first | exact SubE.no _ | refine SubE.put rfl ?_)) (by repeat (first | exact SubH.no _ | refine SubH.put rfl ?_)) rfl) ?_
      rintro ⟨i, xs, li⟩ ⟨g1, g2, g3, g4, g5⟩
      dsimp only at g1 g2 g3 g4 g5
      (repeat (first | refine K4 ?_ | refine RG.d ?_ | refine S1 ?_ | refine S2 ?_))
      refine AW.condD rfl (fun k => ?_) (fun k => ?_)
      rotate_left
      · have hi2 : i = m := by
          have : ¬ (i : Int) < n := k
          omega
        rw [hi2, Nat.sub_self] at g5
        (repeat (first | refine S5 ?_))
        exact ⟨(xs, li), by rw [g5]; simp [many], Sub.trans (Sub.frz (ks := [2]) 6 rfl (frzC rfl (by decide) (flC_len Rg.cl_len xs) (flC_free (fun _ => rfl) xs))) (Sub.down (by repeat (first | exact SubE.no _ | refine SubE.put rfl ?_)) (by repeat (first | exact SubH.no _ | refine SubH.put rfl ?_)) (by repeat (first | exact LtE.no _ | refine LtE.put rfl ?_)) (by repeat (first | exact LtH.no _ | refine LtH.put rfl rfl ?_)) rfl)⟩
      have hi2 : i < m := by
        have : (i : Int) < n := k
        omega
      obtain ⟨j, hj⟩ : ∃ j, m - i = j + 1 := ⟨m - i - 1, by omega⟩
      have hj2 : m - (i + 1) = j := by omega
      rw [hj, many] at g5
      have cx := c li (by omega) g4
      cases hrd : rd li with
      | none =>
        rw [hrd] at cx g5
        simp only [rres, rrest, PN] at cx
        have g5 : M = none := g5
        rw [g5]
        (repeat (first | refine K4 ?_ | refine S1 ?_ | refine S2 ?_ | refine S3 ?_ | refine S4 ?_))
        refine RG.call rfl rfl rfl rfl (cx) [0] rfl rfl rfl rfl (.cons rfl (.one rfl) (Reg.lt_one rfl) ⟨[], _, rfl⟩ (.nil _)) (.cons (.one rfl) (.nil _)) (fun _ h => by first | exact h | exact False.elim h) rfl rfl rfl ?_
        repeat refine RG.dead 30 rfl rfl ?_
        refine RG.done rfl ?_
        exact AW.absurd 30 rfl
      | some p =>
        obtain ⟨x, l'⟩ := p
        rw [hrd] at cx g5
        simp only [rres, rrest, PN] at cx
        obtain ⟨e1, -⟩ := hcan _ _ _ hrd
        have hsub : ∀ y, y ∈ l' → I64' y := fun y hy => g4 y (by rw [e1]; simp [hy])
        have hlen' : l'.length ≤ li.length := by rw [e1, List.length_append]; omega
        have g6 : M = (many rd j l').map (fun q => ((xs ++ [x]) ++ q.1, q.2)) := by
          rw [g5]
          simp only
          cases many rd j l' with
          | none => rfl
          | some q => simp
        have hfl : (flC Rg.cl xs).length = xs.length * 3 := flC_len Rg.cl_len xs
        have happ := flC_append Rg.cl xs [x]
        obtain ⟨Z, hZ⟩ : ∃ Z, Z = xs ++ [x] := ⟨_, rfl⟩
        have lZ : xs.length + 1 = Z.length := by rw [hZ, List.length_append]; rfl
        rw [← hZ] at happ g6
        simp only [Rg.cl] at cx
        (repeat (first | refine K4 ?_ | refine S1 ?_ | refine S2 ?_ | refine S3 ?_ | refine S4 ?_))
        refine RG.call rfl rfl rfl rfl (cx) [0] rfl rfl rfl rfl (.cons rfl (.one rfl) (Reg.lt_one rfl) ⟨[], _, rfl⟩ (.nil _)) (.cons (.one rfl) (.nil _)) (fun _ h => by first | exact h | exact False.elim h) rfl rfl rfl ?_
        (first | refine L2 ?_)
        refine RG.append tok rfl rfl rfl rfl rfl rfl rfl rfl (n1 := xs.length) (c := flC Rg.cl xs) (ks := [2]) rfl (m := 1) (ks' := [3]) rfl rfl (by omega) rfl (by omega) (by omega) rfl (c' := flC Rg.cl Z) (by rw [List.take_of_length_le (by omega), happ]; rfl) ?_
        rw [lZ]
        (repeat (first | refine K2 ?_ | refine K4 ?_ | refine RG.d ?_ | refine S2 ?_))
        refine ⟨(i + 1, Z, l'), ⟨by dsimp only; omega, by dsimp only; omega, by dsimp only; omega, hsub, by dsimp only; rw [hj2]; exact g6⟩, by dsimp only; omega, Sub.renB sigM ?_ ?_ sigM_inj (fun a ha => sigM_hi a ha) (fun a ha => sigM_q a ha)⟩
        · exact SubEr.put rfl (SubEr.put rfl (SubEr.put rfl (SubEr.put rfl (SubEr.no _ _))))
        · exact SubHr.put rfl rfl (SubHr.putR rfl rfl (SubHr.put rfl (flC_free (fun _ => rfl) _) (SubHr.no _ _)))
    rintro ⟨xs, li⟩ hM'
    subst hM'
    (repeat (first | refine K4 ?_ | refine RG.d ?_ | refine S1 ?_ | refine S2 ?_ | refine S6 ?_))
    exact ⟨⟨_, rfl, rfl⟩, rfl, .cons rfl (.one rfl) (Reg.lt_one rfl) ⟨[], _, rfl⟩ (.nil _)⟩

set_option maxHeartbeats 16000000 in
set_option maxRecDepth 10000 in
theorem many_ar_fc {w : Ar → List Int} {ok : Ar → Prop} (G : FuncId) (rd : Rdr Ar) (hcan : Can rd w ok) (t : List Int) (ht : t.length < 8) (N : Nat) (hN : N ≤ 200000)
    (c : ∀ ws, ws.length < N → (∀ x, x ∈ ws → I64' x) → FC Try.prog ge G [.ptr 1 [] 0] [.one (stB ws t), .one [.ptr 0 [] 0]] (rres (fun x => .agg x.cl) (rd ws)) [.one (stB (rrest (rd ws)) t), .one [.ptr 0 [] 0]] (PN (rd ws)))
    (ws : List Int) (hws : ws.length ≤ N) (hi : ∀ x, x ∈ ws → I64' x) :
    FC Try.prog ge 106 [rdrA, .fn G [] [.ptr 1 [] 0]] [.one (stB ws t), .one [.ptr 0 [] 0]] (rres (fun xs => .ro xs.length (flC Ar.cl xs)) (lst rd ws)) [.one (stB (rrest (lst rd ws)) t), .one [.ptr 0 [] 0]] (PN (lst rd ws)) := by
  cases ws with
  | nil =>
    have cn := next_no t ht
    show FC _ _ _ _ _ A.no [.one (stB [] t), .one [.ptr 0 [] 0]] PW
    refine FC.of_AW tok Try.func106 (by kernel_rfl) rfl Try.ntmps106 [] rfl rfl rfl ?_; intro w0 X0 Y f0 hI0 hX0
    refine S1 ?_; (repeat (first | refine K4 ?_ | refine L2 ?_ | refine RG.d ?_ | refine S2 ?_))
    refine S1 ?_; (repeat (first | refine K4 ?_ | refine L1 ?_ | refine S2 ?_))
    refine RG.call rfl rfl rfl rfl (cn) [0] rfl rfl rfl rfl (.cons rfl (.one rfl) (Reg.lt_one rfl) ⟨[], _, rfl⟩ (.nil _)) (.cons (.one rfl) (.nil _)) (fun _ h => by first | exact h | exact False.elim h) rfl rfl rfl ?_
    (repeat (first | refine K4 ?_ | refine RG.d ?_))
    exact AW.absurd 9 rfl
  | cons n l =>
    have cn := next_ok n l t (hi n (by simp)) (by simp only [List.length_cons] at hws; unfold BW; omega) ht
    simp only [List.length_cons] at hws
    obtain ⟨M, hM⟩ : ∃ M, M = lst rd (n :: l) := ⟨_, rfl⟩
    rw [← hM]
    have hq : some (A.val (.int .i64 (IntKind.i64.wrap (((8 * l.length + t.length : Nat) : Int).tdiv 8)))) = some (i64 (l.length : Int)) := by
      rw [show (((8 * l.length + t.length : Nat) : Int).tdiv 8) = (((8 * l.length + t.length) / 8 : Nat) : Int) from rfl, show (8 * l.length + t.length) / 8 = l.length by omega, wrap_i64 (by omega)]
    by_cases hneg : n < 0
    · rw [lst, if_neg (by omega)] at hM
      subst hM
      show FC _ _ _ _ _ A.no [.one (stB [] t), .one [.ptr 0 [] 0]] PW
      refine FC.of_AW tok Try.func106 (by kernel_rfl) rfl Try.ntmps106 [] rfl rfl rfl ?_; intro w0 X0 Y f0 hI0 hX0
      refine S1 ?_; (repeat (first | refine K4 ?_ | refine L2 ?_ | refine RG.d ?_ | refine S2 ?_))
      refine S1 ?_; (repeat (first | refine K4 ?_ | refine L1 ?_ | refine S2 ?_))
      refine RG.call rfl rfl rfl rfl (cn) [0] rfl rfl rfl rfl (.cons rfl (.one rfl) (Reg.lt_one rfl) ⟨[], _, rfl⟩ (.nil _)) (.cons (.one rfl) (.nil _)) (fun _ h => by first | exact h | exact False.elim h) rfl rfl rfl ?_
      (repeat (first | refine K4 ?_ | refine RG.d ?_))
      refine S1 ?_
      (repeat (first | refine K4 ?_ | refine S1 ?_ | refine S2 ?_))
      refine RG.split 12 rfl (fun _ => ?_) (fun k => absurd hneg k)
      (repeat (first | refine K1 ?_ | refine K4 ?_ | refine RG.d ?_ | refine S2 ?_ | refine S7 ?_))
      refine RG.panic rfl rfl rfl rfl ?_
      (repeat (first | refine K4 ?_ | refine RG.d ?_ | refine S1 ?_ | refine S2 ?_ | refine S4 ?_))
      exact AW.absurd 24 rfl
    obtain ⟨m, hm⟩ : ∃ m : Nat, n = m := ⟨n.toNat, by omega⟩
    by_cases hbig : l.length < m
    · rw [lst, if_neg (by omega)] at hM
      subst hM
      show FC _ _ _ _ _ A.no [.one (stB [] t), .one [.ptr 0 [] 0]] PW
      refine FC.of_AW tok Try.func106 (by kernel_rfl) rfl Try.ntmps106 [] rfl rfl rfl ?_; intro w0 X0 Y f0 hI0 hX0
      refine S1 ?_; (repeat (first | refine K4 ?_ | refine L2 ?_ | refine RG.d ?_ | refine S2 ?_))
      refine S1 ?_; (repeat (first | refine K4 ?_ | refine L1 ?_ | refine S2 ?_))
      refine RG.call rfl rfl rfl rfl (cn) [0] rfl rfl rfl rfl (.cons rfl (.one rfl) (Reg.lt_one rfl) ⟨[], _, rfl⟩ (.nil _)) (.cons (.one rfl) (.nil _)) (fun _ h => by first | exact h | exact False.elim h) rfl rfl rfl ?_
      (repeat (first | refine K4 ?_ | refine RG.d ?_))
      refine S1 ?_
      (repeat (first | refine K4 ?_ | refine S1 ?_ | refine S2 ?_))
      refine RG.split 12 rfl (fun k => absurd k hneg) (fun _ => ?_)
      (first | refine K4 ?_)
      (first | refine K4 ?_)
      (first | refine L1 ?_)
      (first | refine K4 ?_)
      (first | refine K4 ?_)
      (first | refine L1 ?_)
      (first | refine K4 ?_)
      refine RG.val tok rfl rfl rfl (show (8 : Int) ≠ 0 by decide) rfl hq ?_
      (repeat (first | refine K4 ?_ | refine RG.d ?_))
      refine AW.condD rfl (fun _ => ?_) (fun k => absurd (show (l.length : Int) < n by omega) k)
      (repeat (first | refine K4 ?_ | refine S2 ?_))
      refine RG.panic rfl rfl rfl rfl ?_
      (repeat (first | refine K4 ?_ | refine RG.d ?_ | refine S1 ?_ | refine S2 ?_ | refine S4 ?_))
      exact AW.absurd 24 rfl
    rw [lst, if_pos ⟨by omega, by omega⟩, show n.toNat = m by omega] at hM
    have hil : ∀ x, x ∈ l → I64' x := fun x hx => hi x (by simp [hx])
    refine FC.of_AW tok Try.func106 (by kernel_rfl) rfl Try.ntmps106 [] rfl rfl rfl ?_; intro w0 X0 Y f0 hI0 hX0
    refine S1 ?_; (repeat (first | refine K4 ?_ | refine L2 ?_ | refine RG.d ?_ | refine S2 ?_))
    refine S1 ?_; (repeat (first | refine K4 ?_ | refine L1 ?_ | refine S2 ?_))
    refine RG.call rfl rfl rfl rfl (cn) [0] rfl rfl rfl rfl (.cons rfl (.one rfl) (Reg.lt_one rfl) ⟨[], _, rfl⟩ (.nil _)) (.cons (.one rfl) (.nil _)) (fun _ h => by first | exact h | exact False.elim h) rfl rfl rfl ?_
    (repeat (first | refine K4 ?_ | refine RG.d ?_))
    refine S1 ?_
    (repeat (first | refine K4 ?_ | refine S1 ?_ | refine S2 ?_))
    refine RG.split 12 rfl (fun k => absurd k hneg) (fun _ => ?_)
    (first | refine K4 ?_)
    (first | refine K4 ?_)
    (first | refine L1 ?_)
    (first | refine K4 ?_)
    (first | refine K4 ?_)
    (first | refine L1 ?_)
    (first | refine K4 ?_)
    refine RG.val tok rfl rfl rfl (show (8 : Int) ≠ 0 by decide) rfl hq ?_
    (repeat (first | refine K4 ?_ | refine RG.d ?_))
    refine AW.condD rfl (fun k => absurd (show (l.length : Int) < n from k) (by omega)) (fun _ => ?_)
    refine S3 ?_
    refine S1 ?_; (repeat (first | refine K4 ?_ | refine RG.d ?_ | refine S2 ?_))
    refine AW.sub (Sub.nil 6 2 rfl) ?_
    refine AW.seqJ (fun p : List Ar × List Int => ⟨put 6 (some (.ro p.1.length (flC Ar.cl p.1))) noE, hput 0 (.one (stB p.2 t)) (hput 1 (.one ([.ptr 0 [] 0])) noH), 2⟩) (fun p => M = some (p.1, p.2)) ?_ ?_
    · refine S1 ?_; (repeat (first | refine K4 ?_ | refine RG.d ?_ | refine S2 ?_ | refine S4 ?_))
      refine AW.loopS (fun p : Nat × List Ar × List Int => ⟨put 1 (some (.fn G [] [.ptr 1 [] 0])) (put 6 (some (.sl 3 [] 2 0 p.2.1.length)) (put 25 (some (i64 n)) (put 26 (some (i64 (p.1 : Int))) noE))), hput 0 (.one (stB p.2.2 t)) (hput 1 (.one ([.ptr 0 [] 0])) (hput 2 (.one ([.ptr 0 [] 0])) (hput 3 (.one (flC Ar.cl p.2.1)) noH))), 4⟩)
        (fun p => p.1 ≤ m ∧ p.2.1.length = p.1 ∧ p.2.2.length ≤ l.length ∧ (∀ x, x ∈ p.2.2 → I64' x) ∧ M = (many rd (m - p.1) p.2.2).map (fun q => (p.2.1 ++ q.1, q.2))) (fun p => m - p.1) (0, [], l) ⟨Nat.zero_le _, rfl, Nat.le_refl _, hil, by rw [hM]; cases many rd m l <;> rfl⟩ (Sub.of (by repeat (first | exact SubE.no _ | refine SubE.put rfl ?_)) (by repeat (first | exact SubH.no _ | refine SubH.put rfl ?_)) rfl) ?_
      rintro ⟨i, xs, li⟩ ⟨g1, g2, g3, g4, g5⟩
      dsimp only at g1 g2 g3 g4 g5
      (repeat (first | refine K4 ?_ | refine RG.d ?_ | refine S1 ?_ | refine S2 ?_))
      refine AW.condD rfl (fun k => ?_) (fun k => ?_)
      rotate_left
      · have hi2 : i = m := by
          have : ¬ (i : Int) < n := k
          omega
        rw [hi2, Nat.sub_self] at g5
        (repeat (first | refine S5 ?_))
        exact ⟨(xs, li), by rw [g5]; simp [many], Sub.trans (Sub.frz (ks := [3]) 6 rfl (frzC rfl (by decide) (flC_len Ar.cl_len xs) (flC_free (fun _ => rfl) xs))) (Sub.down (by repeat (first | exact SubE.no _ | refine SubE.put rfl ?_)) (by repeat (first | exact SubH.no _ | refine SubH.put rfl ?_)) (by repeat (first | exact LtE.no _ | refine LtE.put rfl ?_)) (by repeat (first | exact LtH.no _ | refine LtH.put rfl rfl ?_)) rfl)⟩
      have hi2 : i < m := by
        have : (i : Int) < n := k
        omega
      obtain ⟨j, hj⟩ : ∃ j, m - i = j + 1 := ⟨m - i - 1, by omega⟩
      have hj2 : m - (i + 1) = j := by omega
      rw [hj, many] at g5
      have cx := c li (by omega) g4
      cases hrd : rd li with
      | none =>
        rw [hrd] at cx g5
        simp only [rres, rrest, PN] at cx
        have g5 : M = none := g5
        rw [g5]
        (repeat (first | refine K4 ?_ | refine S1 ?_ | refine S2 ?_ | refine S3 ?_ | refine S4 ?_))
        refine RG.call rfl rfl rfl rfl (cx) [0, 1] rfl rfl rfl rfl (.cons rfl (.one rfl) (Reg.lt_one rfl) ⟨[], _, rfl⟩ (.cons rfl (.one rfl) (Reg.lt_one rfl) ⟨[], _, rfl⟩ (.nil _))) (.cons (.one rfl) (.cons (.one rfl) (.nil _))) (fun _ h => by first | exact h | exact False.elim h) rfl rfl rfl ?_
        repeat refine RG.dead 30 rfl rfl ?_
        refine RG.done rfl ?_
        exact AW.absurd 30 rfl
      | some p =>
        obtain ⟨x, l'⟩ := p
        rw [hrd] at cx g5
        simp only [rres, rrest, PN] at cx
        obtain ⟨e1, -⟩ := hcan _ _ _ hrd
        have hsub : ∀ y, y ∈ l' → I64' y := fun y hy => g4 y (by rw [e1]; simp [hy])
        have hlen' : l'.length ≤ li.length := by rw [e1, List.length_append]; omega
        have g6 : M = (many rd j l').map (fun q => ((xs ++ [x]) ++ q.1, q.2)) := by
          rw [g5]
          simp only
          cases many rd j l' with
          | none => rfl
          | some q => simp
        have hfl : (flC Ar.cl xs).length = xs.length * 2 := flC_len Ar.cl_len xs
        have happ := flC_append Ar.cl xs [x]
        obtain ⟨Z, hZ⟩ : ∃ Z, Z = xs ++ [x] := ⟨_, rfl⟩
        have lZ : xs.length + 1 = Z.length := by rw [hZ, List.length_append]; rfl
        rw [← hZ] at happ g6
        simp only [Ar.cl] at cx
        (repeat (first | refine K4 ?_ | refine S1 ?_ | refine S2 ?_ | refine S3 ?_ | refine S4 ?_))
        refine RG.call rfl rfl rfl rfl (cx) [0, 1] rfl rfl rfl rfl (.cons rfl (.one rfl) (Reg.lt_one rfl) ⟨[], _, rfl⟩ (.cons rfl (.one rfl) (Reg.lt_one rfl) ⟨[], _, rfl⟩ (.nil _))) (.cons (.one rfl) (.cons (.one rfl) (.nil _))) (fun _ h => by first | exact h | exact False.elim h) rfl rfl rfl ?_
        (first | refine L2 ?_)
        refine RG.append tok rfl rfl rfl rfl rfl rfl rfl rfl (n1 := xs.length) (c := flC Ar.cl xs) (ks := [3]) rfl (m := 1) (ks' := [4]) rfl rfl (by omega) rfl (by omega) (by omega) rfl (c' := flC Ar.cl Z) (by rw [List.take_of_length_le (by omega), happ]; rfl) ?_
        rw [lZ]
        (repeat (first | refine K2 ?_ | refine K4 ?_ | refine RG.d ?_ | refine S2 ?_))
        refine ⟨(i + 1, Z, l'), ⟨by dsimp only; omega, by dsimp only; omega, by dsimp only; omega, hsub, by dsimp only; rw [hj2]; exact g6⟩, by dsimp only; omega, Sub.renB sigN ?_ ?_ sigN_inj (fun a ha => sigN_hi a ha) (fun a ha => sigN_q a ha)⟩
        · exact SubEr.put rfl (SubEr.put rfl (SubEr.put rfl (SubEr.put rfl (SubEr.no _ _))))
        · exact SubHr.put rfl rfl (SubHr.putR rfl rfl (SubHr.putR rfl rfl (SubHr.put rfl (flC_free (fun _ => rfl) _) (SubHr.no _ _))))
    rintro ⟨xs, li⟩ hM'
    subst hM'
    (repeat (first | refine K4 ?_ | refine RG.d ?_ | refine S1 ?_ | refine S2 ?_ | refine S6 ?_))
    exact ⟨⟨_, rfl, rfl⟩, rfl, .cons rfl (.one rfl) (Reg.lt_one rfl) ⟨[], _, rfl⟩ (.cons rfl (.one rfl) (Reg.lt_one rfl) ⟨[], _, rfl⟩ (.nil _))⟩

set_option maxHeartbeats 16000000 in
set_option maxRecDepth 10000 in
theorem many_int_fc {w : Int → List Int} {ok : Int → Prop} (G : FuncId) (rd : Rdr Int) (hcan : Can rd w ok) (t : List Int) (ht : t.length < 8) (N : Nat) (hN : N ≤ 200000)
    (c : ∀ ws, ws.length < N → (∀ x, x ∈ ws → I64' x) → FC Try.prog ge G [.ptr 0 [] 0] [.one (stB ws t)] (rres (fun x => i64 x) (rd ws)) [.one (stB (rrest (rd ws)) t)] (PN (rd ws)))
    (ws : List Int) (hws : ws.length ≤ N) (hi : ∀ x, x ∈ ws → I64' x) :
    FC Try.prog ge 83 [rdrA, .fn G [.ptr 0 [] 0] []] [.one (stB ws t)] (rres (fun xs => .ro xs.length (flC icl xs)) (lst rd ws)) [.one (stB (rrest (lst rd ws)) t)] (PN (lst rd ws)) := by
  cases ws with
  | nil =>
    have cn := next_no t ht
    show FC _ _ _ _ _ A.no [.one (stB [] t)] PW
    refine FC.of_AW tok Try.func83 (by kernel_rfl) rfl Try.ntmps83 [] rfl rfl rfl ?_; intro w0 X0 Y f0 hI0 hX0
    refine S1 ?_; (repeat (first | refine K4 ?_ | refine L2 ?_ | refine RG.d ?_ | refine S2 ?_))
    refine S1 ?_; (repeat (first | refine K4 ?_ | refine L1 ?_ | refine S2 ?_))
    refine RG.call rfl rfl rfl rfl (cn) [0] rfl rfl rfl rfl (.cons rfl (.one rfl) (Reg.lt_one rfl) ⟨[], _, rfl⟩ (.nil _)) (.cons (.one rfl) (.nil _)) (fun _ h => by first | exact h | exact False.elim h) rfl rfl rfl ?_
    (repeat (first | refine K4 ?_ | refine RG.d ?_))
    exact AW.absurd 9 rfl
  | cons n l =>
    have cn := next_ok n l t (hi n (by simp)) (by simp only [List.length_cons] at hws; unfold BW; omega) ht
    simp only [List.length_cons] at hws
    obtain ⟨M, hM⟩ : ∃ M, M = lst rd (n :: l) := ⟨_, rfl⟩
    rw [← hM]
    have hq : some (A.val (.int .i64 (IntKind.i64.wrap (((8 * l.length + t.length : Nat) : Int).tdiv 8)))) = some (i64 (l.length : Int)) := by
      rw [show (((8 * l.length + t.length : Nat) : Int).tdiv 8) = (((8 * l.length + t.length) / 8 : Nat) : Int) from rfl, show (8 * l.length + t.length) / 8 = l.length by omega, wrap_i64 (by omega)]
    by_cases hneg : n < 0
    · rw [lst, if_neg (by omega)] at hM
      subst hM
      show FC _ _ _ _ _ A.no [.one (stB [] t)] PW
      refine FC.of_AW tok Try.func83 (by kernel_rfl) rfl Try.ntmps83 [] rfl rfl rfl ?_; intro w0 X0 Y f0 hI0 hX0
      refine S1 ?_; (repeat (first | refine K4 ?_ | refine L2 ?_ | refine RG.d ?_ | refine S2 ?_))
      refine S1 ?_; (repeat (first | refine K4 ?_ | refine L1 ?_ | refine S2 ?_))
      refine RG.call rfl rfl rfl rfl (cn) [0] rfl rfl rfl rfl (.cons rfl (.one rfl) (Reg.lt_one rfl) ⟨[], _, rfl⟩ (.nil _)) (.cons (.one rfl) (.nil _)) (fun _ h => by first | exact h | exact False.elim h) rfl rfl rfl ?_
      (repeat (first | refine K4 ?_ | refine RG.d ?_))
      refine S1 ?_
      (repeat (first | refine K4 ?_ | refine S1 ?_ | refine S2 ?_))
      refine RG.split 12 rfl (fun _ => ?_) (fun k => absurd hneg k)
      (repeat (first | refine K1 ?_ | refine K4 ?_ | refine RG.d ?_ | refine S2 ?_ | refine S7 ?_))
      refine RG.panic rfl rfl rfl rfl ?_
      (repeat (first | refine K4 ?_ | refine RG.d ?_ | refine S1 ?_ | refine S2 ?_ | refine S4 ?_))
      exact AW.absurd 24 rfl
    obtain ⟨m, hm⟩ : ∃ m : Nat, n = m := ⟨n.toNat, by omega⟩
    by_cases hbig : l.length < m
    · rw [lst, if_neg (by omega)] at hM
      subst hM
      show FC _ _ _ _ _ A.no [.one (stB [] t)] PW
      refine FC.of_AW tok Try.func83 (by kernel_rfl) rfl Try.ntmps83 [] rfl rfl rfl ?_; intro w0 X0 Y f0 hI0 hX0
      refine S1 ?_; (repeat (first | refine K4 ?_ | refine L2 ?_ | refine RG.d ?_ | refine S2 ?_))
      refine S1 ?_; (repeat (first | refine K4 ?_ | refine L1 ?_ | refine S2 ?_))
      refine RG.call rfl rfl rfl rfl (cn) [0] rfl rfl rfl rfl (.cons rfl (.one rfl) (Reg.lt_one rfl) ⟨[], _, rfl⟩ (.nil _)) (.cons (.one rfl) (.nil _)) (fun _ h => by first | exact h | exact False.elim h) rfl rfl rfl ?_
      (repeat (first | refine K4 ?_ | refine RG.d ?_))
      refine S1 ?_
      (repeat (first | refine K4 ?_ | refine S1 ?_ | refine S2 ?_))
      refine RG.split 12 rfl (fun k => absurd k hneg) (fun _ => ?_)
      (first | refine K4 ?_)
      (first | refine K4 ?_)
      (first | refine L1 ?_)
      (first | refine K4 ?_)
      (first | refine K4 ?_)
      (first | refine L1 ?_)
      (first | refine K4 ?_)
      refine RG.val tok rfl rfl rfl (show (8 : Int) ≠ 0 by decide) rfl hq ?_
      (repeat (first | refine K4 ?_ | refine RG.d ?_))
      refine AW.condD rfl (fun _ => ?_) (fun k => absurd (show (l.length : Int) < n by omega) k)
      (repeat (first | refine K4 ?_ | refine S2 ?_))
      refine RG.panic rfl rfl rfl rfl ?_
      (repeat (first | refine K4 ?_ | refine RG.d ?_ | refine S1 ?_ | refine S2 ?_ | refine S4 ?_))
      exact AW.absurd 24 rfl
    rw [lst, if_pos ⟨by omega, by omega⟩, show n.toNat = m by omega] at hM
    have hil : ∀ x, x ∈ l → I64' x := fun x hx => hi x (by simp [hx])
    refine FC.of_AW tok Try.func83 (by kernel_rfl) rfl Try.ntmps83 [] rfl rfl rfl ?_; intro w0 X0 Y f0 hI0 hX0
    refine S1 ?_; (repeat (first | refine K4 ?_ | refine L2 ?_ | refine RG.d ?_ | refine S2 ?_))
    refine S1 ?_; (repeat (first | refine K4 ?_ | refine L1 ?_ | refine S2 ?_))
    refine RG.call rfl rfl rfl rfl (cn) [0] rfl rfl rfl rfl (.cons rfl (.one rfl) (Reg.lt_one rfl) ⟨[], _, rfl⟩ (.nil _)) (.cons (.one rfl) (.nil _)) (fun _ h => by first | exact h | exact False.elim h) rfl rfl rfl ?_
    (repeat (first | refine K4 ?_ | refine RG.d ?_))
    refine S1 ?_
    (repeat (first | refine K4 ?_ | refine S1 ?_ | refine S2 ?_))
    refine RG.split 12 rfl (fun k => absurd k hneg) (fun _ => ?_)
    (first | refine K4 ?_)
    (first | refine K4 ?_)
    (first | refine L1 ?_)
    (first | refine K4 ?_)
    (first | refine K4 ?_)
    (first | refine L1 ?_)
    (first | refine K4 ?_)
    refine RG.val tok rfl rfl rfl (show (8 : Int) ≠ 0 by decide) rfl hq ?_
    (repeat (first | refine K4 ?_ | refine RG.d ?_))
    refine AW.condD rfl (fun k => absurd (show (l.length : Int) < n from k) (by omega)) (fun _ => ?_)
    refine S3 ?_
    refine S1 ?_; (repeat (first | refine K4 ?_ | refine RG.d ?_ | refine S2 ?_))
    refine AW.sub (Sub.nil 6 1 rfl) ?_
    refine AW.seqJ (fun p : List Int × List Int => ⟨put 6 (some (.ro p.1.length (flC icl p.1))) noE, hput 0 (.one (stB p.2 t)) noH, 1⟩) (fun p => M = some (p.1, p.2)) ?_ ?_
    · refine S1 ?_; (repeat (first | refine K4 ?_ | refine RG.d ?_ | refine S2 ?_ | refine S4 ?_))
      refine AW.loopS (fun p : Nat × List Int × List Int => ⟨put 1 (some (.fn G [.ptr 0 [] 0] [])) (put 6 (some (.sl 2 [] 1 0 p.2.1.length)) (put 25 (some (i64 n)) (put 26 (some (i64 (p.1 : Int))) noE))), hput 0 (.one (stB p.2.2 t)) (hput 1 (.one ([.ptr 0 [] 0])) (hput 2 (.one (flC icl p.2.1)) noH)), 3⟩)
        (fun p => p.1 ≤ m ∧ p.2.1.length = p.1 ∧ p.2.2.length ≤ l.length ∧ (∀ x, x ∈ p.2.2 → I64' x) ∧ M = (many rd (m - p.1) p.2.2).map (fun q => (p.2.1 ++ q.1, q.2))) (fun p => m - p.1) (0, [], l) ⟨Nat.zero_le _, rfl, Nat.le_refl _, hil, by rw [hM]; cases many rd m l <;> rfl⟩ (Sub.of (by repeat (first | exact SubE.no _ | refine SubE.put rfl ?_)) (by repeat (first | exact SubH.no _ | refine SubH.put rfl ?_)) rfl) ?_
      rintro ⟨i, xs, li⟩ ⟨g1, g2, g3, g4, g5⟩
      dsimp only at g1 g2 g3 g4 g5
      (repeat (first | refine K4 ?_ | refine RG.d ?_ | refine S1 ?_ | refine S2 ?_))
      refine AW.condD rfl (fun k => ?_) (fun k => ?_)
      rotate_left
      · have hi2 : i = m := by
          have : ¬ (i : Int) < n := k
          omega
        rw [hi2, Nat.sub_self] at g5
        (repeat (first | refine S5 ?_))
        exact ⟨(xs, li), by rw [g5]; simp [many], Sub.trans (Sub.frz (ks := [2]) 6 rfl (frzC rfl (by decide) (flC_len (cl := icl) (st := 1) (fun _ => rfl) xs) (flC_free (fun _ => rfl) xs))) (Sub.down (by repeat (first | exact SubE.no _ | refine SubE.put rfl ?_)) (by repeat (first | exact SubH.no _ | refine SubH.put rfl ?_)) (by repeat (first | exact LtE.no _ | refine LtE.put rfl ?_)) (by repeat (first | exact LtH.no _ | refine LtH.put rfl rfl ?_)) rfl)⟩
      have hi2 : i < m := by
        have : (i : Int) < n := k
        omega
      obtain ⟨j, hj⟩ : ∃ j, m - i = j + 1 := ⟨m - i - 1, by omega⟩
      have hj2 : m - (i + 1) = j := by omega
      rw [hj, many] at g5
      have cx := c li (by omega) g4
      cases hrd : rd li with
      | none =>
        rw [hrd] at cx g5
        simp only [rres, rrest, PN] at cx
        have g5 : M = none := g5
        rw [g5]
        (repeat (first | refine K4 ?_ | refine S1 ?_ | refine S2 ?_ | refine S3 ?_ | refine S4 ?_))
        refine RG.call rfl rfl rfl rfl (cx) [0] rfl rfl rfl rfl (.cons rfl (.one rfl) (Reg.lt_one rfl) ⟨[], _, rfl⟩ (.nil _)) (.cons (.one rfl) (.nil _)) (fun _ h => by first | exact h | exact False.elim h) rfl rfl rfl ?_
        repeat refine RG.dead 30 rfl rfl ?_
        refine RG.done rfl ?_
        exact AW.absurd 30 rfl
      | some p =>
        obtain ⟨x, l'⟩ := p
        rw [hrd] at cx g5
        simp only [rres, rrest, PN] at cx
        obtain ⟨e1, -⟩ := hcan _ _ _ hrd
        have hsub : ∀ y, y ∈ l' → I64' y := fun y hy => g4 y (by rw [e1]; simp [hy])
        have hlen' : l'.length ≤ li.length := by rw [e1, List.length_append]; omega
        have g6 : M = (many rd j l').map (fun q => ((xs ++ [x]) ++ q.1, q.2)) := by
          rw [g5]
          simp only
          cases many rd j l' with
          | none => rfl
          | some q => simp
        have hfl : (flC icl xs).length = xs.length * 1 := flC_len (cl := icl) (st := 1) (fun _ => rfl) xs
        have happ := flC_append icl xs [x]
        obtain ⟨Z, hZ⟩ : ∃ Z, Z = xs ++ [x] := ⟨_, rfl⟩
        have lZ : xs.length + 1 = Z.length := by rw [hZ, List.length_append]; rfl
        rw [← hZ] at happ g6
        skip
        (repeat (first | refine K4 ?_ | refine S1 ?_ | refine S2 ?_ | refine S3 ?_ | refine S4 ?_))
        refine RG.call rfl rfl rfl rfl (cx) [0] rfl rfl rfl rfl (.cons rfl (.one rfl) (Reg.lt_one rfl) ⟨[], _, rfl⟩ (.nil _)) (.cons (.one rfl) (.nil _)) (fun _ h => by first | exact h | exact False.elim h) rfl rfl rfl ?_
        (first | refine L2 ?_)
        refine RG.append tok rfl rfl rfl rfl rfl rfl rfl rfl (n1 := xs.length) (c := flC icl xs) (ks := [2]) rfl (m := 1) (ks' := [3]) rfl rfl (by omega) rfl (by omega) (by omega) rfl (c' := flC icl Z) (by rw [List.take_of_length_le (by omega), happ]; rfl) ?_
        rw [lZ]
        (repeat (first | refine K2 ?_ | refine K4 ?_ | refine RG.d ?_ | refine S2 ?_))
        refine ⟨(i + 1, Z, l'), ⟨by dsimp only; omega, by dsimp only; omega, by dsimp only; omega, hsub, by dsimp only; rw [hj2]; exact g6⟩, by dsimp only; omega, Sub.renB sigM ?_ ?_ sigM_inj (fun a ha => sigM_hi a ha) (fun a ha => sigM_q a ha)⟩
        · exact SubEr.put rfl (SubEr.put rfl (SubEr.put rfl (SubEr.put rfl (SubEr.no _ _))))
        · exact SubHr.put rfl rfl (SubHr.putR rfl rfl (SubHr.put rfl (flC_free (fun _ => rfl) _) (SubHr.no _ _)))
    rintro ⟨xs, li⟩ hM'
    subst hM'
    (repeat (first | refine K4 ?_ | refine RG.d ?_ | refine S1 ?_ | refine S2 ?_ | refine S6 ?_))
    exact ⟨⟨_, rfl, rfl⟩, rfl, .cons rfl (.one rfl) (Reg.lt_one rfl) ⟨[], _, rfl⟩ (.nil _)⟩

set_option maxHeartbeats 16000000 in
set_option maxRecDepth 10000 in
theorem many_byte_fc {w : Int → List Int} {ok : Int → Prop} (G : FuncId) (rd : Rdr Int) (hcan : Can rd w ok) (t : List Int) (ht : t.length < 8) (N : Nat) (hN : N ≤ 200000)
    (c : ∀ ws, ws.length < N → (∀ x, x ∈ ws → I64' x) → FC Try.prog ge G [rdrA] [.one (stB ws t)] (rres (fun x => .val (.int .u8 x)) (rd ws)) [.one (stB (rrest (rd ws)) t)] (PN (rd ws)))
    (ws : List Int) (hws : ws.length ≤ N) (hi : ∀ x, x ∈ ws → I64' x) :
    FC Try.prog ge 104 [rdrA, .fn G [rdrA] []] [.one (stB ws t)] (rres (fun xs => .ro xs.length (flC bcl xs)) (lst rd ws)) [.one (stB (rrest (lst rd ws)) t)] (PN (lst rd ws)) := by
  cases ws with
  | nil =>
    have cn := next_no t ht
    show FC _ _ _ _ _ A.no [.one (stB [] t)] PW
    refine FC.of_AW tok Try.func104 (by kernel_rfl) rfl Try.ntmps104 [] rfl rfl rfl ?_; intro w0 X0 Y f0 hI0 hX0
    refine S1 ?_; (repeat (first | refine K4 ?_ | refine L2 ?_ | refine RG.d ?_ | refine S2 ?_))
    refine S1 ?_; (repeat (first | refine K4 ?_ | refine L1 ?_ | refine S2 ?_))
    refine RG.call rfl rfl rfl rfl (cn) [0] rfl rfl rfl rfl (.cons rfl (.one rfl) (Reg.lt_one rfl) ⟨[], _, rfl⟩ (.nil _)) (.cons (.one rfl) (.nil _)) (fun _ h => by first | exact h | exact False.elim h) rfl rfl rfl ?_
    (repeat (first | refine K4 ?_ | refine RG.d ?_))
    exact AW.absurd 9 rfl
  | cons n l =>
    have cn := next_ok n l t (hi n (by simp)) (by simp only [List.length_cons] at hws; unfold BW; omega) ht
    simp only [List.length_cons] at hws
    obtain ⟨M, hM⟩ : ∃ M, M = lst rd (n :: l) := ⟨_, rfl⟩
    rw [← hM]
    have hq : some (A.val (.int .i64 (IntKind.i64.wrap (((8 * l.length + t.length : Nat) : Int).tdiv 8)))) = some (i64 (l.length : Int)) := by
      rw [show (((8 * l.length + t.length : Nat) : Int).tdiv 8) = (((8 * l.length + t.length) / 8 : Nat) : Int) from rfl, show (8 * l.length + t.length) / 8 = l.length by omega, wrap_i64 (by omega)]
    by_cases hneg : n < 0
    · rw [lst, if_neg (by omega)] at hM
      subst hM
      show FC _ _ _ _ _ A.no [.one (stB [] t)] PW
      refine FC.of_AW tok Try.func104 (by kernel_rfl) rfl Try.ntmps104 [] rfl rfl rfl ?_; intro w0 X0 Y f0 hI0 hX0
      refine S1 ?_; (repeat (first | refine K4 ?_ | refine L2 ?_ | refine RG.d ?_ | refine S2 ?_))
      refine S1 ?_; (repeat (first | refine K4 ?_ | refine L1 ?_ | refine S2 ?_))
      refine RG.call rfl rfl rfl rfl (cn) [0] rfl rfl rfl rfl (.cons rfl (.one rfl) (Reg.lt_one rfl) ⟨[], _, rfl⟩ (.nil _)) (.cons (.one rfl) (.nil _)) (fun _ h => by first | exact h | exact False.elim h) rfl rfl rfl ?_
      (repeat (first | refine K4 ?_ | refine RG.d ?_))
      refine S1 ?_
      (repeat (first | refine K4 ?_ | refine S1 ?_ | refine S2 ?_))
      refine RG.split 12 rfl (fun _ => ?_) (fun k => absurd hneg k)
      (repeat (first | refine K1 ?_ | refine K4 ?_ | refine RG.d ?_ | refine S2 ?_ | refine S7 ?_))
      refine RG.panic rfl rfl rfl rfl ?_
      (repeat (first | refine K4 ?_ | refine RG.d ?_ | refine S1 ?_ | refine S2 ?_ | refine S4 ?_))
      exact AW.absurd 24 rfl
    obtain ⟨m, hm⟩ : ∃ m : Nat, n = m := ⟨n.toNat, by omega⟩
    by_cases hbig : l.length < m
    · rw [lst, if_neg (by omega)] at hM
      subst hM
      show FC _ _ _ _ _ A.no [.one (stB [] t)] PW
      refine FC.of_AW tok Try.func104 (by kernel_rfl) rfl Try.ntmps104 [] rfl rfl rfl ?_; intro w0 X0 Y f0 hI0 hX0
      refine S1 ?_; (repeat (first | refine K4 ?_ | refine L2 ?_ | refine RG.d ?_ | refine S2 ?_))
      refine S1 ?_; (repeat (first | refine K4 ?_ | refine L1 ?_ | refine S2 ?_))
      refine RG.call rfl rfl rfl rfl (cn) [0] rfl rfl rfl rfl (.cons rfl (.one rfl) (Reg.lt_one rfl) ⟨[], _, rfl⟩ (.nil _)) (.cons (.one rfl) (.nil _)) (fun _ h => by first | exact h | exact False.elim h) rfl rfl rfl ?_
      (repeat (first | refine K4 ?_ | refine RG.d ?_))
      refine S1 ?_
      (repeat (first | refine K4 ?_ | refine S1 ?_ | refine S2 ?_))
      refine RG.split 12 rfl (fun k => absurd k hneg) (fun _ => ?_)
      (first | refine K4 ?_)
      (first | refine K4 ?_)
      (first | refine L1 ?_)
      (first | refine K4 ?_)
      (first | refine K4 ?_)
      (first | refine L1 ?_)
      (first | refine K4 ?_)
      refine RG.val tok rfl rfl rfl (show (8 : Int) ≠ 0 by decide) rfl hq ?_
      (repeat (first | refine K4 ?_ | refine RG.d ?_))
      refine AW.condD rfl (fun _ => ?_) (fun k => absurd (show (l.length : Int) < n by omega) k)
      (repeat (first | refine K4 ?_ | refine S2 ?_))
      refine RG.panic rfl rfl rfl rfl ?_
      (repeat (first | refine K4 ?_ | refine RG.d ?_ | refine S1 ?_ | refine S2 ?_ | refine S4 ?_))
      exact AW.absurd 24 rfl
    rw [lst, if_pos ⟨by omega, by omega⟩, show n.toNat = m by omega] at hM
    have hil : ∀ x, x ∈ l → I64' x := fun x hx => hi x (by simp [hx])
    refine FC.of_AW tok Try.func104 (by kernel_rfl) rfl Try.ntmps104 [] rfl rfl rfl ?_; intro w0 X0 Y f0 hI0 hX0
    refine S1 ?_; (repeat (first | refine K4 ?_ | refine L2 ?_ | refine RG.d ?_ | refine S2 ?_))
    refine S1 ?_; (repeat (first | refine K4 ?_ | refine L1 ?_ | refine S2 ?_))
    refine RG.call rfl rfl rfl rfl (cn) [0] rfl rfl rfl rfl (.cons rfl (.one rfl) (Reg.lt_one rfl) ⟨[], _, rfl⟩ (.nil _)) (.cons (.one rfl) (.nil _)) (fun _ h => by first | exact h | exact False.elim h) rfl rfl rfl ?_
    (repeat (first | refine K4 ?_ | refine RG.d ?_))
    refine S1 ?_
    (repeat (first | refine K4 ?_ | refine S1 ?_ | refine S2 ?_))
    refine RG.split 12 rfl (fun k => absurd k hneg) (fun _ => ?_)
    (first | refine K4 ?_)
    (first | refine K4 ?_)
    (first | refine L1 ?_)
    (first | refine K4 ?_)
    (first | refine K4 ?_)
    (first | refine L1 ?_)
    (first | refine K4 ?_)
    refine RG.val tok rfl rfl rfl (show (8 : Int) ≠ 0 by decide) rfl hq ?_
    (repeat (first | refine K4 ?_ | refine RG.d ?_))
    refine AW.condD rfl (fun k => absurd (show (l.length : Int) < n from k) (by omega)) (fun _ => ?_)
    refine S3 ?_
    refine S1 ?_; (repeat (first | refine K4 ?_ | refine RG.d ?_ | refine S2 ?_))
    refine AW.sub (Sub.nil 6 1 rfl) ?_
    refine AW.seqJ (fun p : List Int × List Int => ⟨put 6 (some (.ro p.1.length (flC bcl p.1))) noE, hput 0 (.one (stB p.2 t)) noH, 1⟩) (fun p => M = some (p.1, p.2)) ?_ ?_
    · refine S1 ?_; (repeat (first | refine K4 ?_ | refine RG.d ?_ | refine S2 ?_ | refine S4 ?_))
      refine AW.loopS (fun p : Nat × List Int × List Int => ⟨put 1 (some (.fn G [rdrA] [])) (put 6 (some (.sl 2 [] 1 0 p.2.1.length)) (put 25 (some (i64 n)) (put 26 (some (i64 (p.1 : Int))) noE))), hput 0 (.one (stB p.2.2 t)) (hput 1 (.one ([.ptr 0 [] 0])) (hput 2 (.one (flC bcl p.2.1)) noH)), 3⟩)
        (fun p => p.1 ≤ m ∧ p.2.1.length = p.1 ∧ p.2.2.length ≤ l.length ∧ (∀ x, x ∈ p.2.2 → I64' x) ∧ M = (many rd (m - p.1) p.2.2).map (fun q => (p.2.1 ++ q.1, q.2))) (fun p => m - p.1) (0, [], l) ⟨Nat.zero_le _, rfl, Nat.le_refl _, hil, by rw [hM]; cases many rd m l <;> rfl⟩ (Sub.of (by repeat (first | exact SubE.no _ | refine SubE.put rfl ?_)) (by repeat (first | exact SubH.no _ | refine SubH.put rfl ?_)) rfl) ?_
      rintro ⟨i, xs, li⟩ ⟨g1, g2, g3, g4, g5⟩
      dsimp only at g1 g2 g3 g4 g5
      (repeat (first | refine K4 ?_ | refine RG.d ?_ | refine S1 ?_ | refine S2 ?_))
      refine AW.condD rfl (fun k => ?_) (fun k => ?_)
      rotate_left
      · have hi2 : i = m := by
          have : ¬ (i : Int) < n := k
          omega
        rw [hi2, Nat.sub_self] at g5
        (repeat (first | refine S5 ?_))
        exact ⟨(xs, li), by rw [g5]; simp [many], Sub.trans (Sub.frz (ks := [2]) 6 rfl (frzC rfl (by decide) (flC_len (cl := bcl) (st := 1) (fun _ => rfl) xs) (flC_free (fun _ => rfl) xs))) (Sub.down (by repeat (first | exact SubE.no _ | refine SubE.put rfl ?_)) (by repeat (first | exact SubH.no _ | refine SubH.put rfl ?_)) (by repeat (first | exact LtE.no _ | refine LtE.put rfl ?_)) (by repeat (first | exact LtH.no _ | refine LtH.put rfl rfl ?_)) rfl)⟩
      have hi2 : i < m := by
        have : (i : Int) < n := k
        omega
      obtain ⟨j, hj⟩ : ∃ j, m - i = j + 1 := ⟨m - i - 1, by omega⟩
      have hj2 : m - (i + 1) = j := by omega
      rw [hj, many] at g5
      have cx := c li (by omega) g4
      cases hrd : rd li with
      | none =>
        rw [hrd] at cx g5
        simp only [rres, rrest, PN] at cx
        have g5 : M = none := g5
        rw [g5]
        (repeat (first | refine K4 ?_ | refine S1 ?_ | refine S2 ?_ | refine S3 ?_ | refine S4 ?_))
        refine RG.call rfl rfl rfl rfl (cx) [0] rfl rfl rfl rfl (.cons rfl (.one rfl) (Reg.lt_one rfl) ⟨[], _, rfl⟩ (.nil _)) (.cons (.one rfl) (.nil _)) (fun _ h => by first | exact h | exact False.elim h) rfl rfl rfl ?_
        repeat refine RG.dead 30 rfl rfl ?_
        refine RG.done rfl ?_
        exact AW.absurd 30 rfl
      | some p =>
        obtain ⟨x, l'⟩ := p
        rw [hrd] at cx g5
        simp only [rres, rrest, PN] at cx
        obtain ⟨e1, -⟩ := hcan _ _ _ hrd
        have hsub : ∀ y, y ∈ l' → I64' y := fun y hy => g4 y (by rw [e1]; simp [hy])
        have hlen' : l'.length ≤ li.length := by rw [e1, List.length_append]; omega
        have g6 : M = (many rd j l').map (fun q => ((xs ++ [x]) ++ q.1, q.2)) := by
          rw [g5]
          simp only
          cases many rd j l' with
          | none => rfl
          | some q => simp
        have hfl : (flC bcl xs).length = xs.length * 1 := flC_len (cl := bcl) (st := 1) (fun _ => rfl) xs
        have happ := flC_append bcl xs [x]
        obtain ⟨Z, hZ⟩ : ∃ Z, Z = xs ++ [x] := ⟨_, rfl⟩
        have lZ : xs.length + 1 = Z.length := by rw [hZ, List.length_append]; rfl
        rw [← hZ] at happ g6
        skip
        (repeat (first | refine K4 ?_ | refine S1 ?_ | refine S2 ?_ | refine S3 ?_ | refine S4 ?_))
        refine RG.call rfl rfl rfl rfl (cx) [0] rfl rfl rfl rfl (.cons rfl (.one rfl) (Reg.lt_one rfl) ⟨[], _, rfl⟩ (.nil _)) (.cons (.one rfl) (.nil _)) (fun _ h => by first | exact h | exact False.elim h) rfl rfl rfl ?_
        (first | refine L2 ?_)
        refine RG.append tok rfl rfl rfl rfl rfl rfl rfl rfl (n1 := xs.length) (c := flC bcl xs) (ks := [2]) rfl (m := 1) (ks' := [3]) rfl rfl (by omega) rfl (by omega) (by omega) rfl (c' := flC bcl Z) (by rw [List.take_of_length_le (by omega), happ]; rfl) ?_
        rw [lZ]
        (repeat (first | refine K2 ?_ | refine K4 ?_ | refine RG.d ?_ | refine S2 ?_))
        refine ⟨(i + 1, Z, l'), ⟨by dsimp only; omega, by dsimp only; omega, by dsimp only; omega, hsub, by dsimp only; rw [hj2]; exact g6⟩, by dsimp only; omega, Sub.renB sigM ?_ ?_ sigM_inj (fun a ha => sigM_hi a ha) (fun a ha => sigM_q a ha)⟩
        · exact SubEr.put rfl (SubEr.put rfl (SubEr.put rfl (SubEr.put rfl (SubEr.no _ _))))
        · exact SubHr.put rfl rfl (SubHr.putR rfl rfl (SubHr.put rfl (flC_free (fun _ => rfl) _) (SubHr.no _ _)))
    rintro ⟨xs, li⟩ hM'
    subst hM'
    (repeat (first | refine K4 ?_ | refine RG.d ?_ | refine S1 ?_ | refine S2 ?_ | refine S6 ?_))
    exact ⟨⟨_, rfl, rfl⟩, rfl, .cons rfl (.one rfl) (Reg.lt_one rfl) ⟨[], _, rfl⟩ (.nil _)⟩

set_option maxHeartbeats 16000000 in
set_option maxRecDepth 10000 in
theorem many_sm_fc {w : Sm → List Int} {ok : Sm → Prop} (G : FuncId) (rd : Rdr Sm) (hcan : Can rd w ok) (t : List Int) (ht : t.length < 8) (N : Nat) (hN : N ≤ 200000)
    (c : ∀ ws, ws.length < N → (∀ x, x ∈ ws → I64' x) → FC Try.prog ge G [rdrA] [.one (stB ws t)] (rres (fun x => .agg x.cl) (rd ws)) [.one (stB (rrest (rd ws)) t)] (PN (rd ws)))
    (ws : List Int) (hws : ws.length ≤ N) (hi : ∀ x, x ∈ ws → I64' x) :
    FC Try.prog ge 108 [rdrA, .fn G [rdrA] []] [.one (stB ws t)] (rres (fun xs => .ro xs.length (flC Sm.cl xs)) (lst rd ws)) [.one (stB (rrest (lst rd ws)) t)] (PN (lst rd ws)) := by
  cases ws with
  | nil =>
    have cn := next_no t ht
    show FC _ _ _ _ _ A.no [.one (stB [] t)] PW
    refine FC.of_AW tok Try.func108 (by kernel_rfl) rfl Try.ntmps108 [] rfl rfl rfl ?_; intro w0 X0 Y f0 hI0 hX0
    refine S1 ?_; (repeat (first | refine K4 ?_ | refine L2 ?_ | refine RG.d ?_ | refine S2 ?_))
    refine S1 ?_; (repeat (first | refine K4 ?_ | refine L1 ?_ | refine S2 ?_))
    refine RG.call rfl rfl rfl rfl (cn) [0] rfl rfl rfl rfl (.cons rfl (.one rfl) (Reg.lt_one rfl) ⟨[], _, rfl⟩ (.nil _)) (.cons (.one rfl) (.nil _)) (fun _ h => by first | exact h | exact False.elim h) rfl rfl rfl ?_
    (repeat (first | refine K4 ?_ | refine RG.d ?_))
    exact AW.absurd 9 rfl
  | cons n l =>
    have cn := next_ok n l t (hi n (by simp)) (by simp only [List.length_cons] at hws; unfold BW; omega) ht
    simp only [List.length_cons] at hws
    obtain ⟨M, hM⟩ : ∃ M, M = lst rd (n :: l) := ⟨_, rfl⟩
    rw [← hM]
    have hq : some (A.val (.int .i64 (IntKind.i64.wrap (((8 * l.length + t.length : Nat) : Int).tdiv 8)))) = some (i64 (l.length : Int)) := by
      rw [show (((8 * l.length + t.length : Nat) : Int).tdiv 8) = (((8 * l.length + t.length) / 8 : Nat) : Int) from rfl, show (8 * l.length + t.length) / 8 = l.length by omega, wrap_i64 (by omega)]
    by_cases hneg : n < 0
    · rw [lst, if_neg (by omega)] at hM
      subst hM
      show FC _ _ _ _ _ A.no [.one (stB [] t)] PW
      refine FC.of_AW tok Try.func108 (by kernel_rfl) rfl Try.ntmps108 [] rfl rfl rfl ?_; intro w0 X0 Y f0 hI0 hX0
      refine S1 ?_; (repeat (first | refine K4 ?_ | refine L2 ?_ | refine RG.d ?_ | refine S2 ?_))
      refine S1 ?_; (repeat (first | refine K4 ?_ | refine L1 ?_ | refine S2 ?_))
      refine RG.call rfl rfl rfl rfl (cn) [0] rfl rfl rfl rfl (.cons rfl (.one rfl) (Reg.lt_one rfl) ⟨[], _, rfl⟩ (.nil _)) (.cons (.one rfl) (.nil _)) (fun _ h => by first | exact h | exact False.elim h) rfl rfl rfl ?_
      (repeat (first | refine K4 ?_ | refine RG.d ?_))
      refine S1 ?_
      (repeat (first | refine K4 ?_ | refine S1 ?_ | refine S2 ?_))
      refine RG.split 12 rfl (fun _ => ?_) (fun k => absurd hneg k)
      (repeat (first | refine K1 ?_ | refine K4 ?_ | refine RG.d ?_ | refine S2 ?_ | refine S7 ?_))
      refine RG.panic rfl rfl rfl rfl ?_
      (repeat (first | refine K4 ?_ | refine RG.d ?_ | refine S1 ?_ | refine S2 ?_ | refine S4 ?_))
      exact AW.absurd 24 rfl
    obtain ⟨m, hm⟩ : ∃ m : Nat, n = m := ⟨n.toNat, by omega⟩
    by_cases hbig : l.length < m
    · rw [lst, if_neg (by omega)] at hM
      subst hM
      show FC _ _ _ _ _ A.no [.one (stB [] t)] PW
      refine FC.of_AW tok Try.func108 (by kernel_rfl) rfl Try.ntmps108 [] rfl rfl rfl ?_; intro w0 X0 Y f0 hI0 hX0
      refine S1 ?_; (repeat (first | refine K4 ?_ | refine L2 ?_ | refine RG.d ?_ | refine S2 ?_))
      refine S1 ?_; (repeat (first | refine K4 ?_ | refine L1 ?_ | refine S2 ?_))
      refine RG.call rfl rfl rfl rfl (cn) [0] rfl rfl rfl rfl (.cons rfl (.one rfl) (Reg.lt_one rfl) ⟨[], _, rfl⟩ (.nil _)) (.cons (.one rfl) (.nil _)) (fun _ h => by first | exact h | exact False.elim h) rfl rfl rfl ?_
      (repeat (first | refine K4 ?_ | refine RG.d ?_))
      refine S1 ?_
      (repeat (first | refine K4 ?_ | refine S1 ?_ | refine S2 ?_))
      refine RG.split 12 rfl (fun k => absurd k hneg) (fun _ => ?_)
      (first | refine K4 ?_)
      (first | refine K4 ?_)
      (first | refine L1 ?_)
      (first | refine K4 ?_)
      (first | refine K4 ?_)
      (first | refine L1 ?_)
      (first | refine K4 ?_)
      refine RG.val tok rfl rfl rfl (show (8 : Int) ≠ 0 by decide) rfl hq ?_
      (repeat (first | refine K4 ?_ | refine RG.d ?_))
      refine AW.condD rfl (fun _ => ?_) (fun k => absurd (show (l.length : Int) < n by omega) k)
      (repeat (first | refine K4 ?_ | refine S2 ?_))
      refine RG.panic rfl rfl rfl rfl ?_
      (repeat (first | refine K4 ?_ | refine RG.d ?_ | refine S1 ?_ | refine S2 ?_ | refine S4 ?_))
      exact AW.absurd 24 rfl
    rw [lst, if_pos ⟨by omega, by omega⟩, show n.toNat = m by omega] at hM
    have hil : ∀ x, x ∈ l → I64' x := fun x hx => hi x (by simp [hx])
    refine FC.of_AW tok Try.func108 (by kernel_rfl) rfl Try.ntmps108 [] rfl rfl rfl ?_; intro w0 X0 Y f0 hI0 hX0
    refine S1 ?_; (repeat (first | refine K4 ?_ | refine L2 ?_ | refine RG.d ?_ | refine S2 ?_))
    refine S1 ?_; (repeat (first | refine K4 ?_ | refine L1 ?_ | refine S2 ?_))
    refine RG.call rfl rfl rfl rfl (cn) [0] rfl rfl rfl rfl (.cons rfl (.one rfl) (Reg.lt_one rfl) ⟨[], _, rfl⟩ (.nil _)) (.cons (.one rfl) (.nil _)) (fun _ h => by first | exact h | exact False.elim h) rfl rfl rfl ?_
    (repeat (first | refine K4 ?_ | refine RG.d ?_))
    refine S1 ?_
    (repeat (first | refine K4 ?_ | refine S1 ?_ | refine S2 ?_))
    refine RG.split 12 rfl (fun k => absurd k hneg) (fun _ => ?_)
    (first | refine K4 ?_)
    (first | refine K4 ?_)
    (first | refine L1 ?_)
    (first | refine K4 ?_)
    (first | refine K4 ?_)
    (first | refine L1 ?_)
    (first | refine K4 ?_)
    refine RG.val tok rfl rfl rfl (show (8 : Int) ≠ 0 by decide) rfl hq ?_
    (repeat (first | refine K4 ?_ | refine RG.d ?_))
    refine AW.condD rfl (fun k => absurd (show (l.length : Int) < n from k) (by omega)) (fun _ => ?_)
    refine S3 ?_
    refine S1 ?_; (repeat (first | refine K4 ?_ | refine RG.d ?_ | refine S2 ?_))
    refine AW.sub (Sub.nil 6 20 rfl) ?_
    refine AW.seqJ (fun p : List Sm × List Int => ⟨put 6 (some (.ro p.1.length (flC Sm.cl p.1))) noE, hput 0 (.one (stB p.2 t)) noH, 1⟩) (fun p => M = some (p.1, p.2)) ?_ ?_
    · refine S1 ?_; (repeat (first | refine K4 ?_ | refine RG.d ?_ | refine S2 ?_ | refine S4 ?_))
      refine AW.loopS (fun p : Nat × List Sm × List Int => ⟨put 1 (some (.fn G [rdrA] [])) (put 6 (some (.sl 2 [] 20 0 p.2.1.length)) (put 25 (some (i64 n)) (put 26 (some (i64 (p.1 : Int))) noE))), hput 0 (.one (stB p.2.2 t)) (hput 1 (.one ([.ptr 0 [] 0])) (hput 2 (.one (flC Sm.cl p.2.1)) noH)), 3⟩)
        (fun p => p.1 ≤ m ∧ p.2.1.length = p.1 ∧ p.2.2.length ≤ l.length ∧ (∀ x, x ∈ p.2.2 → I64' x) ∧ M = (many rd (m - p.1) p.2.2).map (fun q => (p.2.1 ++ q.1, q.2))) (fun p => m - p.1) (0, [], l) ⟨Nat.zero_le _, rfl, Nat.le_refl _, hil, by rw [hM]; cases many rd m l <;> rfl⟩ (Sub.of (by repeat (first | exact SubE.no _ | refine SubE.put rfl ?_)) (by repeat (first | exact SubH.no _ | refine SubH.put rfl ?_)) rfl) ?_
      rintro ⟨i, xs, li⟩ ⟨g1, g2, g3, g4, g5⟩
      dsimp only at g1 g2 g3 g4 g5
      (repeat (first | refine K4 ?_ | refine RG.d ?_ | refine S1 ?_ | refine S2 ?_))
      refine AW.condD rfl (fun k => ?_) (fun k => ?_)
      rotate_left
      · have hi2 : i = m := by
          have : ¬ (i : Int) < n := k
          omega
        rw [hi2, Nat.sub_self] at g5
        (repeat (first | refine S5 ?_))
        exact ⟨(xs, li), by rw [g5]; simp [many], Sub.trans (Sub.frz (ks := [2]) 6 rfl (frzC rfl (by decide) (flC_len Sm.cl_len xs) (flC_free Sm.cl_free xs))) (Sub.down (by repeat (first | exact SubE.no _ | refine SubE.put rfl ?_)) (by repeat (first | exact SubH.no _ | refine SubH.put rfl ?_)) (by repeat (first | exact LtE.no _ | refine LtE.put rfl ?_)) (by repeat (first | exact LtH.no _ | refine LtH.put rfl rfl ?_)) rfl)⟩
      have hi2 : i < m := by
        have : (i : Int) < n := k
        omega
      obtain ⟨j, hj⟩ : ∃ j, m - i = j + 1 := ⟨m - i - 1, by omega⟩
      have hj2 : m - (i + 1) = j := by omega
      rw [hj, many] at g5
      have cx := c li (by omega) g4
      cases hrd : rd li with
      | none =>
        rw [hrd] at cx g5
        simp only [rres, rrest, PN] at cx
        have g5 : M = none := g5
        rw [g5]
        (repeat (first | refine K4 ?_ | refine S1 ?_ | refine S2 ?_ | refine S3 ?_ | refine S4 ?_))
        refine RG.call rfl rfl rfl rfl (cx) [0] rfl rfl rfl rfl (.cons rfl (.one rfl) (Reg.lt_one rfl) ⟨[], _, rfl⟩ (.nil _)) (.cons (.one rfl) (.nil _)) (fun _ h => by first | exact h | exact False.elim h) rfl rfl rfl ?_
        repeat refine RG.dead 30 rfl rfl ?_
        refine RG.done rfl ?_
        exact AW.absurd 30 rfl
      | some p =>
        obtain ⟨x, l'⟩ := p
        rw [hrd] at cx g5
        simp only [rres, rrest, PN] at cx
        obtain ⟨e1, -⟩ := hcan _ _ _ hrd
        have hsub : ∀ y, y ∈ l' → I64' y := fun y hy => g4 y (by rw [e1]; simp [hy])
        have hlen' : l'.length ≤ li.length := by rw [e1, List.length_append]; omega
        have g6 : M = (many rd j l').map (fun q => ((xs ++ [x]) ++ q.1, q.2)) := by
          rw [g5]
          simp only
          cases many rd j l' with
          | none => rfl
          | some q => simp
        have hfl : (flC Sm.cl xs).length = xs.length * 20 := flC_len Sm.cl_len xs
        have happ := flC_append Sm.cl xs [x]
        obtain ⟨Z, hZ⟩ : ∃ Z, Z = xs ++ [x] := ⟨_, rfl⟩
        have lZ : xs.length + 1 = Z.length := by rw [hZ, List.length_append]; rfl
        rw [← hZ] at happ g6
        obtain ⟨site, op, n, m, v, ⟨x1, x2, x3, x4⟩, ⟨y1, y2, y3, y4⟩, ⟨c1, c2, c3⟩, args, ptrs, body, els⟩ := x; simp only [Sm.cl, Ex.cl, Co.cl, List.cons_append, List.nil_append] at cx
        (repeat (first | refine K4 ?_ | refine S1 ?_ | refine S2 ?_ | refine S3 ?_ | refine S4 ?_))
        refine RG.call rfl rfl rfl rfl (cx) [0] rfl rfl rfl rfl (.cons rfl (.one rfl) (Reg.lt_one rfl) ⟨[], _, rfl⟩ (.nil _)) (.cons (.one rfl) (.nil _)) (fun _ h => by first | exact h | exact False.elim h) rfl rfl rfl ?_
        (first | refine L2 ?_)
        refine RG.append tok rfl rfl rfl rfl rfl rfl rfl rfl (n1 := xs.length) (c := flC Sm.cl xs) (ks := [2]) rfl (m := 1) (ks' := [3]) rfl rfl (by omega) rfl (by omega) (by omega) rfl (c' := flC Sm.cl Z) (by rw [List.take_of_length_le (by omega), happ]; rfl) ?_
        rw [lZ]
        (repeat (first | refine K2 ?_ | refine K4 ?_ | refine RG.d ?_ | refine S2 ?_))
        refine ⟨(i + 1, Z, l'), ⟨by dsimp only; omega, by dsimp only; omega, by dsimp only; omega, hsub, by dsimp only; rw [hj2]; exact g6⟩, by dsimp only; omega, Sub.renB sigM ?_ ?_ sigM_inj (fun a ha => sigM_hi a ha) (fun a ha => sigM_q a ha)⟩
        · exact SubEr.put rfl (SubEr.put rfl (SubEr.put rfl (SubEr.put rfl (SubEr.no _ _))))
        · exact SubHr.put rfl rfl (SubHr.putR rfl rfl (SubHr.put rfl (flC_free Sm.cl_free _) (SubHr.no _ _)))
    rintro ⟨xs, li⟩ hM'
    subst hM'
    (repeat (first | refine K4 ?_ | refine RG.d ?_ | refine S1 ?_ | refine S2 ?_ | refine S6 ?_))
    exact ⟨⟨_, rfl, rfl⟩, rfl, .cons rfl (.one rfl) (Reg.lt_one rfl) ⟨[], _, rfl⟩ (.nil _)⟩
end Go.Proofs.Ytmfccaidgaelcaa
