/- How programs are read: queues, heads, lists. No conditions. -/
import Derived.Test.YtmfccaidgaelcaaEc10
import Derived.Test.YtmfccaidgaelcaaEc45
set_option linter.unusedVariables false
set_option linter.unusedSimpArgs false
namespace Go.Proofs.Ytmfccaidgaelcaa
open Go.Abs Go Go.RowKit

set_option maxHeartbeats 16000000 in
set_option maxRecDepth 10000 in
theorem many_qu_fc {w : Qu → List Int} {ok : Qu → Prop} (G : FuncId) (rd : Rdr Qu) (hcan : Can rd w ok) (t : List Int) (ht : t.length < 8) (N : Nat) (hN : N ≤ 200000)
    (c : ∀ ws, ws.length < N → (∀ x, x ∈ ws → I64' x) → FC Try.prog ge G [.ptr 1 [] 0] [.one (stB ws t), .one [.ptr 0 [] 0]] (rres (fun x => .agg x.cl) (rd ws)) [.one (stB (rrest (rd ws)) t), .one [.ptr 0 [] 0]] (PN (rd ws)))
    (ws : List Int) (hws : ws.length ≤ N) (hi : ∀ x, x ∈ ws → I64' x) :
    FC Try.prog ge 80 [rdrA, .fn G [] [.ptr 1 [] 0]] [.one (stB ws t), .one [.ptr 0 [] 0]] (rres (fun xs => .ro xs.length (flC Qu.cl xs)) (lst rd ws)) [.one (stB (rrest (lst rd ws)) t), .one [.ptr 0 [] 0]] (PN (lst rd ws)) := by
  cases ws with
  | nil =>
    have cn := next_no t ht
    show FC _ _ _ _ _ A.no [.one (stB [] t), .one [.ptr 0 [] 0]] PW
    refine FC.of_AW tok Try.func80 (by kernel_rfl) rfl Try.ntmps80 [] rfl rfl rfl ?_; intro w0 X0 Y f0 hI0 hX0
    refine S1 ?_; (repeat (first | refine K4 ?_ | refine L2 ?_ | refine RG.d ?_ | refine S2 ?_))
    refine S1 ?_; (repeat (first | refine K4 ?_ | refine L1 ?_ | refine S2 ?_))
    refine RG.call rfl rfl rfl rfl (cn) [0] rfl rfl rfl rfl (.cons rfl (.one rfl) (Reg.lt_one rfl) ⟨[], _, rfl⟩ (.nil _)) (.cons (.one rfl) (.nil _)) (fun _ h => by first | exact h | exact False.elim h) rfl rfl rfl ?_
    (repeat (first | refine K4 ?_ | refine RG.d ?_))
    exact AW.absurd 9 rfl
  | cons n l =>
    have cn := next_ok n l t (hi n (by simp)) (by simp only [List.length_cons] at hws; unfold BW; omega) ht
    simp only [List.length_cons] at hws
    obtain ⟨M, hM⟩ : ∃ M, M = lst rd (n :: l) := ⟨_, rfl⟩
    rw [← hM]
    have hq : some (A.val (.int .i64 (IntKind.i64.wrap (((8 * l.length + t.length : Nat) : Int).tdiv 8)))) = some (i64 (l.length : Int)) := by
      rw [show (((8 * l.length + t.length : Nat) : Int).tdiv 8) = (((8 * l.length + t.length) / 8 : Nat) : Int) from rfl, show (8 * l.length + t.length) / 8 = l.length by omega, wrap_i64 (by omega)]
    by_cases hneg : n < 0
    · rw [lst, if_neg (by omega)] at hM
      subst hM
      show FC _ _ _ _ _ A.no [.one (stB [] t), .one [.ptr 0 [] 0]] PW
      refine FC.of_AW tok Try.func80 (by kernel_rfl) rfl Try.ntmps80 [] rfl rfl rfl ?_; intro w0 X0 Y f0 hI0 hX0
      refine S1 ?_; (repeat (first | refine K4 ?_ | refine L2 ?_ | refine RG.d ?_ | refine S2 ?_))
      refine S1 ?_; (repeat (first | refine K4 ?_ | refine L1 ?_ | refine S2 ?_))
      refine RG.call rfl rfl rfl rfl (cn) [0] rfl rfl rfl rfl (.cons rfl (.one rfl) (Reg.lt_one rfl) ⟨[], _, rfl⟩ (.nil _)) (.cons (.one rfl) (.nil _)) (fun _ h => by first | exact h | exact False.elim h) rfl rfl rfl ?_
      (repeat (first | refine K4 ?_ | refine RG.d ?_))
      refine S1 ?_
      (repeat (first | refine K4 ?_ | refine S1 ?_ | refine S2 ?_))
      refine RG.split 12 rfl (fun _ => ?_) (fun k => absurd hneg k)
      (repeat (first | refine K1 ?_ | refine K4 ?_ | refine RG.d ?_ | refine S2 ?_ | refine S7 ?_))
      refine RG.panic rfl rfl rfl rfl ?_
      (repeat (first | refine K4 ?_ | refine RG.d ?_ | refine S1 ?_ | refine S2 ?_ | refine S4 ?_))
      exact AW.absurd 24 rfl
    obtain ⟨m, hm⟩ : ∃ m : Nat, n = m := ⟨n.toNat, by omega⟩
    by_cases hbig : l.length < m
    · rw [lst, if_neg (by omega)] at hM
      subst hM
      show FC _ _ _ _ _ A.no [.one (stB [] t), .one [.ptr 0 [] 0]] PW
      refine FC.of_AW tok Try.func80 (by kernel_rfl) rfl Try.ntmps80 [] rfl rfl rfl ?_; intro w0 X0 Y f0 hI0 hX0
      refine S1 ?_; (repeat (first | refine K4 ?_ | refine L2 ?_ | refine RG.d ?_ | refine S2 ?_))
      refine S1 ?_; (repeat (first | refine K4 ?_ | refine L1 ?_ | refine S2 ?_))
      refine RG.call rfl rfl rfl rfl (cn) [0] rfl rfl rfl rfl (.cons rfl (.one rfl) (Reg.lt_one rfl) ⟨[], _, rfl⟩ (.nil _)) (.cons (.one rfl) (.nil _)) (fun _ h => by first | exact h | exact False.elim h) rfl rfl rfl ?_
      (repeat (first | refine K4 ?_ | refine RG.d ?_))
      refine S1 ?_
      (repeat (first | refine K4 ?_ | refine S1 ?_ | refine S2 ?_))
      refine RG.split 12 rfl (fun k => absurd k hneg) (fun _ => ?_)
      (first | refine K4 ?_)
      (first | refine K4 ?_)
      (first | refine L1 ?_)
      (first | refine K4 ?_)
      (first | refine K4 ?_)
      (first | refine L1 ?_)
      (first | refine K4 ?_)
      refine RG.val tok rfl rfl rfl (show (8 : Int) ≠ 0 by decide) rfl hq ?_
      (repeat (first | refine K4 ?_ | refine RG.d ?_))
      refine AW.condD rfl (fun _ => ?_) (fun k => absurd (show (l.length : Int) < n by omega) k)
      (repeat (first | refine K4 ?_ | refine S2 ?_))
      refine RG.panic rfl rfl rfl rfl ?_
      (repeat (first | refine K4 ?_ | refine RG.d ?_ | refine S1 ?_ | refine S2 ?_ | refine S4 ?_))
      exact AW.absurd 24 rfl
    rw [lst, if_pos ⟨by omega, by omega⟩, show n.toNat = m by omega] at hM
    have hil : ∀ x, x ∈ l → I64' x := fun x hx => hi x (by simp [hx])
    refine FC.of_AW tok Try.func80 (by kernel_rfl) rfl Try.ntmps80 [] rfl rfl rfl ?_; intro w0 X0 Y f0 hI0 hX0
    refine S1 ?_; (repeat (first | refine K4 ?_ | refine L2 ?_ | refine RG.d ?_ | refine S2 ?_))
    refine S1 ?_; (repeat (first | refine K4 ?_ | refine L1 ?_ | refine S2 ?_))
    refine RG.call rfl rfl rfl rfl (cn) [0] rfl rfl rfl rfl (.cons rfl (.one rfl) (Reg.lt_one rfl) ⟨[], _, rfl⟩ (.nil _)) (.cons (.one rfl) (.nil _)) (fun _ h => by first | exact h | exact False.elim h) rfl rfl rfl ?_
    (repeat (first | refine K4 ?_ | refine RG.d ?_))
    refine S1 ?_
    (repeat (first | refine K4 ?_ | refine S1 ?_ | refine S2 ?_))
    refine RG.split 12 rfl (fun k => absurd k hneg) (fun _ => ?_)
    (first | refine K4 ?_)
    (first | refine K4 ?_)
    (first | refine L1 ?_)
    (first | refine K4 ?_)
    (first | refine K4 ?_)
    (first | refine L1 ?_)
    (first | refine K4 ?_)
    refine RG.val tok rfl rfl rfl (show (8 : Int) ≠ 0 by decide) rfl hq ?_
    (repeat (first | refine K4 ?_ | refine RG.d ?_))
    refine AW.condD rfl (fun k => absurd (show (l.length : Int) < n from k) (by omega)) (fun _ => ?_)
    refine S3 ?_
    refine S1 ?_; (repeat (first | refine K4 ?_ | refine RG.d ?_ | refine S2 ?_))
    refine AW.sub (Sub.nil 6 4 rfl) ?_
    refine AW.seqJ (fun p : List Qu × List Int => ⟨put 6 (some (.ro p.1.length (flC Qu.cl p.1))) noE, hput 0 (.one (stB p.2 t)) (hput 1 (.one ([.ptr 0 [] 0])) noH), 2⟩) (fun p => M = some (p.1, p.2)) ?_ ?_
    · refine S1 ?_; (repeat (first | refine K4 ?_ | refine RG.d ?_ | refine S2 ?_ | refine S4 ?_))
      refine AW.loopS (fun p : Nat × List Qu × List Int => ⟨put 1 (some (.fn G [] [.ptr 1 [] 0])) (put 6 (some (.sl 3 [] 4 0 p.2.1.length)) (put 25 (some (i64 n)) (put 26 (some (i64 (p.1 : Int))) noE))), hput 0 (.one (stB p.2.2 t)) (hput 1 (.one ([.ptr 0 [] 0])) (hput 2 (.one ([.ptr 0 [] 0])) (hput 3 (.one (flC Qu.cl p.2.1)) noH))), 4⟩)
        (fun p => p.1 ≤ m ∧ p.2.1.length = p.1 ∧ p.2.2.length ≤ l.length ∧ (∀ x, x ∈ p.2.2 → I64' x) ∧ M = (many rd (m - p.1) p.2.2).map (fun q => (p.2.1 ++ q.1, q.2))) (fun p => m - p.1) (0, [], l) ⟨Nat.zero_le _, rfl, Nat.le_refl _, hil, by rw [hM]; cases many rd m l <;> rfl⟩ (Sub.of (by repeat (first | exact SubE.no _ | refine SubE.put rfl ?_)) (by repeat (first | exact SubH.no _ | refine SubH.put rfl ?_)) rfl) ?_
      rintro ⟨i, xs, li⟩ ⟨g1, g2, g3, g4, g5⟩
      dsimp only at g1 g2 g3 g4 g5
      (repeat (first | refine K4 ?_ | refine RG.d ?_ | refine S1 ?_ | refine S2 ?_))
      refine AW.condD rfl (fun k => ?_) (fun k => ?_)
      rotate_left
      · have hi2 : i = m := by
          have : ¬ (i : Int) < n := k
          omega
        rw [hi2, Nat.sub_self] at g5
        (repeat (first | refine S5 ?_))
        exact ⟨(xs, li), by rw [g5]; simp [many], Sub.trans (Sub.frz (ks := [3]) 6 rfl (frzC rfl (by decide) (flC_len Qu.cl_len xs) (flC_free (fun _ => rfl) xs))) (Sub.down (by repeat (first | exact SubE.no _ | refine SubE.put rfl ?_)) (by repeat (first | exact SubH.no _ | refine SubH.put rfl ?_)) (by repeat (first | exact LtE.no _ | refine LtE.put rfl ?_)) (by repeat (first | exact LtH.no _ | refine LtH.put rfl rfl ?_)) rfl)⟩
      have hi2 : i < m := by
        have : (i : Int) < n := k
        omega
      obtain ⟨j, hj⟩ : ∃ j, m - i = j + 1 := ⟨m - i - 1, by omega⟩
      have hj2 : m - (i + 1) = j := by omega
      rw [hj, many] at g5
      have cx := c li (by omega) g4
      cases hrd : rd li with
      | none =>
        rw [hrd] at cx g5
        simp only [rres, rrest, PN] at cx
        have g5 : M = none := g5
        rw [g5]
        (repeat (first | refine K4 ?_ | refine S1 ?_ | refine S2 ?_ | refine S3 ?_ | refine S4 ?_))
        refine RG.call rfl rfl rfl rfl (cx) [0, 1] rfl rfl rfl rfl (.cons rfl (.one rfl) (Reg.lt_one rfl) ⟨[], _, rfl⟩ (.cons rfl (.one rfl) (Reg.lt_one rfl) ⟨[], _, rfl⟩ (.nil _))) (.cons (.one rfl) (.cons (.one rfl) (.nil _))) (fun _ h => by first | exact h | exact False.elim h) rfl rfl rfl ?_
        repeat refine RG.dead 30 rfl rfl ?_
        refine RG.done rfl ?_
        exact AW.absurd 30 rfl
      | some p =>
        obtain ⟨x, l'⟩ := p
        rw [hrd] at cx g5
        simp only [rres, rrest, PN] at cx
        obtain ⟨e1, -⟩ := hcan _ _ _ hrd
        have hsub : ∀ y, y ∈ l' → I64' y := fun y hy => g4 y (by rw [e1]; simp [hy])
        have hlen' : l'.length ≤ li.length := by rw [e1, List.length_append]; omega
        have g6 : M = (many rd j l').map (fun q => ((xs ++ [x]) ++ q.1, q.2)) := by
          rw [g5]
          simp only
          cases many rd j l' with
          | none => rfl
          | some q => simp
        have hfl : (flC Qu.cl xs).length = xs.length * 4 := flC_len Qu.cl_len xs
        have happ := flC_append Qu.cl xs [x]
        obtain ⟨Z, hZ⟩ : ∃ Z, Z = xs ++ [x] := ⟨_, rfl⟩
        have lZ : xs.length + 1 = Z.length := by rw [hZ, List.length_append]; rfl
        rw [← hZ] at happ g6
        obtain ⟨q1, r1, r2, r3⟩ := x; simp only [Qu.cl] at cx
        (repeat (first | refine K4 ?_ | refine S1 ?_ | refine S2 ?_ | refine S3 ?_ | refine S4 ?_))
        refine RG.call rfl rfl rfl rfl (cx) [0, 1] rfl rfl rfl rfl (.cons rfl (.one rfl) (Reg.lt_one rfl) ⟨[], _, rfl⟩ (.cons rfl (.one rfl) (Reg.lt_one rfl) ⟨[], _, rfl⟩ (.nil _))) (.cons (.one rfl) (.cons (.one rfl) (.nil _))) (fun _ h => by first | exact h | exact False.elim h) rfl rfl rfl ?_
        (first | refine L2 ?_)
        refine RG.append tok rfl rfl rfl rfl rfl rfl rfl rfl (n1 := xs.length) (c := flC Qu.cl xs) (ks := [3]) rfl (m := 1) (ks' := [4]) rfl rfl (by omega) rfl (by omega) (by omega) rfl (c' := flC Qu.cl Z) (by rw [List.take_of_length_le (by omega), happ]; rfl) ?_
        rw [lZ]
        (repeat (first | refine K2 ?_ | refine K4 ?_ | refine RG.d ?_ | refine S2 ?_))
        refine ⟨(i + 1, Z, l'), ⟨by dsimp only; omega, by dsimp only; omega, by dsimp only; omega, hsub, by dsimp only; rw [hj2]; exact g6⟩, by dsimp only; omega, Sub.renB sigN ?_ ?_ sigN_inj (fun a ha => sigN_hi a ha) (fun a ha => sigN_q a ha)⟩
        · exact SubEr.put rfl (SubEr.put rfl (SubEr.put rfl (SubEr.put rfl (SubEr.no _ _))))
        · exact SubHr.put rfl rfl (SubHr.putR rfl rfl (SubHr.putR rfl rfl (SubHr.put rfl (flC_free (fun _ => rfl) _) (SubHr.no _ _))))
    rintro ⟨xs, li⟩ hM'
    subst hM'
    (repeat (first | refine K4 ?_ | refine RG.d ?_ | refine S1 ?_ | refine S2 ?_ | refine S6 ?_))
    exact ⟨⟨_, rfl, rfl⟩, rfl, .cons rfl (.one rfl) (Reg.lt_one rfl) ⟨[], _, rfl⟩ (.cons rfl (.one rfl) (Reg.lt_one rfl) ⟨[], _, rfl⟩ (.nil _))⟩

set_option maxHeartbeats 16000000 in
set_option maxRecDepth 10000 in
theorem many_hd_fc {w : Hd → List Int} {ok : Hd → Prop} (G : FuncId) (rd : Rdr Hd) (hcan : Can rd w ok) (t : List Int) (ht : t.length < 8) (N : Nat) (hN : N ≤ 200000)
    (c : ∀ ws, ws.length < N → (∀ x, x ∈ ws → I64' x) → FC Try.prog ge G [rdrA] [.one (stB ws t)] (rres (fun x => .agg x.cl) (rd ws)) [.one (stB (rrest (rd ws)) t)] (PN (rd ws)))
    (ws : List Int) (hws : ws.length ≤ N) (hi : ∀ x, x ∈ ws → I64' x) :
    FC Try.prog ge 84 [rdrA, .fn G [rdrA] []] [.one (stB ws t)] (rres (fun xs => .ro xs.length (flC Hd.cl xs)) (lst rd ws)) [.one (stB (rrest (lst rd ws)) t)] (PN (lst rd ws)) := by
  cases ws with
  | nil =>
    have cn := next_no t ht
    show FC _ _ _ _ _ A.no [.one (stB [] t)] PW
    refine FC.of_AW tok Try.func84 (by kernel_rfl) rfl Try.ntmps84 [] rfl rfl rfl ?_; intro w0 X0 Y f0 hI0 hX0
    refine S1 ?_; (repeat (first | refine K4 ?_ | refine L2 ?_ | refine RG.d ?_ | refine S2 ?_))
    refine S1 ?_; (repeat (first | refine K4 ?_ | refine L1 ?_ | refine S2 ?_))
    refine RG.call rfl rfl rfl rfl (cn) [0] rfl rfl rfl rfl (.cons rfl (.one rfl) (Reg.lt_one rfl) ⟨[], _, rfl⟩ (.nil _)) (.cons (.one rfl) (.nil _)) (fun _ h => by first | exact h | exact False.elim h) rfl rfl rfl ?_
    (repeat (first | refine K4 ?_ | refine RG.d ?_))
    exact AW.absurd 9 rfl
  | cons n l =>
    have cn := next_ok n l t (hi n (by simp)) (by simp only [List.length_cons] at hws; unfold BW; omega) ht
    simp only [List.length_cons] at hws
    obtain ⟨M, hM⟩ : ∃ M, M = lst rd (n :: l) := ⟨_, rfl⟩
    rw [← hM]
    have hq : some (A.val (.int .i64 (IntKind.i64.wrap (((8 * l.length + t.length : Nat) : Int).tdiv 8)))) = some (i64 (l.length : Int)) := by
      rw [show (((8 * l.length + t.length : Nat) : Int).tdiv 8) = (((8 * l.length + t.length) / 8 : Nat) : Int) from rfl, show (8 * l.length + t.length) / 8 = l.length by omega, wrap_i64 (by omega)]
    by_cases hneg : n < 0
    · rw [lst, if_neg (by omega)] at hM
      subst hM
      show FC _ _ _ _ _ A.no [.one (stB [] t)] PW
      refine FC.of_AW tok Try.func84 (by kernel_rfl) rfl Try.ntmps84 [] rfl rfl rfl ?_; intro w0 X0 Y f0 hI0 hX0
      refine S1 ?_; (repeat (first | refine K4 ?_ | refine L2 ?_ | refine RG.d ?_ | refine S2 ?_))
      refine S1 ?_; (repeat (first | refine K4 ?_ | refine L1 ?_ | refine S2 ?_))
      refine RG.call rfl rfl rfl rfl (cn) [0] rfl rfl rfl rfl (.cons rfl (.one rfl) (Reg.lt_one rfl) ⟨[], _, rfl⟩ (.nil _)) (.cons (.one rfl) (.nil _)) (fun _ h => by first | exact h | exact False.elim h) rfl rfl rfl ?_
      (repeat (first | refine K4 ?_ | refine RG.d ?_))
      refine S1 ?_
      (repeat (first | refine K4 ?_ | refine S1 ?_ | refine S2 ?_))
      refine RG.split 12 rfl (fun _ => ?_) (fun k => absurd hneg k)
      (repeat (first | refine K1 ?_ | refine K4 ?_ | refine RG.d ?_ | refine S2 ?_ | refine S7 ?_))
      refine RG.panic rfl rfl rfl rfl ?_
      (repeat (first | refine K4 ?_ | refine RG.d ?_ | refine S1 ?_ | refine S2 ?_ | refine S4 ?_))
      exact AW.absurd 24 rfl
    obtain ⟨m, hm⟩ : ∃ m : Nat, n = m := ⟨n.toNat, by omega⟩
    by_cases hbig : l.length < m
    · rw [lst, if_neg (by omega)] at hM
      subst hM
      show FC _ _ _ _ _ A.no [.one (stB [] t)] PW
      refine FC.of_AW tok Try.func84 (by kernel_rfl) rfl Try.ntmps84 [] rfl rfl rfl ?_; intro w0 X0 Y f0 hI0 hX0
      refine S1 ?_; (repeat (first | refine K4 ?_ | refine L2 ?_ | refine RG.d ?_ | refine S2 ?_))
      refine S1 ?_; (repeat (first | refine K4 ?_ | refine L1 ?_ | refine S2 ?_))
      refine RG.call rfl rfl rfl rfl (cn) [0] rfl rfl rfl rfl (.cons rfl (.one rfl) (Reg.lt_one rfl) ⟨[], _, rfl⟩ (.nil _)) (.cons (.one rfl) (.nil _)) (fun _ h => by first | exact h | exact False.elim h) rfl rfl rfl ?_
      (repeat (first | refine K4 ?_ | refine RG.d ?_))
      refine S1 ?_
      (repeat (first | refine K4 ?_ | refine S1 ?_ | refine S2 ?_))
      refine RG.split 12 rfl (fun k => absurd k hneg) (fun _ => ?_)
      (first | refine K4 ?_)
      (first | refine K4 ?_)
      (first | refine L1 ?_)
      (first | refine K4 ?_)
      (first | refine K4 ?_)
      (first | refine L1 ?_)
      (first | refine K4 ?_)
      refine RG.val tok rfl rfl rfl (show (8 : Int) ≠ 0 by decide) rfl hq ?_
      (repeat (first | refine K4 ?_ | refine RG.d ?_))
      refine AW.condD rfl (fun _ => ?_) (fun k => absurd (show (l.length : Int) < n by omega) k)
      (repeat (first | refine K4 ?_ | refine S2 ?_))
      refine RG.panic rfl rfl rfl rfl ?_
      (repeat (first | refine K4 ?_ | refine RG.d ?_ | refine S1 ?_ | refine S2 ?_ | refine S4 ?_))
      exact AW.absurd 24 rfl
    rw [lst, if_pos ⟨by omega, by omega⟩, show n.toNat = m by omega] at hM
    have hil : ∀ x, x ∈ l → I64' x := fun x hx => hi x (by simp [hx])
    refine FC.of_AW tok Try.func84 (by kernel_rfl) rfl Try.ntmps84 [] rfl rfl rfl ?_; intro w0 X0 Y f0 hI0 hX0
    refine S1 ?_; (repeat (first | refine K4 ?_ | refine L2 ?_ | refine RG.d ?_ | refine S2 ?_))
    refine S1 ?_; (repeat (first | refine K4 ?_ | refine L1 ?_ | refine S2 ?_))
    refine RG.call rfl rfl rfl rfl (cn) [0] rfl rfl rfl rfl (.cons rfl (.one rfl) (Reg.lt_one rfl) ⟨[], _, rfl⟩ (.nil _)) (.cons (.one rfl) (.nil _)) (fun _ h => by first | exact h | exact False.elim h) rfl rfl rfl ?_
    (repeat (first | refine K4 ?_ | refine RG.d ?_))
    refine S1 ?_
    (repeat (first | refine K4 ?_ | refine S1 ?_ | refine S2 ?_))
    refine RG.split 12 rfl (fun k => absurd k hneg) (fun _ => ?_)
    (first | refine K4 ?_)
    (first | refine K4 ?_)
    (first | refine L1 ?_)
    (first | refine K4 ?_)
    (first | refine K4 ?_)
    (first | refine L1 ?_)
    (first | refine K4 ?_)
    refine RG.val tok rfl rfl rfl (show (8 : Int) ≠ 0 by decide) rfl hq ?_
    (repeat (first | refine K4 ?_ | refine RG.d ?_))
    refine AW.condD rfl (fun k => absurd (show (l.length : Int) < n from k) (by omega)) (fun _ => ?_)
    refine S3 ?_
    refine S1 ?_; (repeat (first | refine K4 ?_ | refine RG.d ?_ | refine S2 ?_))
    refine AW.sub (Sub.nil 6 5 rfl) ?_
    refine AW.seqJ (fun p : List Hd × List Int => ⟨put 6 (some (.ro p.1.length (flC Hd.cl p.1))) noE, hput 0 (.one (stB p.2 t)) noH, 1⟩) (fun p => M = some (p.1, p.2)) ?_ ?_
    · refine S1 ?_; (repeat (first | refine K4 ?_ | refine RG.d ?_ | refine S2 ?_ | refine S4 ?_))
      refine AW.loopS (fun p : Nat × List Hd × List Int => ⟨put 1 (some (.fn G [rdrA] [])) (put 6 (some (.sl 2 [] 5 0 p.2.1.length)) (put 25 (some (i64 n)) (put 26 (some (i64 (p.1 : Int))) noE))), hput 0 (.one (stB p.2.2 t)) (hput 1 (.one ([.ptr 0 [] 0])) (hput 2 (.one (flC Hd.cl p.2.1)) noH)), 3⟩)
        (fun p => p.1 ≤ m ∧ p.2.1.length = p.1 ∧ p.2.2.length ≤ l.length ∧ (∀ x, x ∈ p.2.2 → I64' x) ∧ M = (many rd (m - p.1) p.2.2).map (fun q => (p.2.1 ++ q.1, q.2))) (fun p => m - p.1) (0, [], l) ⟨Nat.zero_le _, rfl, Nat.le_refl _, hil, by rw [hM]; cases many rd m l <;> rfl⟩ (Sub.of (by repeat (first | exact SubE.no _ | refine SubE.put rfl ?_)) (by repeat (first | exact SubH.no _ | refine SubH.put rfl ?_)) rfl) ?_
      rintro ⟨i, xs, li⟩ ⟨g1, g2, g3, g4, g5⟩
      dsimp only at g1 g2 g3 g4 g5
      (repeat (first | refine K4 ?_ | refine RG.d ?_ | refine S1 ?_ | refine S2 ?_))
      refine AW.condD rfl (fun k => ?_) (fun k => ?_)
      rotate_left
      · have hi2 : i = m := by
          have : ¬ (i : Int) < n := k
          omega
        rw [hi2, Nat.sub_self] at g5
        (repeat (first | refine S5 ?_))
        exact ⟨(xs, li), by rw [g5]; simp [many], Sub.trans (Sub.frz (ks := [2]) 6 rfl (frzC rfl (by decide) (flC_len Hd.cl_len xs) (flC_free (fun _ => rfl) xs))) (Sub.down (by repeat (first | exact SubE.no _ | refine SubE.put rfl ?_)) (by repeat (first | exact SubH.no _ | refine SubH.put rfl ?_)) (by repeat (first | exact LtE.no _ | refine LtE.put rfl ?_)) (by repeat (first | exact LtH.no _ | refine LtH.put rfl rfl ?_)) rfl)⟩
      have hi2 : i < m := by
        have : (i : Int) < n := k
        omega
      obtain ⟨j, hj⟩ : ∃ j, m - i = j + 1 := ⟨m - i - 1, by omega⟩
      have hj2 : m - (i + 1) = j := by omega
      rw [hj, many] at g5
      have cx := c li (by omega) g4
      cases hrd : rd li with
      | none =>
        rw [hrd] at cx g5
        simp only [rres, rrest, PN] at cx
        have g5 : M = none := g5
        rw [g5]
        (repeat (first | refine K4 ?_ | refine S1 ?_ | refine S2 ?_ | refine S3 ?_ | refine S4 ?_))
        refine RG.call rfl rfl rfl rfl (cx) [0] rfl rfl rfl rfl (.cons rfl (.one rfl) (Reg.lt_one rfl) ⟨[], _, rfl⟩ (.nil _)) (.cons (.one rfl) (.nil _)) (fun _ h => by first | exact h | exact False.elim h) rfl rfl rfl ?_
        repeat refine RG.dead 30 rfl rfl ?_
        refine RG.done rfl ?_
        exact AW.absurd 30 rfl
      | some p =>
        obtain ⟨x, l'⟩ := p
        rw [hrd] at cx g5
        simp only [rres, rrest, PN] at cx
        obtain ⟨e1, -⟩ := hcan _ _ _ hrd
        have hsub : ∀ y, y ∈ l' → I64' y := fun y hy => g4 y (by rw [e1]; simp [hy])
        have hlen' : l'.length ≤ li.length := by rw [e1, List.length_append]; omega
        have g6 : M = (many rd j l').map (fun q => ((xs ++ [x]) ++ q.1, q.2)) := by
          rw [g5]
          simp only
          cases many rd j l' with
          | none => rfl
          | some q => simp
        have hfl : (flC Hd.cl xs).length = xs.length * 5 := flC_len Hd.cl_len xs
        have happ := flC_append Hd.cl xs [x]
        obtain ⟨Z, hZ⟩ : ∃ Z, Z = xs ++ [x] := ⟨_, rfl⟩
        have lZ : xs.length + 1 = Z.length := by rw [hZ, List.length_append]; rfl
        rw [← hZ] at happ g6
        obtain ⟨q1, q2, q3, r1, r2⟩ := x; simp only [Hd.cl] at cx
        (repeat (first | refine K4 ?_ | refine S1 ?_ | refine S2 ?_ | refine S3 ?_ | refine S4 ?_))
        refine RG.call rfl rfl rfl rfl (cx) [0] rfl rfl rfl rfl (.cons rfl (.one rfl) (Reg.lt_one rfl) ⟨[], _, rfl⟩ (.nil _)) (.cons (.one rfl) (.nil _)) (fun _ h => by first | exact h | exact False.elim h) rfl rfl rfl ?_
        (first | refine L2 ?_)
        refine RG.append tok rfl rfl rfl rfl rfl rfl rfl rfl (n1 := xs.length) (c := flC Hd.cl xs) (ks := [2]) rfl (m := 1) (ks' := [3]) rfl rfl (by omega) rfl (by omega) (by omega) rfl (c' := flC Hd.cl Z) (by rw [List.take_of_length_le (by omega), happ]; rfl) ?_
        rw [lZ]
        (repeat (first | refine K2 ?_ | refine K4 ?_ | refine RG.d ?_ | refine S2 ?_))
        refine ⟨(i + 1, Z, l'), ⟨by dsimp only; omega, by dsimp only; omega, by dsimp only; omega, hsub, by dsimp only; rw [hj2]; exact g6⟩, by dsimp only; omega, Sub.renB sigM ?_ ?_ sigM_inj (fun a ha => sigM_hi a ha) (fun a ha => sigM_q a ha)⟩
        · exact SubEr.put rfl (SubEr.put rfl (SubEr.put rfl (SubEr.put rfl (SubEr.no _ _))))
        · exact SubHr.put rfl rfl (SubHr.putR rfl rfl (SubHr.put rfl (flC_free (fun _ => rfl) _) (SubHr.no _ _)))
    rintro ⟨xs, li⟩ hM'
    subst hM'
    (repeat (first | refine K4 ?_ | refine RG.d ?_ | refine S1 ?_ | refine S2 ?_ | refine S6 ?_))
    exact ⟨⟨_, rfl, rfl⟩, rfl, .cons rfl (.one rfl) (Reg.lt_one rfl) ⟨[], _, rfl⟩ (.nil _)⟩

set_option maxHeartbeats 16000000 in
set_option maxRecDepth 10000 in
theorem many_df_fc {w : Df → List Int} {ok : Df → Prop} (G : FuncId) (rd : Rdr Df) (hcan : Can rd w ok) (t : List Int) (ht : t.length < 8) (N : Nat) (hN : N ≤ 200000)
    (c : ∀ ws, ws.length < N → (∀ x, x ∈ ws → I64' x) → FC Try.prog ge G [rdrA] [.one (stB ws t)] (rres (fun x => .agg x.cl) (rd ws)) [.one (stB (rrest (rd ws)) t)] (PN (rd ws)))
    (ws : List Int) (hws : ws.length ≤ N) (hi : ∀ x, x ∈ ws → I64' x) :
    FC Try.prog ge 86 [rdrA, .fn G [rdrA] []] [.one (stB ws t)] (rres (fun xs => .ro xs.length (flC Df.cl xs)) (lst rd ws)) [.one (stB (rrest (lst rd ws)) t)] (PN (lst rd ws)) := by
  cases ws with
  | nil =>
    have cn := next_no t ht
    show FC _ _ _ _ _ A.no [.one (stB [] t)] PW
    refine FC.of_AW tok Try.func86 (by kernel_rfl) rfl Try.ntmps86 [] rfl rfl rfl ?_; intro w0 X0 Y f0 hI0 hX0
    refine S1 ?_; (repeat (first | refine K4 ?_ | refine L2 ?_ | refine RG.d ?_ | refine S2 ?_))
    refine S1 ?_; (repeat (first | refine K4 ?_ | refine L1 ?_ | refine S2 ?_))
    refine RG.call rfl rfl rfl rfl (cn) [0] rfl rfl rfl rfl (.cons rfl (.one rfl) (Reg.lt_one rfl) ⟨[], _, rfl⟩ (.nil _)) (.cons (.one rfl) (.nil _)) (fun _ h => by first | exact h | exact False.elim h) rfl rfl rfl ?_
    (repeat (first | refine K4 ?_ | refine RG.d ?_))
    exact AW.absurd 9 rfl
  | cons n l =>
    have cn := next_ok n l t (hi n (by simp)) (by simp only [List.length_cons] at hws; unfold BW; omega) ht
    simp only [List.length_cons] at hws
    obtain ⟨M, hM⟩ : ∃ M, M = lst rd (n :: l) := ⟨_, rfl⟩
    rw [← hM]
    have hq : some (A.val (.int .i64 (IntKind.i64.wrap (((8 * l.length + t.length : Nat) : Int).tdiv 8)))) = some (i64 (l.length : Int)) := by
      rw [show (((8 * l.length + t.length : Nat) : Int).tdiv 8) = (((8 * l.length + t.length) / 8 : Nat) : Int) from rfl, show (8 * l.length + t.length) / 8 = l.length by omega, wrap_i64 (by omega)]
    by_cases hneg : n < 0
    · rw [lst, if_neg (by omega)] at hM
      subst hM
      show FC _ _ _ _ _ A.no [.one (stB [] t)] PW
      refine FC.of_AW tok Try.func86 (by kernel_rfl) rfl Try.ntmps86 [] rfl rfl rfl ?_; intro w0 X0 Y f0 hI0 hX0
      refine S1 ?_; (repeat (first | refine K4 ?_ | refine L2 ?_ | refine RG.d ?_ | refine S2 ?_))
      refine S1 ?_; (repeat (first | refine K4 ?_ | refine L1 ?_ | refine S2 ?_))
      refine RG.call rfl rfl rfl rfl (cn) [0] rfl rfl rfl rfl (.cons rfl (.one rfl) (Reg.lt_one rfl) ⟨[], _, rfl⟩ (.nil _)) (.cons (.one rfl) (.nil _)) (fun _ h => by first | exact h | exact False.elim h) rfl rfl rfl ?_
      (repeat (first | refine K4 ?_ | refine RG.d ?_))
      refine S1 ?_
      (repeat (first | refine K4 ?_ | refine S1 ?_ | refine S2 ?_))
      refine RG.split 12 rfl (fun _ => ?_) (fun k => absurd hneg k)
      (repeat (first | refine K1 ?_ | refine K4 ?_ | refine RG.d ?_ | refine S2 ?_ | refine S7 ?_))
      refine RG.panic rfl rfl rfl rfl ?_
      (repeat (first | refine K4 ?_ | refine RG.d ?_ | refine S1 ?_ | refine S2 ?_ | refine S4 ?_))
      exact AW.absurd 24 rfl
    obtain ⟨m, hm⟩ : ∃ m : Nat, n = m := ⟨n.toNat, by omega⟩
    by_cases hbig : l.length < m
    · rw [lst, if_neg (by omega)] at hM
      subst hM
      show FC _ _ _ _ _ A.no [.one (stB [] t)] PW
      refine FC.of_AW tok Try.func86 (by kernel_rfl) rfl Try.ntmps86 [] rfl rfl rfl ?_; intro w0 X0 Y f0 hI0 hX0
      refine S1 ?_; (repeat (first | refine K4 ?_ | refine L2 ?_ | refine RG.d ?_ | refine S2 ?_))
      refine S1 ?_; (repeat (first | refine K4 ?_ | refine L1 ?_ | refine S2 ?_))
      refine RG.call rfl rfl rfl rfl (cn) [0] rfl rfl rfl rfl (.cons rfl (.one rfl) (Reg.lt_one rfl) ⟨[], _, rfl⟩ (.nil _)) (.cons (.one rfl) (.nil _)) (fun _ h => by first | exact h | exact False.elim h) rfl rfl rfl ?_
      (repeat (first | refine K4 ?_ | refine RG.d ?_))
      refine S1 ?_
      (repeat (first | refine K4 ?_ | refine S1 ?_ | refine S2 ?_))
      refine RG.split 12 rfl (fun k => absurd k hneg) (fun _ => ?_)
      (first | refine K4 ?_)
      (first | refine K4 ?_)
      (first | refine L1 ?_)
      (first | refine K4 ?_)
      (first | refine K4 ?_)
      (first | refine L1 ?_)
      (first | refine K4 ?_)
      refine RG.val tok rfl rfl rfl (show (8 : Int) ≠ 0 by decide) rfl hq ?_
      (repeat (first | refine K4 ?_ | refine RG.d ?_))
      refine AW.condD rfl (fun _ => ?_) (fun k => absurd (show (l.length : Int) < n by omega) k)
      (repeat (first | refine K4 ?_ | refine S2 ?_))
      refine RG.panic rfl rfl rfl rfl ?_
      (repeat (first | refine K4 ?_ | refine RG.d ?_ | refine S1 ?_ | refine S2 ?_ | refine S4 ?_))
      exact AW.absurd 24 rfl
    rw [lst, if_pos ⟨by omega, by omega⟩, show n.toNat = m by omega] at hM
    have hil : ∀ x, x ∈ l → I64' x := fun x hx => hi x (by simp [hx])
    refine FC.of_AW tok Try.func86 (by kernel_rfl) rfl Try.ntmps86 [] rfl rfl rfl ?_; intro w0 X0 Y f0 hI0 hX0
    refine S1 ?_; (repeat (first | refine K4 ?_ | refine L2 ?_ | refine RG.d ?_ | refine S2 ?_))
    refine S1 ?_; (repeat (first | refine K4 ?_ | refine L1 ?_ | refine S2 ?_))
    refine RG.call rfl rfl rfl rfl (cn) [0] rfl rfl rfl rfl (.cons rfl (.one rfl) (Reg.lt_one rfl) ⟨[], _, rfl⟩ (.nil _)) (.cons (.one rfl) (.nil _)) (fun _ h => by first | exact h | exact False.elim h) rfl rfl rfl ?_
    (repeat (first | refine K4 ?_ | refine RG.d ?_))
    refine S1 ?_
    (repeat (first | refine K4 ?_ | refine S1 ?_ | refine S2 ?_))
    refine RG.split 12 rfl (fun k => absurd k hneg) (fun _ => ?_)
    (first | refine K4 ?_)
    (first | refine K4 ?_)
    (first | refine L1 ?_)
    (first | refine K4 ?_)
    (first | refine K4 ?_)
    (first | refine L1 ?_)
    (first | refine K4 ?_)
    refine RG.val tok rfl rfl rfl (show (8 : Int) ≠ 0 by decide) rfl hq ?_
    (repeat (first | refine K4 ?_ | refine RG.d ?_))
    refine AW.condD rfl (fun k => absurd (show (l.length : Int) < n from k) (by omega)) (fun _ => ?_)
    refine S3 ?_
    refine S1 ?_; (repeat (first | refine K4 ?_ | refine RG.d ?_ | refine S2 ?_))
    refine AW.sub (Sub.nil 6 12 rfl) ?_
    refine AW.seqJ (fun p : List Df × List Int => ⟨put 6 (some (.ro p.1.length (flC Df.cl p.1))) noE, hput 0 (.one (stB p.2 t)) noH, 1⟩) (fun p => M = some (p.1, p.2)) ?_ ?_
    · refine S1 ?_; (repeat (first | refine K4 ?_ | refine RG.d ?_ | refine S2 ?_ | refine S4 ?_))
      refine AW.loopS (fun p : Nat × List Df × List Int => ⟨put 1 (some (.fn G [rdrA] [])) (put 6 (some (.sl 2 [] 12 0 p.2.1.length)) (put 25 (some (i64 n)) (put 26 (some (i64 (p.1 : Int))) noE))), hput 0 (.one (stB p.2.2 t)) (hput 1 (.one ([.ptr 0 [] 0])) (hput 2 (.one (flC Df.cl p.2.1)) noH)), 3⟩)
        (fun p => p.1 ≤ m ∧ p.2.1.length = p.1 ∧ p.2.2.length ≤ l.length ∧ (∀ x, x ∈ p.2.2 → I64' x) ∧ M = (many rd (m - p.1) p.2.2).map (fun q => (p.2.1 ++ q.1, q.2))) (fun p => m - p.1) (0, [], l) ⟨Nat.zero_le _, rfl, Nat.le_refl _, hil, by rw [hM]; cases many rd m l <;> rfl⟩ (Sub.of (by repeat (first | exact SubE.no _ | refine SubE.put rfl ?_)) (by repeat (first | exact SubH.no _ | refine SubH.put rfl ?_)) rfl) ?_
      rintro ⟨i, xs, li⟩ ⟨g1, g2, g3, g4, g5⟩
      dsimp only at g1 g2 g3 g4 g5
      (repeat (first | refine K4 ?_ | refine RG.d ?_ | refine S1 ?_ | refine S2 ?_))
      refine AW.condD rfl (fun k => ?_) (fun k => ?_)
      rotate_left
      · have hi2 : i = m := by
          have : ¬ (i : Int) < n := k
          omega
        rw [hi2, Nat.sub_self] at g5
        (repeat (first | refine S5 ?_))
        exact ⟨(xs, li), by rw [g5]; simp [many], Sub.trans (Sub.frz (ks := [2]) 6 rfl (frzC rfl (by decide) (flC_len Df.cl_len xs) (flC_free (fun _ => rfl) xs))) (Sub.down (by repeat (first | exact SubE.no _ | refine SubE.put rfl ?_)) (by repeat (first | exact SubH.no _ | refine SubH.put rfl ?_)) (by repeat (first | exact LtE.no _ | refine LtE.put rfl ?_)) (by repeat (first | exact LtH.no _ | refine LtH.put rfl rfl ?_)) rfl)⟩
      have hi2 : i < m := by
        have : (i : Int) < n := k
        omega
      obtain ⟨j, hj⟩ : ∃ j, m - i = j + 1 := ⟨m - i - 1, by omega⟩
      have hj2 : m - (i + 1) = j := by omega
      rw [hj, many] at g5
      have cx := c li (by omega) g4
      cases hrd : rd li with
      | none =>
        rw [hrd] at cx g5
        simp only [rres, rrest, PN] at cx
        have g5 : M = none := g5
        rw [g5]
        (repeat (first | refine K4 ?_ | refine S1 ?_ | refine S2 ?_ | refine S3 ?_ | refine S4 ?_))
        refine RG.call rfl rfl rfl rfl (cx) [0] rfl rfl rfl rfl (.cons rfl (.one rfl) (Reg.lt_one rfl) ⟨[], _, rfl⟩ (.nil _)) (.cons (.one rfl) (.nil _)) (fun _ h => by first | exact h | exact False.elim h) rfl rfl rfl ?_
        repeat refine RG.dead 30 rfl rfl ?_
        refine RG.done rfl ?_
        exact AW.absurd 30 rfl
      | some p =>
        obtain ⟨x, l'⟩ := p
        rw [hrd] at cx g5
        simp only [rres, rrest, PN] at cx
        obtain ⟨e1, -⟩ := hcan _ _ _ hrd
        have hsub : ∀ y, y ∈ l' → I64' y := fun y hy => g4 y (by rw [e1]; simp [hy])
        have hlen' : l'.length ≤ li.length := by rw [e1, List.length_append]; omega
        have g6 : M = (many rd j l').map (fun q => ((xs ++ [x]) ++ q.1, q.2)) := by
          rw [g5]
          simp only
          cases many rd j l' with
          | none => rfl
          | some q => simp
        have hfl : (flC Df.cl xs).length = xs.length * 12 := flC_len Df.cl_len xs
        have happ := flC_append Df.cl xs [x]
        obtain ⟨Z, hZ⟩ : ∃ Z, Z = xs ++ [x] := ⟨_, rfl⟩
        have lZ : xs.length + 1 = Z.length := by rw [hZ, List.length_append]; rfl
        rw [← hZ] at happ g6
        obtain ⟨q1, q2, q3, q4, q5, r1, r2, r3, r4, r5, r6, r7⟩ := x; simp only [Df.cl] at cx
        (repeat (first | refine K4 ?_ | refine S1 ?_ | refine S2 ?_ | refine S3 ?_ | refine S4 ?_))
        refine RG.call rfl rfl rfl rfl (cx) [0] rfl rfl rfl rfl (.cons rfl (.one rfl) (Reg.lt_one rfl) ⟨[], _, rfl⟩ (.nil _)) (.cons (.one rfl) (.nil _)) (fun _ h => by first | exact h | exact False.elim h) rfl rfl rfl ?_
        (first | refine L2 ?_)
        refine RG.append tok rfl rfl rfl rfl rfl rfl rfl rfl (n1 := xs.length) (c := flC Df.cl xs) (ks := [2]) rfl (m := 1) (ks' := [3]) rfl rfl (by omega) rfl (by omega) (by omega) rfl (c' := flC Df.cl Z) (by rw [List.take_of_length_le (by omega), happ]; rfl) ?_
        rw [lZ]
        (repeat (first | refine K2 ?_ | refine K4 ?_ | refine RG.d ?_ | refine S2 ?_))
        refine ⟨(i + 1, Z, l'), ⟨by dsimp only; omega, by dsimp only; omega, by dsimp only; omega, hsub, by dsimp only; rw [hj2]; exact g6⟩, by dsimp only; omega, Sub.renB sigM ?_ ?_ sigM_inj (fun a ha => sigM_hi a ha) (fun a ha => sigM_q a ha)⟩
        · exact SubEr.put rfl (SubEr.put rfl (SubEr.put rfl (SubEr.put rfl (SubEr.no _ _))))
        · exact SubHr.put rfl rfl (SubHr.putR rfl rfl (SubHr.put rfl (flC_free (fun _ => rfl) _) (SubHr.no _ _)))
    rintro ⟨xs, li⟩ hM'
    subst hM'
    (repeat (first | refine K4 ?_ | refine RG.d ?_ | refine S1 ?_ | refine S2 ?_ | refine S6 ?_))
    exact ⟨⟨_, rfl, rfl⟩, rfl, .cons rfl (.one rfl) (Reg.lt_one rfl) ⟨[], _, rfl⟩ (.nil _)⟩

set_option maxHeartbeats 16000000 in
theorem hd_rd (t : List Int) (ht : t.length < 8) (k : Nat) (hk : k ≤ 200000) (ws : List Int) (hws : ws.length ≤ k) (hi : ∀ x, x ∈ ws → I64' x) : FC Try.prog ge 85 [rdrA] [.one (stB ws t)] (rres (fun x : Hd => .agg x.cl) (rdHd ws)) [.one (stB (rrest (rdHd ws)) t)] (PN (rdHd ws)) := by
  have nn := next_no t ht
  have mrgN : FC Try.prog ge 78 [rdrA, .fn 79 [rdrA] []] [.one (stB [] t)] A.no [.one (stB [] t)] PW := many_rg_fc _ rdRg rg_can t ht 0 (by omega) (fun ws h hi => by omega) [] (by simp) (fun _ h => by cases h)
  obtain ⟨M, hM⟩ : ∃ M, M = rdHd ws := ⟨_, rfl⟩
  rw [← hM]
  refine FC.of_AW tok Try.func85 (by kernel_rfl) rfl Try.ntmps85 [] rfl rfl rfl ?_; intro w0 X0 Y f0 hI0 hX0
  refine S1 ?_; (repeat (first | refine L2 ?_ | refine RG.d ?_ | refine S2 ?_))
  refine S1 ?_; (repeat (first | refine K4 ?_ | refine L1 ?_ | refine S2 ?_))
  rcases ws with _ | ⟨id, w1⟩
  · rw [show M = none by rw [hM]; simp only [rdHd, one]]
    refine RG.call rfl rfl rfl rfl (nn) [0] rfl rfl rfl rfl (.cons rfl (.one rfl) (Reg.lt_one rfl) ⟨[], _, rfl⟩ (.nil _)) (.cons (.one rfl) (.nil _)) (fun _ h => by first | exact h | exact False.elim h) rfl rfl rfl ?_
    (repeat (first | refine RG.call rfl rfl rfl rfl (nn) [0] rfl rfl rfl rfl (.cons rfl (.one rfl) (Reg.lt_one rfl) ⟨[], _, rfl⟩ (.nil _)) (.cons (.one rfl) (.nil _)) (fun _ h => by first | exact h | exact False.elim h) rfl rfl rfl ?_ | refine K4 ?_ | refine L1 ?_ | refine L2 ?_ | refine L3 ?_ | refine RG.dd ?_))
    repeat (refine RG.dead 6 rfl rfl ?_; (repeat (first | refine RG.call rfl rfl rfl rfl (nn) [0] rfl rfl rfl rfl (.cons rfl (.one rfl) (Reg.lt_one rfl) ⟨[], _, rfl⟩ (.nil _)) (.cons (.one rfl) (.nil _)) (fun _ h => by first | exact h | exact False.elim h) rfl rfl rfl ?_)))
    exact AW.absurd 6 rfl
  have c1 := next_ok id w1 t (hi id (by simp)) (by simp only [List.length_cons] at hws; unfold BW; omega) ht
  have hi1 : ∀ x, x ∈ w1 → I64' x := fun x hx => hi x (by simp [hx])
  simp only [List.length_cons] at hws
  refine RG.call rfl rfl rfl rfl (c1) [0] rfl rfl rfl rfl (.cons rfl (.one rfl) (Reg.lt_one rfl) ⟨[], _, rfl⟩ (.nil _)) (.cons (.one rfl) (.nil _)) (fun _ h => by first | exact h | exact False.elim h) rfl rfl rfl ?_
  (repeat (first | refine K4 ?_ | refine L1 ?_))
  rcases w1 with _ | ⟨firm, w2⟩
  · rw [show M = none by rw [hM]; simp only [rdHd, one]]
    refine RG.call rfl rfl rfl rfl (nn) [0] rfl rfl rfl rfl (.cons rfl (.one rfl) (Reg.lt_one rfl) ⟨[], _, rfl⟩ (.nil _)) (.cons (.one rfl) (.nil _)) (fun _ h => by first | exact h | exact False.elim h) rfl rfl rfl ?_
    (repeat (first | refine RG.call rfl rfl rfl rfl (nn) [0] rfl rfl rfl rfl (.cons rfl (.one rfl) (Reg.lt_one rfl) ⟨[], _, rfl⟩ (.nil _)) (.cons (.one rfl) (.nil _)) (fun _ h => by first | exact h | exact False.elim h) rfl rfl rfl ?_ | refine K4 ?_ | refine L1 ?_ | refine L2 ?_ | refine L3 ?_ | refine RG.dd ?_))
    repeat (refine RG.dead 9 rfl rfl ?_; (repeat (first | refine RG.call rfl rfl rfl rfl (nn) [0] rfl rfl rfl rfl (.cons rfl (.one rfl) (Reg.lt_one rfl) ⟨[], _, rfl⟩ (.nil _)) (.cons (.one rfl) (.nil _)) (fun _ h => by first | exact h | exact False.elim h) rfl rfl rfl ?_)))
    exact AW.absurd 9 rfl
  have c2 := next_ok firm w2 t (hi1 firm (by simp)) (by simp only [List.length_cons] at hws; unfold BW; omega) ht
  have hi2 : ∀ x, x ∈ w2 → I64' x := fun x hx => hi1 x (by simp [hx])
  simp only [List.length_cons] at hws
  refine RG.call rfl rfl rfl rfl (c2) [0] rfl rfl rfl rfl (.cons rfl (.one rfl) (Reg.lt_one rfl) ⟨[], _, rfl⟩ (.nil _)) (.cons (.one rfl) (.nil _)) (fun _ h => by first | exact h | exact False.elim h) rfl rfl rfl ?_
  (repeat (first | refine K4 ?_ | refine L1 ?_))
  rcases w2 with _ | ⟨part, w3⟩
  · rw [show M = none by rw [hM]; simp only [rdHd, one]]
    refine RG.call rfl rfl rfl rfl (nn) [0] rfl rfl rfl rfl (.cons rfl (.one rfl) (Reg.lt_one rfl) ⟨[], _, rfl⟩ (.nil _)) (.cons (.one rfl) (.nil _)) (fun _ h => by first | exact h | exact False.elim h) rfl rfl rfl ?_
    (repeat (first | refine K4 ?_ | refine L2 ?_ | refine L3 ?_ | refine RG.dd ?_))
    repeat (refine RG.dead 12 rfl rfl ?_; (repeat (first | refine K1 ?_)))
    exact AW.absurd 12 rfl
  have c3 := next_ok part w3 t (hi2 part (by simp)) (by simp only [List.length_cons] at hws; unfold BW; omega) ht
  have hi3 : ∀ x, x ∈ w3 → I64' x := fun x hx => hi2 x (by simp [hx])
  simp only [List.length_cons] at hws
  refine RG.call rfl rfl rfl rfl (c3) [0] rfl rfl rfl rfl (.cons rfl (.one rfl) (Reg.lt_one rfl) ⟨[], _, rfl⟩ (.nil _)) (.cons (.one rfl) (.nil _)) (fun _ h => by first | exact h | exact False.elim h) rfl rfl rfl ?_
  (repeat (first | refine K4 ?_ | refine L2 ?_ | refine L3 ?_ | refine RG.dd ?_))
  refine S1 ?_; (repeat (first | refine K4 ?_ | refine L1 ?_ | refine S2 ?_))
  have c4 := many_rg_fc _ rdRg rg_can t ht k (by omega) (fun ws h hi => span_rd t ht ws (by omega) hi) w3 (by omega) hi3
  cases h4 : lst rdRg w3 with
  | none =>
    rw [show M = none by rw [hM]; simp only [rdHd, one, h4]]
    rw [h4] at c4
    simp only [rres, rrest, PN] at c4
    refine RG.call rfl rfl rfl rfl (c4) [0] rfl rfl rfl rfl (.cons rfl (.one rfl) (Reg.lt_one rfl) ⟨[], _, rfl⟩ (.nil _)) (.cons (.one rfl) (.nil _)) (fun _ h => by first | exact h | exact False.elim h) rfl rfl rfl ?_
    (repeat (first | refine RG.call rfl rfl rfl rfl (mrgN) [0] rfl rfl rfl rfl (.cons rfl (.one rfl) (Reg.lt_one rfl) ⟨[], _, rfl⟩ (.nil _)) (.cons (.one rfl) (.nil _)) (fun _ h => by first | exact h | exact False.elim h) rfl rfl rfl ?_ | refine K4 ?_ | refine L1 ?_ | refine L3 ?_ | refine RG.dd ?_))
    repeat (refine RG.dead 17 rfl rfl ?_; (repeat (first | refine RG.call rfl rfl rfl rfl (mrgN) [0] rfl rfl rfl rfl (.cons rfl (.one rfl) (Reg.lt_one rfl) ⟨[], _, rfl⟩ (.nil _)) (.cons (.one rfl) (.nil _)) (fun _ h => by first | exact h | exact False.elim h) rfl rfl rfl ?_)))
    exact AW.absurd 17 rfl
  | some p =>
    obtain ⟨params, w4⟩ := p
    rw [h4] at c4
    simp only [rres, rrest, PN] at c4
    obtain ⟨e4, -⟩ := lst_can rg_can h4
    have hi4 : ∀ x, x ∈ w4 → I64' x := fun x hx => hi3 x (by rw [e4]; simp [hx])
    have hl4 : w4.length ≤ w3.length := by rw [e4]; simp only [List.length_cons, List.length_append]; omega
    refine RG.call rfl rfl rfl rfl (c4) [0] rfl rfl rfl rfl (.cons rfl (.one rfl) (Reg.lt_one rfl) ⟨[], _, rfl⟩ (.nil _)) (.cons (.one rfl) (.nil _)) (fun _ h => by first | exact h | exact False.elim h) rfl rfl rfl ?_
    (repeat (first | refine K4 ?_ | refine L1 ?_))
    have c5 := many_rg_fc _ rdRg rg_can t ht k (by omega) (fun ws h hi => span_rd t ht ws (by omega) hi) w4 (by omega) hi4
    cases h5 : lst rdRg w4 with
    | none =>
      rw [show M = none by rw [hM]; simp only [rdHd, one, h4, h5]]
      rw [h5] at c5
      simp only [rres, rrest, PN] at c5
      refine RG.call rfl rfl rfl rfl (c5) [0] rfl rfl rfl rfl (.cons rfl (.one rfl) (Reg.lt_one rfl) ⟨[], _, rfl⟩ (.nil _)) (.cons (.one rfl) (.nil _)) (fun _ h => by first | exact h | exact False.elim h) rfl rfl rfl ?_
      (repeat (first | refine K4 ?_ | refine L3 ?_ | refine RG.dd ?_))
      repeat (refine RG.dead 21 rfl rfl ?_; (repeat (first | refine K1 ?_)))
      exact AW.absurd 21 rfl
    | some p =>
      obtain ⟨given, w5⟩ := p
      rw [h5] at c5
      simp only [rres, rrest, PN] at c5
      obtain ⟨e5, -⟩ := lst_can rg_can h5
      have hi5 : ∀ x, x ∈ w5 → I64' x := fun x hx => hi4 x (by rw [e5]; simp [hx])
      have hl5 : w5.length ≤ w4.length := by rw [e5]; simp only [List.length_cons, List.length_append]; omega
      refine RG.call rfl rfl rfl rfl (c5) [0] rfl rfl rfl rfl (.cons rfl (.one rfl) (Reg.lt_one rfl) ⟨[], _, rfl⟩ (.nil _)) (.cons (.one rfl) (.nil _)) (fun _ h => by first | exact h | exact False.elim h) rfl rfl rfl ?_
      (repeat (first | refine K4 ?_ | refine L3 ?_ | refine RG.dd ?_))
      have e : M = some (⟨id, firm, part, params, given⟩, w5) := by rw [hM]; simp only [rdHd, one, h4, h5]
      rw [e]
      simp only [rres, rrest, Hd.cl]
      (repeat (first | refine L1 ?_ | refine L3 ?_ | refine RG.d ?_ | refine S1 ?_ | refine S2 ?_ | refine S6 ?_))
      exact ⟨⟨_, rfl, rfl⟩, rfl, .cons rfl (.one rfl) (Reg.lt_one rfl) ⟨[], _, rfl⟩ (.nil _)⟩

set_option maxHeartbeats 8000000 in
theorem qu_rd (t : List Int) (ht : t.length < 8) (ws : List Int) (hws : ws.length ≤ 200000) (hi : ∀ x, x ∈ ws → I64' x) : FC Try.prog ge 81 [.ptr 1 [] 0] [.one (stB ws t), .one [.ptr 0 [] 0]] (rres (fun x : Qu => .agg x.cl) (rdQu ws)) [.one (stB (rrest (rdQu ws)) t), .one [.ptr 0 [] 0]] (PN (rdQu ws)) := by
  have nn := next_no t ht
  have spN : FC Try.prog ge 79 [rdrA] [.one (stB [] t)] A.no [.one (stB [] t)] PW := span_rd t ht [] (by simp) (fun _ h => by cases h)
  obtain ⟨M, hM⟩ : ∃ M, M = rdQu ws := ⟨_, rfl⟩
  rw [← hM]
  refine FC.of_AW tok Try.func81 (by kernel_rfl) rfl Try.ntmps81 [] rfl rfl rfl ?_; intro w0 X0 Y f0 hI0 hX0
  refine S1 ?_; (repeat (first | refine L2 ?_ | refine RG.d ?_ | refine S2 ?_))
  refine S1 ?_; (repeat (first | refine K4 ?_ | refine L1 ?_ | refine S2 ?_))
  rcases ws with _ | ⟨a, w1⟩
  · rw [show M = none from hM]
    refine RG.call rfl rfl rfl rfl (nn) [0] rfl rfl rfl rfl (.cons rfl (.one rfl) (Reg.lt_one rfl) ⟨[], _, rfl⟩ (.nil _)) (.cons (.one rfl) (.nil _)) (fun _ h => by first | exact h | exact False.elim h) rfl rfl rfl ?_
    (repeat (first | refine RG.call rfl rfl rfl rfl (spN) [0] rfl rfl rfl rfl (.cons rfl (.one rfl) (Reg.lt_one rfl) ⟨[], _, rfl⟩ (.nil _)) (.cons (.one rfl) (.nil _)) (fun _ h => by first | exact h | exact False.elim h) rfl rfl rfl ?_ | refine L1 ?_))
    repeat (refine RG.dead 4 rfl rfl ?_; (repeat (first | refine RG.dd ?_)))
    exact AW.absurd 4 rfl
  have c1 := next_ok a w1 t (hi a (by simp)) (by simp only [List.length_cons] at hws; unfold BW; omega) ht
  have hi1 : ∀ x, x ∈ w1 → I64' x := fun x hx => hi x (by simp [hx])
  simp only [List.length_cons] at hws
  refine RG.call rfl rfl rfl rfl (c1) [0] rfl rfl rfl rfl (.cons rfl (.one rfl) (Reg.lt_one rfl) ⟨[], _, rfl⟩ (.nil _)) (.cons (.one rfl) (.nil _)) (fun _ h => by first | exact h | exact False.elim h) rfl rfl rfl ?_
  (repeat (first | refine L1 ?_))
  have c2 := span_rd t ht w1 (by omega) hi1
  cases h2 : rdRg w1 with
  | none =>
    rw [show M = none by rw [hM]; simp only [rdQu, one, h2]]
    rw [h2] at c2
    simp only [rres, rrest, PN] at c2
    refine RG.call rfl rfl rfl rfl (c2) [0] rfl rfl rfl rfl (.cons rfl (.one rfl) (Reg.lt_one rfl) ⟨[], _, rfl⟩ (.nil _)) (.cons (.one rfl) (.nil _)) (fun _ h => by first | exact h | exact False.elim h) rfl rfl rfl ?_
    (repeat (first | refine K1 ?_))
    repeat (refine RG.dead 6 rfl rfl ?_; (repeat (first | refine RG.dd ?_)))
    exact AW.absurd 6 rfl
  | some p =>
    obtain ⟨⟨r1, r2, r3⟩, w2⟩ := p
    rw [h2] at c2
    simp only [rres, rrest, PN, Rg.cl] at c2
    refine RG.call rfl rfl rfl rfl (c2) [0] rfl rfl rfl rfl (.cons rfl (.one rfl) (Reg.lt_one rfl) ⟨[], _, rfl⟩ (.nil _)) (.cons (.one rfl) (.nil _)) (fun _ h => by first | exact h | exact False.elim h) rfl rfl rfl ?_
    (repeat (first | refine K4 ?_ | refine L3 ?_ | refine RG.dd ?_))
    have e : M = some (⟨a, ⟨r1, r2, r3⟩⟩, w2) := by rw [hM]; simp only [rdQu, one, h2]
    rw [e]
    simp only [rres, rrest, Qu.cl]
    (repeat (first | refine S6 ?_))
    exact ⟨⟨_, rfl, rfl⟩, rfl, .cons rfl (.one rfl) (Reg.lt_one rfl) ⟨[], _, rfl⟩ (.cons rfl (.one rfl) (Reg.lt_one rfl) ⟨[], _, rfl⟩ (.nil _))⟩
end Go.Proofs.Ytmfccaidgaelcaa
