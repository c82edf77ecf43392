/- How definitions are read. No conditions. -/
import Derived.Test.YtmfccaidgaelcaaEc8
import Derived.Test.YtmfccaidgaelcaaAbsE
set_option linter.unusedVariables false
set_option linter.unusedSimpArgs false
namespace Go.Abs
/-- Code that never comes to an end but by a panic. -/
theorem AW.no {P : Program} {C : Ctx} {Q : AQ} {s : St} {c : Code} (d : Nat) (h : AW P C c ⟨fun _ s => s.e d = some A.no, Q.p⟩ s) : AW P C c Q s := by
  intro f a w hr
  refine wp_mono (h f a w hr) ?_
  intro e a w hh
  cases e with
  | normal => obtain ⟨s, f, h1, h2⟩ := hh; exact ((h2.e d _ h1).no).elim
  | exit id => obtain ⟨s, f, h1, h2⟩ := hh; exact ((h2.e d _ h1).no).elim
  | goto l => obtain ⟨s, f, h1, h2⟩ := hh; exact ((h2.e d _ h1).no).elim
  | ret => obtain ⟨s, f, h1, h2⟩ := hh; exact ((h2.e d _ h1).no).elim
  | panic ch => exact hh
  | outgrown => exact hh
end Go.Abs
namespace Go.Proofs.Ytmfccaidgaelcaa
open Go.Abs Go Go.RowKit
theorem lst_nil {α : Type} (f : Rdr α) : lst f [] = none := rfl

set_option maxHeartbeats 8000000 in
theorem span_rd (t : List Int) (ht : t.length < 8) (ws : List Int) (hws : ws.length ≤ 200000) (hi : ∀ x, x ∈ ws → I64' x) : FC Try.prog ge 79 [rdrA] [.one (stB ws t)] (rres (fun x : Rg => .agg x.cl) (rdRg ws)) [.one (stB (rrest (rdRg ws)) t)] (PN (rdRg ws)) := by
  have nn := next_no t ht
  obtain ⟨M, hM⟩ : ∃ M, M = rdRg ws := ⟨_, rfl⟩
  rw [← hM]
  refine FC.of_AW tok Try.func79 (by kernel_rfl) rfl Try.ntmps79 [] rfl rfl rfl ?_; intro w0 X0 Y f0 hI0 hX0
  refine S1 ?_; (repeat (first | refine L2 ?_ | refine RG.d ?_ | refine S2 ?_))
  refine S1 ?_; (repeat (first | refine K4 ?_ | refine L1 ?_ | refine S2 ?_))
  rcases ws with _ | ⟨a, w1⟩
  · have e : M = none := by rw [hM]; simp only [rdRg, one]
    rw [e]
    refine RG.call rfl rfl rfl rfl (nn) [0] rfl rfl rfl rfl (.cons rfl (.one rfl) (Reg.lt_one rfl) ⟨[], _, rfl⟩ (.nil _)) (.cons (.one rfl) (.nil _)) (fun _ h => by first | exact h | exact False.elim h) rfl rfl rfl ?_
    (repeat (first | refine RG.call rfl rfl rfl rfl (nn) [0] rfl rfl rfl rfl (.cons rfl (.one rfl) (Reg.lt_one rfl) ⟨[], _, rfl⟩ (.nil _)) (.cons (.one rfl) (.nil _)) (fun _ h => by first | exact h | exact False.elim h) rfl rfl rfl ?_ | refine K4 ?_ | refine L1 ?_ | refine L3 ?_ | refine RG.dd ?_))
    repeat (refine RG.dead 5 rfl rfl ?_; (repeat (first | refine K1 ?_)))
    exact AW.absurd 5 rfl
  have c1 := next_ok a w1 t (hi a (by simp)) (by simp only [List.length_cons] at hws; unfold BW; omega) ht
  have hi1 : ∀ x, x ∈ w1 → I64' x := fun x hx => hi x (by simp [hx])
  simp only [List.length_cons] at hws
  refine RG.call rfl rfl rfl rfl (c1) [0] rfl rfl rfl rfl (.cons rfl (.one rfl) (Reg.lt_one rfl) ⟨[], _, rfl⟩ (.nil _)) (.cons (.one rfl) (.nil _)) (fun _ h => by first | exact h | exact False.elim h) rfl rfl rfl ?_
  (repeat (first | refine K4 ?_ | refine L1 ?_))
  rcases w1 with _ | ⟨b, w2⟩
  · have e : M = none := by rw [hM]; simp only [rdRg, one]
    rw [e]
    refine RG.call rfl rfl rfl rfl (nn) [0] rfl rfl rfl rfl (.cons rfl (.one rfl) (Reg.lt_one rfl) ⟨[], _, rfl⟩ (.nil _)) (.cons (.one rfl) (.nil _)) (fun _ h => by first | exact h | exact False.elim h) rfl rfl rfl ?_
    (repeat (first | refine RG.call rfl rfl rfl rfl (nn) [0] rfl rfl rfl rfl (.cons rfl (.one rfl) (Reg.lt_one rfl) ⟨[], _, rfl⟩ (.nil _)) (.cons (.one rfl) (.nil _)) (fun _ h => by first | exact h | exact False.elim h) rfl rfl rfl ?_ | refine K4 ?_ | refine L1 ?_ | refine L3 ?_ | refine RG.dd ?_))
    repeat (refine RG.dead 8 rfl rfl ?_; (repeat (first | refine K1 ?_)))
    exact AW.absurd 8 rfl
  have c2 := next_ok b w2 t (hi1 b (by simp)) (by simp only [List.length_cons] at hws; unfold BW; omega) ht
  have hi2 : ∀ x, x ∈ w2 → I64' x := fun x hx => hi1 x (by simp [hx])
  simp only [List.length_cons] at hws
  refine RG.call rfl rfl rfl rfl (c2) [0] rfl rfl rfl rfl (.cons rfl (.one rfl) (Reg.lt_one rfl) ⟨[], _, rfl⟩ (.nil _)) (.cons (.one rfl) (.nil _)) (fun _ h => by first | exact h | exact False.elim h) rfl rfl rfl ?_
  (repeat (first | refine K4 ?_ | refine L1 ?_))
  rcases w2 with _ | ⟨c, w3⟩
  · have e : M = none := by rw [hM]; simp only [rdRg, one]
    rw [e]
    refine RG.call rfl rfl rfl rfl (nn) [0] rfl rfl rfl rfl (.cons rfl (.one rfl) (Reg.lt_one rfl) ⟨[], _, rfl⟩ (.nil _)) (.cons (.one rfl) (.nil _)) (fun _ h => by first | exact h | exact False.elim h) rfl rfl rfl ?_
    (repeat (first | refine K4 ?_ | refine L3 ?_ | refine RG.dd ?_))
    repeat (refine RG.dead 11 rfl rfl ?_; (repeat (first | refine K1 ?_)))
    exact AW.absurd 11 rfl
  have c3 := next_ok c w3 t (hi2 c (by simp)) (by simp only [List.length_cons] at hws; unfold BW; omega) ht
  have hi3 : ∀ x, x ∈ w3 → I64' x := fun x hx => hi2 x (by simp [hx])
  simp only [List.length_cons] at hws
  refine RG.call rfl rfl rfl rfl (c3) [0] rfl rfl rfl rfl (.cons rfl (.one rfl) (Reg.lt_one rfl) ⟨[], _, rfl⟩ (.nil _)) (.cons (.one rfl) (.nil _)) (fun _ h => by first | exact h | exact False.elim h) rfl rfl rfl ?_
  (repeat (first | refine K4 ?_ | refine L3 ?_ | refine RG.dd ?_))
  have e : M = some (⟨a, b, c⟩, w3) := by rw [hM]; simp only [rdRg, one]
  rw [e]
  simp only [rres, rrest]
  (repeat (first | refine S6 ?_))
  exact ⟨⟨_, rfl, rfl⟩, rfl, .cons rfl (.one rfl) (Reg.lt_one rfl) ⟨[], _, rfl⟩ (.nil _)⟩
set_option maxHeartbeats 8000000 in
theorem arr_rd (t : List Int) (ht : t.length < 8) (ws : List Int) (hws : ws.length ≤ 200000) (hi : ∀ x, x ∈ ws → I64' x) : FC Try.prog ge 107 [.ptr 1 [] 0] [.one (stB ws t), .one [.ptr 0 [] 0]] (rres (fun x : Ar => .agg x.cl) (rdAr ws)) [.one (stB (rrest (rdAr ws)) t), .one [.ptr 0 [] 0]] (PN (rdAr ws)) := by
  have nn := next_no t ht
  obtain ⟨M, hM⟩ : ∃ M, M = rdAr ws := ⟨_, rfl⟩
  rw [← hM]
  refine FC.of_AW tok Try.func107 (by kernel_rfl) rfl Try.ntmps107 [] rfl rfl rfl ?_; intro w0 X0 Y f0 hI0 hX0
  refine S1 ?_; (repeat (first | refine L2 ?_ | refine RG.d ?_ | refine S2 ?_))
  refine S1 ?_; (repeat (first | refine K4 ?_ | refine L1 ?_ | refine S2 ?_))
  rcases ws with _ | ⟨a, w1⟩
  · have e : M = none := by rw [hM]; simp only [rdAr, one]
    rw [e]
    refine RG.call rfl rfl rfl rfl (nn) [0] rfl rfl rfl rfl (.cons rfl (.one rfl) (Reg.lt_one rfl) ⟨[], _, rfl⟩ (.nil _)) (.cons (.one rfl) (.nil _)) (fun _ h => by first | exact h | exact False.elim h) rfl rfl rfl ?_
    (repeat (first | refine RG.call rfl rfl rfl rfl (nn) [0] rfl rfl rfl rfl (.cons rfl (.one rfl) (Reg.lt_one rfl) ⟨[], _, rfl⟩ (.nil _)) (.cons (.one rfl) (.nil _)) (fun _ h => by first | exact h | exact False.elim h) rfl rfl rfl ?_ | refine K4 ?_ | refine L1 ?_ | refine L3 ?_ | refine RG.dd ?_))
    repeat (refine RG.dead 4 rfl rfl ?_; (repeat (first | refine K1 ?_)))
    exact AW.absurd 4 rfl
  have c1 := next_ok a w1 t (hi a (by simp)) (by simp only [List.length_cons] at hws; unfold BW; omega) ht
  have hi1 : ∀ x, x ∈ w1 → I64' x := fun x hx => hi x (by simp [hx])
  simp only [List.length_cons] at hws
  refine RG.call rfl rfl rfl rfl (c1) [0] rfl rfl rfl rfl (.cons rfl (.one rfl) (Reg.lt_one rfl) ⟨[], _, rfl⟩ (.nil _)) (.cons (.one rfl) (.nil _)) (fun _ h => by first | exact h | exact False.elim h) rfl rfl rfl ?_
  (repeat (first | refine K4 ?_ | refine L1 ?_))
  rcases w1 with _ | ⟨b, w2⟩
  · have e : M = none := by rw [hM]; simp only [rdAr, one]
    rw [e]
    refine RG.call rfl rfl rfl rfl (nn) [0] rfl rfl rfl rfl (.cons rfl (.one rfl) (Reg.lt_one rfl) ⟨[], _, rfl⟩ (.nil _)) (.cons (.one rfl) (.nil _)) (fun _ h => by first | exact h | exact False.elim h) rfl rfl rfl ?_
    (repeat (first | refine K4 ?_ | refine L3 ?_ | refine RG.dd ?_))
    repeat (refine RG.dead 7 rfl rfl ?_; (repeat (first | refine K1 ?_)))
    exact AW.absurd 7 rfl
  have c2 := next_ok b w2 t (hi1 b (by simp)) (by simp only [List.length_cons] at hws; unfold BW; omega) ht
  have hi2 : ∀ x, x ∈ w2 → I64' x := fun x hx => hi1 x (by simp [hx])
  simp only [List.length_cons] at hws
  refine RG.call rfl rfl rfl rfl (c2) [0] rfl rfl rfl rfl (.cons rfl (.one rfl) (Reg.lt_one rfl) ⟨[], _, rfl⟩ (.nil _)) (.cons (.one rfl) (.nil _)) (fun _ h => by first | exact h | exact False.elim h) rfl rfl rfl ?_
  (repeat (first | refine K4 ?_ | refine L3 ?_ | refine RG.dd ?_))
  have e : M = some (⟨a, b⟩, w2) := by rw [hM]; simp only [rdAr, one]
  rw [e]
  simp only [rres, rrest]
  (repeat (first | refine S6 ?_))
  exact ⟨⟨_, rfl, rfl⟩, rfl, .cons rfl (.one rfl) (Reg.lt_one rfl) ⟨[], _, rfl⟩ (.cons rfl (.one rfl) (Reg.lt_one rfl) ⟨[], _, rfl⟩ (.nil _))⟩
set_option maxHeartbeats 8000000 in
theorem letter_rd (t : List Int) (ht : t.length < 8) (ws : List Int) (hws : ws.length ≤ 200000) (hi : ∀ x, x ∈ ws → I64' x) : FC Try.prog ge 105 [rdrA] [.one (stB ws t)] (rres (fun x : Int => .val (.int .u8 x)) (rdLe ws)) [.one (stB (rrest (rdLe ws)) t)] (PN (rdLe ws)) := by
  have nn := next_no t ht
  obtain ⟨M, hM⟩ : ∃ M, M = rdLe ws := ⟨_, rfl⟩
  rw [← hM]
  refine FC.of_AW tok Try.func105 (by kernel_rfl) rfl Try.ntmps105 [] rfl rfl rfl ?_; intro w0 X0 Y f0 hI0 hX0
  refine S1 ?_; (repeat (first | refine K4 ?_ | refine L2 ?_ | refine RG.d ?_ | refine S2 ?_))
  refine S1 ?_; (repeat (first | refine K4 ?_ | refine L1 ?_ | refine S2 ?_))
  rcases ws with _ | ⟨x, w⟩
  · rw [show M = none from hM]
    refine RG.call rfl rfl rfl rfl (nn) [0] rfl rfl rfl rfl (.cons rfl (.one rfl) (Reg.lt_one rfl) ⟨[], _, rfl⟩ (.nil _)) (.cons (.one rfl) (.nil _)) (fun _ h => by first | exact h | exact False.elim h) rfl rfl rfl ?_
    (repeat (first | refine K4 ?_ | refine RG.d ?_))
    exact AW.absurd 6 rfl
  have c := next_ok x w t (hi x (by simp)) (by simp only [List.length_cons] at hws; unfold BW; omega) ht
  refine RG.call rfl rfl rfl rfl (c) [0] rfl rfl rfl rfl (.cons rfl (.one rfl) (Reg.lt_one rfl) ⟨[], _, rfl⟩ (.nil _)) (.cons (.one rfl) (.nil _)) (fun _ h => by first | exact h | exact False.elim h) rfl rfl rfl ?_
  (repeat (first | refine K4 ?_ | refine RG.d ?_))
  refine S1 ?_
  (repeat (first | refine K4 ?_ | refine S1 ?_ | refine S2 ?_))
  by_cases h1 : x < 0
  · rw [show M = none by rw [hM]; simp only [rdLe, one]; rw [if_neg (by omega)]]
    refine RG.split 9 rfl (fun _ => ?_) (fun k => absurd h1 k)
    (repeat (first | refine K1 ?_ | refine K4 ?_ | refine RG.d ?_ | refine S2 ?_ | refine S7 ?_))
    refine RG.panic rfl rfl rfl rfl ?_
    (repeat (first | refine K4 ?_ | refine RG.d ?_ | refine S1 ?_ | refine S2 ?_))
    exact AW.absurd 14 rfl
  refine RG.split 9 rfl (fun k => absurd k h1) (fun _ => ?_)
  (repeat (first | refine K4 ?_ | refine RG.d ?_))
  by_cases h2 : 255 < x
  · rw [show M = none by rw [hM]; simp only [rdLe, one]; rw [if_neg (by omega)]]
    refine AW.condD rfl (fun _ => ?_) (fun k => absurd h2 k)
    (repeat (first | refine K4 ?_ | refine S2 ?_))
    refine RG.panic rfl rfl rfl rfl ?_
    (repeat (first | refine K4 ?_ | refine RG.d ?_ | refine S1 ?_ | refine S2 ?_))
    exact AW.absurd 14 rfl
  refine AW.condD rfl (fun k => absurd k h2) (fun _ => ?_)
  have e : M = some (x, w) := by rw [hM]; simp only [rdLe, one]; rw [if_pos ⟨by omega, by omega⟩]
  rw [e]
  simp only [rres, rrest]
  refine S3 ?_
  refine S1 ?_
  refine S2 ?_
  (first | refine K4 ?_)
  refine RG.val tok rfl rfl rfl trivial rfl (iv_u8 (n := x) (by omega)) ?_
  (repeat (first | refine K4 ?_ | refine RG.d ?_ | refine S6 ?_))
  exact ⟨⟨_, rfl, rfl⟩, rfl, .cons rfl (.one rfl) (Reg.lt_one rfl) ⟨[], _, rfl⟩ (.nil _)⟩
theorem kind_ok (n : Int) (ws t : List Int) (hn : I64' n) (hw : ws.length ≤ BW) (ht : t.length < 8) : FC Try.prog ge 77 [rdrA, i64 n] [.one (stB (n :: ws) t)] (.tup []) [.one (stB ws t)] NoP := by
  have c := next_ok n ws t hn hw ht
  refine FC.of_AW tok Try.func77 (by kernel_rfl) rfl Try.ntmps77 [] rfl rfl rfl ?_; intro w0 X0 Y f0 hI0 hX0
  refine S1 ?_; (repeat (first | refine L2 ?_ | refine RG.d ?_ | refine S2 ?_))
  refine S1 ?_
  (repeat (first | refine K4 ?_ | refine L1 ?_ | refine S2 ?_))
  refine RG.call rfl rfl rfl rfl (c) [0] rfl rfl rfl rfl (.cons rfl (.one rfl) (Reg.lt_one rfl) ⟨[], _, rfl⟩ (.nil _)) (.cons (.one rfl) (.nil _)) (fun _ h => by first | exact h | exact False.elim h) rfl rfl rfl ?_
  (repeat (first | refine K4 ?_ | refine RG.d ?_))
  refine AW.condD rfl (fun k => absurd rfl k) (fun _ => ?_)
  (repeat (first | refine S3 ?_))
  exact ⟨⟨_, rfl, rfl⟩, rfl, .cons rfl (.one rfl) (Reg.lt_one rfl) ⟨[], _, rfl⟩ (.nil _)⟩
theorem kind_no1 (n m : Int) (ws t : List Int) (hm : I64' m) (hnm : m ≠ n) (hw : ws.length ≤ BW) (ht : t.length < 8) : FC Try.prog ge 77 [rdrA, i64 n] [.one (stB (m :: ws) t)] A.no [.one (stB [] t)] PW := by
  have c := next_ok m ws t hm hw ht
  refine FC.of_AW tok Try.func77 (by kernel_rfl) rfl Try.ntmps77 [] rfl rfl rfl ?_; intro w0 X0 Y f0 hI0 hX0
  refine S1 ?_; (repeat (first | refine L2 ?_ | refine RG.d ?_ | refine S2 ?_))
  refine S1 ?_
  (repeat (first | refine K4 ?_ | refine L1 ?_ | refine S2 ?_))
  refine RG.call rfl rfl rfl rfl (c) [0] rfl rfl rfl rfl (.cons rfl (.one rfl) (Reg.lt_one rfl) ⟨[], _, rfl⟩ (.nil _)) (.cons (.one rfl) (.nil _)) (fun _ h => by first | exact h | exact False.elim h) rfl rfl rfl ?_
  (repeat (first | refine K4 ?_ | refine RG.d ?_))
  refine AW.condD rfl (fun _ => ?_) (fun k => absurd hnm k)
  refine AW.no 10 ?_
  (repeat (first | refine K4 ?_ | refine S2 ?_))
  refine RG.panic rfl rfl rfl rfl ?_
  (repeat (first | refine RG.d ?_))
  rfl
theorem kind_no (n : Int) (t : List Int) (ht : t.length < 8) : FC Try.prog ge 77 [rdrA, i64 n] [.one (stB [] t)] A.no [.one (stB [] t)] PW := by
  have c := next_no t ht
  refine FC.of_AW tok Try.func77 (by kernel_rfl) rfl Try.ntmps77 [] rfl rfl rfl ?_; intro w0 X0 Y f0 hI0 hX0
  refine S1 ?_; (repeat (first | refine L2 ?_ | refine RG.d ?_ | refine S2 ?_))
  refine S1 ?_
  (repeat (first | refine K4 ?_ | refine L1 ?_ | refine S2 ?_))
  refine RG.call rfl rfl rfl rfl (c) [0] rfl rfl rfl rfl (.cons rfl (.one rfl) (Reg.lt_one rfl) ⟨[], _, rfl⟩ (.nil _)) (.cons (.one rfl) (.nil _)) (fun _ h => by first | exact h | exact False.elim h) rfl rfl rfl ?_
  repeat refine RG.dead 6 rfl rfl ?_
  refine RG.done rfl ?_
  exact AW.absurd 6 rfl

set_option maxHeartbeats 16000000 in
theorem ex_rd (t : List Int) (ht : t.length < 8) : ∀ k, k ≤ 200000 → ∀ ws : List Int, ws.length < k → (∀ x, x ∈ ws → I64' x) → FC Try.prog ge 121 [rdrA] [.one (stB ws t)] (rres (fun x : Ex => .agg x.cl) (rdEx k ws)) [.one (stB (rrest (rdEx k ws)) t)] (PN (rdEx k ws)) := by
  intro k
  induction k with
  | zero => intro _ ws h; omega
  | succ k ih =>
  intro hk ws hws hi
  have ih := ih (by omega)
  have nn := next_no t ht
  obtain ⟨M, hM⟩ : ∃ M, M = rdEx (k + 1) ws := ⟨_, rfl⟩
  rw [← hM]
  refine FC.of_AW tok Try.func121 (by kernel_rfl) rfl Try.ntmps121 [] rfl rfl rfl ?_; intro w0 X0 Y f0 hI0 hX0
  refine S1 ?_; (repeat (first | refine L2 ?_ | refine RG.d ?_ | refine S2 ?_))
  refine S1 ?_; (repeat (first | refine K4 ?_ | refine L1 ?_ | refine S2 ?_))
  rcases ws with _ | ⟨op, w1⟩
  · have e : M = none := by rw [hM]; simp only [rdEx, one]
    rw [e]
    refine RG.call rfl rfl rfl rfl (nn) [0] rfl rfl rfl rfl (.cons rfl (.one rfl) (Reg.lt_one rfl) ⟨[], _, rfl⟩ (.nil _)) (.cons (.one rfl) (.nil _)) (fun _ h => by first | exact h | exact False.elim h) rfl rfl rfl ?_
    (repeat (first | refine RG.call rfl rfl rfl rfl (nn) [0] rfl rfl rfl rfl (.cons rfl (.one rfl) (Reg.lt_one rfl) ⟨[], _, rfl⟩ (.nil _)) (.cons (.one rfl) (.nil _)) (fun _ h => by first | exact h | exact False.elim h) rfl rfl rfl ?_ | refine K4 ?_ | refine L1 ?_ | refine L2 ?_ | refine L3 ?_ | refine RG.dd ?_))
    repeat (refine RG.dead 6 rfl rfl ?_; (repeat (first | refine K1 ?_)))
    exact AW.absurd 6 rfl
  have c1 := next_ok op w1 t (hi op (by simp)) (by simp only [List.length_cons] at hws; unfold BW; omega) ht
  have hi1 : ∀ x, x ∈ w1 → I64' x := fun x hx => hi x (by simp [hx])
  simp only [List.length_cons] at hws
  refine RG.call rfl rfl rfl rfl (c1) [0] rfl rfl rfl rfl (.cons rfl (.one rfl) (Reg.lt_one rfl) ⟨[], _, rfl⟩ (.nil _)) (.cons (.one rfl) (.nil _)) (fun _ h => by first | exact h | exact False.elim h) rfl rfl rfl ?_
  (repeat (first | refine K4 ?_ | refine L1 ?_))
  rcases w1 with _ | ⟨n, w2⟩
  · have e : M = none := by rw [hM]; simp only [rdEx, one]
    rw [e]
    refine RG.call rfl rfl rfl rfl (nn) [0] rfl rfl rfl rfl (.cons rfl (.one rfl) (Reg.lt_one rfl) ⟨[], _, rfl⟩ (.nil _)) (.cons (.one rfl) (.nil _)) (fun _ h => by first | exact h | exact False.elim h) rfl rfl rfl ?_
    (repeat (first | refine RG.call rfl rfl rfl rfl (nn) [0] rfl rfl rfl rfl (.cons rfl (.one rfl) (Reg.lt_one rfl) ⟨[], _, rfl⟩ (.nil _)) (.cons (.one rfl) (.nil _)) (fun _ h => by first | exact h | exact False.elim h) rfl rfl rfl ?_ | refine K4 ?_ | refine L1 ?_ | refine L2 ?_ | refine L3 ?_ | refine RG.dd ?_))
    repeat (refine RG.dead 9 rfl rfl ?_; (repeat (first | refine K1 ?_)))
    exact AW.absurd 9 rfl
  have c2 := next_ok n w2 t (hi1 n (by simp)) (by simp only [List.length_cons] at hws; unfold BW; omega) ht
  have hi2 : ∀ x, x ∈ w2 → I64' x := fun x hx => hi1 x (by simp [hx])
  simp only [List.length_cons] at hws
  refine RG.call rfl rfl rfl rfl (c2) [0] rfl rfl rfl rfl (.cons rfl (.one rfl) (Reg.lt_one rfl) ⟨[], _, rfl⟩ (.nil _)) (.cons (.one rfl) (.nil _)) (fun _ h => by first | exact h | exact False.elim h) rfl rfl rfl ?_
  (repeat (first | refine K4 ?_ | refine L1 ?_))
  rcases w2 with _ | ⟨v, w3⟩
  · have e : M = none := by rw [hM]; simp only [rdEx, one]
    rw [e]
    refine RG.call rfl rfl rfl rfl (nn) [0] rfl rfl rfl rfl (.cons rfl (.one rfl) (Reg.lt_one rfl) ⟨[], _, rfl⟩ (.nil _)) (.cons (.one rfl) (.nil _)) (fun _ h => by first | exact h | exact False.elim h) rfl rfl rfl ?_
    (repeat (first | refine K4 ?_ | refine L2 ?_ | refine L3 ?_ | refine RG.dd ?_))
    repeat (refine RG.dead 12 rfl rfl ?_; (repeat (first | refine K1 ?_)))
    exact AW.absurd 12 rfl
  have c3 := next_ok v w3 t (hi2 v (by simp)) (by simp only [List.length_cons] at hws; unfold BW; omega) ht
  have hi3 : ∀ x, x ∈ w3 → I64' x := fun x hx => hi2 x (by simp [hx])
  simp only [List.length_cons] at hws
  refine RG.call rfl rfl rfl rfl (c3) [0] rfl rfl rfl rfl (.cons rfl (.one rfl) (Reg.lt_one rfl) ⟨[], _, rfl⟩ (.nil _)) (.cons (.one rfl) (.nil _)) (fun _ h => by first | exact h | exact False.elim h) rfl rfl rfl ?_
  (repeat (first | refine K4 ?_ | refine L2 ?_ | refine L3 ?_ | refine RG.dd ?_))
  refine S1 ?_; (repeat (first | refine K4 ?_ | refine L1 ?_ | refine S2 ?_))
  have c4 := many_ex_fc _ (rdEx k) (ex_can k) t ht k (by omega) (fun ws h hi => ih ws h hi) w3 (by omega) hi3
  cases h4 : lst (rdEx k) w3 with
  | none =>
    have e : M = none := by rw [hM]; simp only [rdEx, one, h4]
    rw [e]
    rw [h4] at c4
    simp only [rres, rrest, PN] at c4
    refine RG.call rfl rfl rfl rfl (c4) [0] rfl rfl rfl rfl (.cons rfl (.one rfl) (Reg.lt_one rfl) ⟨[], _, rfl⟩ (.nil _)) (.cons (.one rfl) (.nil _)) (fun _ h => by first | exact h | exact False.elim h) rfl rfl rfl ?_
    (repeat (first | refine K4 ?_ | refine L3 ?_ | refine RG.d ?_))
    repeat (refine RG.dead 17 rfl rfl ?_; (repeat (first | refine K1 ?_)))
    exact AW.absurd 17 rfl
  | some p =>
    obtain ⟨a, w4⟩ := p
    rw [h4] at c4
    simp only [rres, rrest, PN] at c4
    obtain ⟨e4, -⟩ := lst_can (ex_can k) h4
    have hi4 : ∀ x, x ∈ w4 → I64' x := fun x hx => hi3 x (by rw [e4]; simp [hx])
    have hl4 : w4.length ≤ w3.length := by rw [e4]; simp only [List.length_cons, List.length_append]; omega
    refine RG.call rfl rfl rfl rfl (c4) [0] rfl rfl rfl rfl (.cons rfl (.one rfl) (Reg.lt_one rfl) ⟨[], _, rfl⟩ (.nil _)) (.cons (.one rfl) (.nil _)) (fun _ h => by first | exact h | exact False.elim h) rfl rfl rfl ?_
    (repeat (first | refine K4 ?_ | refine L3 ?_ | refine RG.d ?_))
    have e : M = some (.mk op n v a, w4) := by rw [hM]; simp only [rdEx, one, h4]
    rw [e]
    simp only [rres, rrest, Ex.cl, exC_eq]
    skip
    (repeat (first | refine L1 ?_ | refine L3 ?_ | refine RG.d ?_ | refine S1 ?_ | refine S2 ?_ | refine S6 ?_))
    exact ⟨⟨_, rfl, rfl⟩, rfl, .cons rfl (.one rfl) (Reg.lt_one rfl) ⟨[], _, rfl⟩ (.nil _)⟩

set_option maxHeartbeats 16000000 in
theorem co_rd (t : List Int) (ht : t.length < 8) : ∀ k, k ≤ 200000 → ∀ ws : List Int, ws.length < k → (∀ x, x ∈ ws → I64' x) → FC Try.prog ge 122 [rdrA] [.one (stB ws t)] (rres (fun x : Co => .agg x.cl) (rdCo k ws)) [.one (stB (rrest (rdCo k ws)) t)] (PN (rdCo k ws)) := by
  intro k
  induction k with
  | zero => intro _ ws h; omega
  | succ k ih =>
  intro hk ws hws hi
  have ih := ih (by omega)
  have nn := next_no t ht
  obtain ⟨M, hM⟩ : ∃ M, M = rdCo (k + 1) ws := ⟨_, rfl⟩
  rw [← hM]
  refine FC.of_AW tok Try.func122 (by kernel_rfl) rfl Try.ntmps122 [] rfl rfl rfl ?_; intro w0 X0 Y f0 hI0 hX0
  refine S1 ?_; (repeat (first | refine L2 ?_ | refine RG.d ?_ | refine S2 ?_))
  refine S1 ?_; (repeat (first | refine K4 ?_ | refine L1 ?_ | refine S2 ?_))
  rcases ws with _ | ⟨op, w1⟩
  · have e : M = none := by rw [hM]; simp only [rdCo, one]
    rw [e]
    refine RG.call rfl rfl rfl rfl (nn) [0] rfl rfl rfl rfl (.cons rfl (.one rfl) (Reg.lt_one rfl) ⟨[], _, rfl⟩ (.nil _)) (.cons (.one rfl) (.nil _)) (fun _ h => by first | exact h | exact False.elim h) rfl rfl rfl ?_
    (repeat (first | refine K4 ?_ | refine L2 ?_ | refine L3 ?_ | refine RG.d ?_))
    repeat (refine RG.dead 6 rfl rfl ?_; (repeat (first | refine K1 ?_)))
    exact AW.absurd 6 rfl
  have c1 := next_ok op w1 t (hi op (by simp)) (by simp only [List.length_cons] at hws; unfold BW; omega) ht
  have hi1 : ∀ x, x ∈ w1 → I64' x := fun x hx => hi x (by simp [hx])
  simp only [List.length_cons] at hws
  refine RG.call rfl rfl rfl rfl (c1) [0] rfl rfl rfl rfl (.cons rfl (.one rfl) (Reg.lt_one rfl) ⟨[], _, rfl⟩ (.nil _)) (.cons (.one rfl) (.nil _)) (fun _ h => by first | exact h | exact False.elim h) rfl rfl rfl ?_
  (repeat (first | refine K4 ?_ | refine L2 ?_ | refine L3 ?_ | refine RG.d ?_))
  refine S1 ?_; (repeat (first | refine K4 ?_ | refine L1 ?_ | refine S2 ?_))
  have c2 := many_ex_fc _ (rdEx k) (ex_can k) t ht k (by omega) (fun ws h hi => ex_rd t ht k (by omega) ws h hi) w1 (by omega) hi1
  cases h2 : lst (rdEx k) w1 with
  | none =>
    have e : M = none := by rw [hM]; simp only [rdCo, one, h2]
    rw [e]
    rw [h2] at c2
    simp only [rres, rrest, PN] at c2
    refine RG.call rfl rfl rfl rfl (c2) [0] rfl rfl rfl rfl (.cons rfl (.one rfl) (Reg.lt_one rfl) ⟨[], _, rfl⟩ (.nil _)) (.cons (.one rfl) (.nil _)) (fun _ h => by first | exact h | exact False.elim h) rfl rfl rfl ?_
    (repeat (first | refine K4 ?_ | refine L3 ?_ | refine RG.d ?_))
    repeat (refine RG.dead 11 rfl rfl ?_; (repeat (first | refine K1 ?_)))
    exact AW.absurd 11 rfl
  | some p =>
    obtain ⟨a, w2⟩ := p
    rw [h2] at c2
    simp only [rres, rrest, PN] at c2
    obtain ⟨e2, -⟩ := lst_can (ex_can k) h2
    have hi2 : ∀ x, x ∈ w2 → I64' x := fun x hx => hi1 x (by rw [e2]; simp [hx])
    have hl2 : w2.length ≤ w1.length := by rw [e2]; simp only [List.length_cons, List.length_append]; omega
    refine RG.call rfl rfl rfl rfl (c2) [0] rfl rfl rfl rfl (.cons rfl (.one rfl) (Reg.lt_one rfl) ⟨[], _, rfl⟩ (.nil _)) (.cons (.one rfl) (.nil _)) (fun _ h => by first | exact h | exact False.elim h) rfl rfl rfl ?_
    (repeat (first | refine K4 ?_ | refine L3 ?_ | refine RG.d ?_))
    refine S1 ?_; (repeat (first | refine K4 ?_ | refine L1 ?_ | refine S2 ?_))
    have c3 := many_co_fc _ (rdCo k) (co_can k) t ht k (by omega) (fun ws h hi => ih ws h hi) w2 (by omega) hi2
    cases h3 : lst (rdCo k) w2 with
    | none =>
      have e : M = none := by rw [hM]; simp only [rdCo, one, h2, h3]
      rw [e]
      rw [h3] at c3
      simp only [rres, rrest, PN] at c3
      refine RG.call rfl rfl rfl rfl (c3) [0] rfl rfl rfl rfl (.cons rfl (.one rfl) (Reg.lt_one rfl) ⟨[], _, rfl⟩ (.nil _)) (.cons (.one rfl) (.nil _)) (fun _ h => by first | exact h | exact False.elim h) rfl rfl rfl ?_
      (repeat (first | refine K4 ?_ | refine L3 ?_ | refine RG.d ?_))
      repeat (refine RG.dead 16 rfl rfl ?_; (repeat (first | refine K1 ?_)))
      exact AW.absurd 16 rfl
    | some p =>
      obtain ⟨c, w3⟩ := p
      rw [h3] at c3
      simp only [rres, rrest, PN] at c3
      obtain ⟨e3, -⟩ := lst_can (co_can k) h3
      have hi3 : ∀ x, x ∈ w3 → I64' x := fun x hx => hi2 x (by rw [e3]; simp [hx])
      have hl3 : w3.length ≤ w2.length := by rw [e3]; simp only [List.length_cons, List.length_append]; omega
      refine RG.call rfl rfl rfl rfl (c3) [0] rfl rfl rfl rfl (.cons rfl (.one rfl) (Reg.lt_one rfl) ⟨[], _, rfl⟩ (.nil _)) (.cons (.one rfl) (.nil _)) (fun _ h => by first | exact h | exact False.elim h) rfl rfl rfl ?_
      (repeat (first | refine K4 ?_ | refine L3 ?_ | refine RG.d ?_))
      have e : M = some (.mk op a c, w3) := by rw [hM]; simp only [rdCo, one, h2, h3]
      rw [e]
      simp only [rres, rrest, Co.cl, exC_eq, coC_eq]
      skip
      (repeat (first | refine L1 ?_ | refine L3 ?_ | refine RG.d ?_ | refine S1 ?_ | refine S2 ?_ | refine S6 ?_))
      exact ⟨⟨_, rfl, rfl⟩, rfl, .cons rfl (.one rfl) (Reg.lt_one rfl) ⟨[], _, rfl⟩ (.nil _)⟩

theorem one_rd (t : List Int) (ht : t.length < 8) (ws : List Int) (hws : ws.length ≤ 200000) (hi : ∀ x, x ∈ ws → I64' x) : FC Try.prog ge 82 [.ptr 0 [] 0] [.one (stB ws t)] (rres (fun x : Int => i64 x) (one ws)) [.one (stB (rrest (one ws)) t)] (PN (one ws)) := by
  cases ws with
  | nil => exact next_no t ht
  | cons x w => exact next_ok x w t (hi x (by simp)) (by simp only [List.length_cons] at hws; unfold BW; omega) ht
set_option maxHeartbeats 64000000 in
set_option maxRecDepth 10000 in
theorem sm_rd (t : List Int) (ht : t.length < 8) : ∀ k, k ≤ 200000 → ∀ ws : List Int, ws.length < k → (∀ x, x ∈ ws → I64' x) → FC Try.prog ge 109 [rdrA] [.one (stB ws t)] (rres (fun x : Sm => .agg x.cl) (rdSm k ws)) [.one (stB (rrest (rdSm k ws)) t)] (PN (rdSm k ws)) := by
  intro k
  induction k with
  | zero => intro _ ws h; omega
  | succ k ih =>
  intro hk ws hws hi
  have ih := ih (by omega)
  have nn := next_no t ht
  have exN : FC Try.prog ge 121 [rdrA] [.one (stB [] t)] A.no [.one (stB [] t)] PW := ex_rd t ht 1 (by omega) [] (by simp) (fun _ h => by cases h)
  have coN : FC Try.prog ge 122 [rdrA] [.one (stB [] t)] A.no [.one (stB [] t)] PW := co_rd t ht 1 (by omega) [] (by simp) (fun _ h => by cases h)
  have mexN : FC Try.prog ge 123 [rdrA, .fn 121 [rdrA] []] [.one (stB [] t)] A.no [.one (stB [] t)] PW := many_ex_fc _ (rdEx 1) (ex_can 1) t ht 1 (by omega) (fun ws h hi => ex_rd t ht 1 (by omega) ws h hi) [] (by simp) (fun _ h => by cases h)
  have mintN : FC Try.prog ge 83 [rdrA, .fn 82 [.ptr 0 [] 0] []] [.one (stB [] t)] A.no [.one (stB [] t)] PW := many_int_fc _ one one_can t ht 1 (by omega) (fun ws h hi => one_rd t ht ws (by omega) hi) [] (by simp) (fun _ h => by cases h)
  have msmN : FC Try.prog ge 108 [rdrA, .fn 109 [rdrA] []] [.one (stB [] t)] A.no [.one (stB [] t)] PW := many_sm_fc _ (rdSm 0) (sm_can 0) t ht 0 (by omega) (fun ws h hi => by omega) [] (by simp) (fun _ h => by cases h)
  obtain ⟨M, hM⟩ : ∃ M, M = rdSm (k + 1) ws := ⟨_, rfl⟩
  rw [← hM]
  refine FC.of_AW tok Try.func109 (by kernel_rfl) rfl Try.ntmps109 [] rfl rfl rfl ?_; intro w0 X0 Y f0 hI0 hX0
  refine S1 ?_; (repeat (first | refine L2 ?_ | refine RG.d ?_ | refine S2 ?_))
  refine S1 ?_; (repeat (first | refine K4 ?_ | refine L1 ?_ | refine S2 ?_))
  rcases ws with _ | ⟨site, w1⟩
  · have e : M = none := by rw [hM]; simp only [rdSm, one]
    rw [e]
    refine RG.call rfl rfl rfl rfl (nn) [0] rfl rfl rfl rfl (.cons rfl (.one rfl) (Reg.lt_one rfl) ⟨[], _, rfl⟩ (.nil _)) (.cons (.one rfl) (.nil _)) (fun _ h => by first | exact h | exact False.elim h) rfl rfl rfl ?_
    (repeat (first | refine RG.call rfl rfl rfl rfl (nn) [0] rfl rfl rfl rfl (.cons rfl (.one rfl) (Reg.lt_one rfl) ⟨[], _, rfl⟩ (.nil _)) (.cons (.one rfl) (.nil _)) (fun _ h => by first | exact h | exact False.elim h) rfl rfl rfl ?_ | refine K4 ?_ | refine L1 ?_ | refine L2 ?_ | refine L3 ?_ | refine RG.dd ?_))
    repeat (refine RG.dead 6 rfl rfl ?_; (repeat (first | refine K1 ?_)))
    exact AW.absurd 6 rfl
  have c1 := next_ok site w1 t (hi site (by simp)) (by simp only [List.length_cons] at hws; unfold BW; omega) ht
  have hi1 : ∀ x, x ∈ w1 → I64' x := fun x hx => hi x (by simp [hx])
  simp only [List.length_cons] at hws
  refine RG.call rfl rfl rfl rfl (c1) [0] rfl rfl rfl rfl (.cons rfl (.one rfl) (Reg.lt_one rfl) ⟨[], _, rfl⟩ (.nil _)) (.cons (.one rfl) (.nil _)) (fun _ h => by first | exact h | exact False.elim h) rfl rfl rfl ?_
  (repeat (first | refine K4 ?_ | refine L1 ?_))
  rcases w1 with _ | ⟨op, w2⟩
  · have e : M = none := by rw [hM]; simp only [rdSm, one]
    rw [e]
    refine RG.call rfl rfl rfl rfl (nn) [0] rfl rfl rfl rfl (.cons rfl (.one rfl) (Reg.lt_one rfl) ⟨[], _, rfl⟩ (.nil _)) (.cons (.one rfl) (.nil _)) (fun _ h => by first | exact h | exact False.elim h) rfl rfl rfl ?_
    (repeat (first | refine RG.call rfl rfl rfl rfl (nn) [0] rfl rfl rfl rfl (.cons rfl (.one rfl) (Reg.lt_one rfl) ⟨[], _, rfl⟩ (.nil _)) (.cons (.one rfl) (.nil _)) (fun _ h => by first | exact h | exact False.elim h) rfl rfl rfl ?_ | refine K4 ?_ | refine L1 ?_ | refine L2 ?_ | refine L3 ?_ | refine RG.dd ?_))
    repeat (refine RG.dead 9 rfl rfl ?_; (repeat (first | refine K1 ?_)))
    exact AW.absurd 9 rfl
  have c2 := next_ok op w2 t (hi1 op (by simp)) (by simp only [List.length_cons] at hws; unfold BW; omega) ht
  have hi2 : ∀ x, x ∈ w2 → I64' x := fun x hx => hi1 x (by simp [hx])
  simp only [List.length_cons] at hws
  refine RG.call rfl rfl rfl rfl (c2) [0] rfl rfl rfl rfl (.cons rfl (.one rfl) (Reg.lt_one rfl) ⟨[], _, rfl⟩ (.nil _)) (.cons (.one rfl) (.nil _)) (fun _ h => by first | exact h | exact False.elim h) rfl rfl rfl ?_
  (repeat (first | refine K4 ?_ | refine L1 ?_))
  rcases w2 with _ | ⟨n, w3⟩
  · have e : M = none := by rw [hM]; simp only [rdSm, one]
    rw [e]
    refine RG.call rfl rfl rfl rfl (nn) [0] rfl rfl rfl rfl (.cons rfl (.one rfl) (Reg.lt_one rfl) ⟨[], _, rfl⟩ (.nil _)) (.cons (.one rfl) (.nil _)) (fun _ h => by first | exact h | exact False.elim h) rfl rfl rfl ?_
    (repeat (first | refine RG.call rfl rfl rfl rfl (nn) [0] rfl rfl rfl rfl (.cons rfl (.one rfl) (Reg.lt_one rfl) ⟨[], _, rfl⟩ (.nil _)) (.cons (.one rfl) (.nil _)) (fun _ h => by first | exact h | exact False.elim h) rfl rfl rfl ?_ | refine K4 ?_ | refine L1 ?_ | refine L2 ?_ | refine L3 ?_ | refine RG.dd ?_))
    repeat (refine RG.dead 12 rfl rfl ?_; (repeat (first | refine K1 ?_)))
    exact AW.absurd 12 rfl
  have c3 := next_ok n w3 t (hi2 n (by simp)) (by simp only [List.length_cons] at hws; unfold BW; omega) ht
  have hi3 : ∀ x, x ∈ w3 → I64' x := fun x hx => hi2 x (by simp [hx])
  simp only [List.length_cons] at hws
  refine RG.call rfl rfl rfl rfl (c3) [0] rfl rfl rfl rfl (.cons rfl (.one rfl) (Reg.lt_one rfl) ⟨[], _, rfl⟩ (.nil _)) (.cons (.one rfl) (.nil _)) (fun _ h => by first | exact h | exact False.elim h) rfl rfl rfl ?_
  (repeat (first | refine K4 ?_ | refine L1 ?_))
  rcases w3 with _ | ⟨m, w4⟩
  · have e : M = none := by rw [hM]; simp only [rdSm, one]
    rw [e]
    refine RG.call rfl rfl rfl rfl (nn) [0] rfl rfl rfl rfl (.cons rfl (.one rfl) (Reg.lt_one rfl) ⟨[], _, rfl⟩ (.nil _)) (.cons (.one rfl) (.nil _)) (fun _ h => by first | exact h | exact False.elim h) rfl rfl rfl ?_
    (repeat (first | refine RG.call rfl rfl rfl rfl (nn) [0] rfl rfl rfl rfl (.cons rfl (.one rfl) (Reg.lt_one rfl) ⟨[], _, rfl⟩ (.nil _)) (.cons (.one rfl) (.nil _)) (fun _ h => by first | exact h | exact False.elim h) rfl rfl rfl ?_ | refine K4 ?_ | refine L1 ?_ | refine L2 ?_ | refine L3 ?_ | refine RG.dd ?_))
    repeat (refine RG.dead 15 rfl rfl ?_; (repeat (first | refine K1 ?_)))
    exact AW.absurd 15 rfl
  have c4 := next_ok m w4 t (hi3 m (by simp)) (by simp only [List.length_cons] at hws; unfold BW; omega) ht
  have hi4 : ∀ x, x ∈ w4 → I64' x := fun x hx => hi3 x (by simp [hx])
  simp only [List.length_cons] at hws
  refine RG.call rfl rfl rfl rfl (c4) [0] rfl rfl rfl rfl (.cons rfl (.one rfl) (Reg.lt_one rfl) ⟨[], _, rfl⟩ (.nil _)) (.cons (.one rfl) (.nil _)) (fun _ h => by first | exact h | exact False.elim h) rfl rfl rfl ?_
  (repeat (first | refine K4 ?_ | refine L1 ?_))
  rcases w4 with _ | ⟨v, w5⟩
  · have e : M = none := by rw [hM]; simp only [rdSm, one]
    rw [e]
    refine RG.call rfl rfl rfl rfl (nn) [0] rfl rfl rfl rfl (.cons rfl (.one rfl) (Reg.lt_one rfl) ⟨[], _, rfl⟩ (.nil _)) (.cons (.one rfl) (.nil _)) (fun _ h => by first | exact h | exact False.elim h) rfl rfl rfl ?_
    (repeat (first | refine K4 ?_ | refine L2 ?_ | refine L3 ?_ | refine RG.dd ?_))
    repeat (refine RG.dead 18 rfl rfl ?_; (repeat (first | refine K1 ?_)))
    exact AW.absurd 18 rfl
  have c5 := next_ok v w5 t (hi4 v (by simp)) (by simp only [List.length_cons] at hws; unfold BW; omega) ht
  have hi5 : ∀ x, x ∈ w5 → I64' x := fun x hx => hi4 x (by simp [hx])
  simp only [List.length_cons] at hws
  refine RG.call rfl rfl rfl rfl (c5) [0] rfl rfl rfl rfl (.cons rfl (.one rfl) (Reg.lt_one rfl) ⟨[], _, rfl⟩ (.nil _)) (.cons (.one rfl) (.nil _)) (fun _ h => by first | exact h | exact False.elim h) rfl rfl rfl ?_
  (repeat (first | refine K4 ?_ | refine L2 ?_ | refine L3 ?_ | refine RG.dd ?_))
  refine S1 ?_; (repeat (first | refine L1 ?_ | refine S2 ?_))
  have c6 := ex_rd t ht k (by omega) w5 (by omega) hi5
  cases h6 : rdEx k w5 with
  | none =>
    have e : M = none := by rw [hM]; simp only [rdSm, one, h6]
    rw [e]
    rw [h6] at c6
    simp only [rres, rrest, PN] at c6
    refine RG.call rfl rfl rfl rfl (c6) [0] rfl rfl rfl rfl (.cons rfl (.one rfl) (Reg.lt_one rfl) ⟨[], _, rfl⟩ (.nil _)) (.cons (.one rfl) (.nil _)) (fun _ h => by first | exact h | exact False.elim h) rfl rfl rfl ?_
    (repeat (first | refine RG.call rfl rfl rfl rfl (exN) [0] rfl rfl rfl rfl (.cons rfl (.one rfl) (Reg.lt_one rfl) ⟨[], _, rfl⟩ (.nil _)) (.cons (.one rfl) (.nil _)) (fun _ h => by first | exact h | exact False.elim h) rfl rfl rfl ?_ | refine RG.call rfl rfl rfl rfl (coN) [0] rfl rfl rfl rfl (.cons rfl (.one rfl) (Reg.lt_one rfl) ⟨[], _, rfl⟩ (.nil _)) (.cons (.one rfl) (.nil _)) (fun _ h => by first | exact h | exact False.elim h) rfl rfl rfl ?_ | refine K4 ?_ | refine L1 ?_))
    repeat (refine RG.dead 21 rfl rfl ?_; (repeat (first | refine K4 ?_ | refine RG.dd ?_)))
    exact AW.absurd 21 rfl
  | some p =>
    obtain ⟨x, w6⟩ := p
    rw [h6] at c6
    simp only [rres, rrest, PN] at c6
    obtain ⟨e6, -⟩ := ex_can k _ _ _ h6
    have hi6 : ∀ x, x ∈ w6 → I64' x := fun x hx => hi5 x (by rw [e6]; simp [hx])
    have hl6 : w6.length ≤ w5.length := by rw [e6]; simp only [List.length_cons, List.length_append]; omega
    obtain ⟨x1, x2, x3, x4⟩ := x; simp only [Ex.cl] at c6
    refine RG.call rfl rfl rfl rfl (c6) [0] rfl rfl rfl rfl (.cons rfl (.one rfl) (Reg.lt_one rfl) ⟨[], _, rfl⟩ (.nil _)) (.cons (.one rfl) (.nil _)) (fun _ h => by first | exact h | exact False.elim h) rfl rfl rfl ?_
    (repeat (first | refine L1 ?_))
    have c7 := ex_rd t ht k (by omega) w6 (by omega) hi6
    cases h7 : rdEx k w6 with
    | none =>
      have e : M = none := by rw [hM]; simp only [rdSm, one, h6, h7]
      rw [e]
      rw [h7] at c7
      simp only [rres, rrest, PN] at c7
      refine RG.call rfl rfl rfl rfl (c7) [0] rfl rfl rfl rfl (.cons rfl (.one rfl) (Reg.lt_one rfl) ⟨[], _, rfl⟩ (.nil _)) (.cons (.one rfl) (.nil _)) (fun _ h => by first | exact h | exact False.elim h) rfl rfl rfl ?_
      (repeat (first | refine RG.call rfl rfl rfl rfl (coN) [0] rfl rfl rfl rfl (.cons rfl (.one rfl) (Reg.lt_one rfl) ⟨[], _, rfl⟩ (.nil _)) (.cons (.one rfl) (.nil _)) (fun _ h => by first | exact h | exact False.elim h) rfl rfl rfl ?_ | refine K4 ?_ | refine L1 ?_ | refine L3 ?_))
      repeat (refine RG.dead 23 rfl rfl ?_; (repeat (first | refine K4 ?_ | refine RG.dd ?_)))
      exact AW.absurd 23 rfl
    | some p =>
      obtain ⟨y, w7⟩ := p
      rw [h7] at c7
      simp only [rres, rrest, PN] at c7
      obtain ⟨e7, -⟩ := ex_can k _ _ _ h7
      have hi7 : ∀ x, x ∈ w7 → I64' x := fun x hx => hi6 x (by rw [e7]; simp [hx])
      have hl7 : w7.length ≤ w6.length := by rw [e7]; simp only [List.length_cons, List.length_append]; omega
      obtain ⟨y1, y2, y3, y4⟩ := y; simp only [Ex.cl] at c7
      refine RG.call rfl rfl rfl rfl (c7) [0] rfl rfl rfl rfl (.cons rfl (.one rfl) (Reg.lt_one rfl) ⟨[], _, rfl⟩ (.nil _)) (.cons (.one rfl) (.nil _)) (fun _ h => by first | exact h | exact False.elim h) rfl rfl rfl ?_
      (repeat (first | refine L1 ?_))
      have c8 := co_rd t ht k (by omega) w7 (by omega) hi7
      cases h8 : rdCo k w7 with
      | none =>
        have e : M = none := by rw [hM]; simp only [rdSm, one, h6, h7, h8]
        rw [e]
        rw [h8] at c8
        simp only [rres, rrest, PN] at c8
        refine RG.call rfl rfl rfl rfl (c8) [0] rfl rfl rfl rfl (.cons rfl (.one rfl) (Reg.lt_one rfl) ⟨[], _, rfl⟩ (.nil _)) (.cons (.one rfl) (.nil _)) (fun _ h => by first | exact h | exact False.elim h) rfl rfl rfl ?_
        (repeat (first | refine K4 ?_ | refine L3 ?_))
        repeat (refine RG.dead 25 rfl rfl ?_; (repeat (first | refine RG.dd ?_)))
        exact AW.absurd 25 rfl
      | some p =>
        obtain ⟨c, w8⟩ := p
        rw [h8] at c8
        simp only [rres, rrest, PN] at c8
        obtain ⟨e8, -⟩ := co_can k _ _ _ h8
        have hi8 : ∀ x, x ∈ w8 → I64' x := fun x hx => hi7 x (by rw [e8]; simp [hx])
        have hl8 : w8.length ≤ w7.length := by rw [e8]; simp only [List.length_cons, List.length_append]; omega
        obtain ⟨q1, q2, q3⟩ := c; simp only [Co.cl] at c8
        refine RG.call rfl rfl rfl rfl (c8) [0] rfl rfl rfl rfl (.cons rfl (.one rfl) (Reg.lt_one rfl) ⟨[], _, rfl⟩ (.nil _)) (.cons (.one rfl) (.nil _)) (fun _ h => by first | exact h | exact False.elim h) rfl rfl rfl ?_
        (repeat (first | refine K4 ?_ | refine L3 ?_ | refine RG.dd ?_))
        refine S1 ?_; (repeat (first | refine K4 ?_ | refine L1 ?_ | refine S2 ?_))
        have c9 := many_ex_fc _ (rdEx k) (ex_can k) t ht k (by omega) (fun ws h hi => ex_rd t ht k (by omega) ws h hi) w8 (by omega) hi8
        cases h9 : lst (rdEx k) w8 with
        | none =>
          have e : M = none := by rw [hM]; simp only [rdSm, one, h6, h7, h8, h9]
          rw [e]
          rw [h9] at c9
          simp only [rres, rrest, PN] at c9
          refine RG.call rfl rfl rfl rfl (c9) [0] rfl rfl rfl rfl (.cons rfl (.one rfl) (Reg.lt_one rfl) ⟨[], _, rfl⟩ (.nil _)) (.cons (.one rfl) (.nil _)) (fun _ h => by first | exact h | exact False.elim h) rfl rfl rfl ?_
          (repeat (first | refine RG.call rfl rfl rfl rfl (mintN) [0] rfl rfl rfl rfl (.cons rfl (.one rfl) (Reg.lt_one rfl) ⟨[], _, rfl⟩ (.nil _)) (.cons (.one rfl) (.nil _)) (fun _ h => by first | exact h | exact False.elim h) rfl rfl rfl ?_ | refine K4 ?_ | refine L1 ?_ | refine L3 ?_ | refine RG.dd ?_))
          repeat (refine RG.dead 32 rfl rfl ?_; (repeat (first | refine K1 ?_)))
          exact AW.absurd 32 rfl
        | some p =>
          obtain ⟨args, w9⟩ := p
          rw [h9] at c9
          simp only [rres, rrest, PN] at c9
          obtain ⟨e9, -⟩ := lst_can (ex_can k) h9
          have hi9 : ∀ x, x ∈ w9 → I64' x := fun x hx => hi8 x (by rw [e9]; simp [hx])
          have hl9 : w9.length ≤ w8.length := by rw [e9]; simp only [List.length_cons, List.length_append]; omega
          refine RG.call rfl rfl rfl rfl (c9) [0] rfl rfl rfl rfl (.cons rfl (.one rfl) (Reg.lt_one rfl) ⟨[], _, rfl⟩ (.nil _)) (.cons (.one rfl) (.nil _)) (fun _ h => by first | exact h | exact False.elim h) rfl rfl rfl ?_
          (repeat (first | refine K4 ?_ | refine L1 ?_))
          have c10 := many_int_fc _ one one_can t ht k (by omega) (fun ws h hi => one_rd t ht ws (by omega) hi) w9 (by omega) hi9
          cases h10 : lst one w9 with
          | none =>
            have e : M = none := by rw [hM]; simp only [rdSm, one, h6, h7, h8, h9, h10]
            rw [e]
            rw [h10] at c10
            simp only [rres, rrest, PN] at c10
            refine RG.call rfl rfl rfl rfl (c10) [0] rfl rfl rfl rfl (.cons rfl (.one rfl) (Reg.lt_one rfl) ⟨[], _, rfl⟩ (.nil _)) (.cons (.one rfl) (.nil _)) (fun _ h => by first | exact h | exact False.elim h) rfl rfl rfl ?_
            (repeat (first | refine K4 ?_ | refine L3 ?_ | refine RG.dd ?_))
            repeat (refine RG.dead 37 rfl rfl ?_; (repeat (first | refine K1 ?_)))
            exact AW.absurd 37 rfl
          | some p =>
            obtain ⟨ptrs, w10⟩ := p
            rw [h10] at c10
            simp only [rres, rrest, PN] at c10
            obtain ⟨e10, -⟩ := lst_can one_can h10
            have hi10 : ∀ x, x ∈ w10 → I64' x := fun x hx => hi9 x (by rw [e10]; simp [hx])
            have hl10 : w10.length ≤ w9.length := by rw [e10]; simp only [List.length_cons, List.length_append]; omega
            refine RG.call rfl rfl rfl rfl (c10) [0] rfl rfl rfl rfl (.cons rfl (.one rfl) (Reg.lt_one rfl) ⟨[], _, rfl⟩ (.nil _)) (.cons (.one rfl) (.nil _)) (fun _ h => by first | exact h | exact False.elim h) rfl rfl rfl ?_
            (repeat (first | refine K4 ?_ | refine L3 ?_ | refine RG.dd ?_))
            refine S1 ?_; (repeat (first | refine K4 ?_ | refine L1 ?_ | refine S2 ?_))
            have c11 := many_sm_fc _ (rdSm k) (sm_can k) t ht k (by omega) (fun ws h hi => ih ws h hi) w10 (by omega) hi10
            cases h11 : lst (rdSm k) w10 with
            | none =>
              have e : M = none := by rw [hM]; simp only [rdSm, one, h6, h7, h8, h9, h10, h11]
              rw [e]
              rw [h11] at c11
              simp only [rres, rrest, PN] at c11
              refine RG.call rfl rfl rfl rfl (c11) [0] rfl rfl rfl rfl (.cons rfl (.one rfl) (Reg.lt_one rfl) ⟨[], _, rfl⟩ (.nil _)) (.cons (.one rfl) (.nil _)) (fun _ h => by first | exact h | exact False.elim h) rfl rfl rfl ?_
              (repeat (first | refine RG.call rfl rfl rfl rfl (msmN) [0] rfl rfl rfl rfl (.cons rfl (.one rfl) (Reg.lt_one rfl) ⟨[], _, rfl⟩ (.nil _)) (.cons (.one rfl) (.nil _)) (fun _ h => by first | exact h | exact False.elim h) rfl rfl rfl ?_ | refine K4 ?_ | refine L1 ?_ | refine L3 ?_ | refine RG.dd ?_))
              repeat (refine RG.dead 43 rfl rfl ?_; (repeat (first | refine K1 ?_)))
              exact AW.absurd 43 rfl
            | some p =>
              obtain ⟨body, w11⟩ := p
              rw [h11] at c11
              simp only [rres, rrest, PN] at c11
              obtain ⟨e11, -⟩ := lst_can (sm_can k) h11
              have hi11 : ∀ x, x ∈ w11 → I64' x := fun x hx => hi10 x (by rw [e11]; simp [hx])
              have hl11 : w11.length ≤ w10.length := by rw [e11]; simp only [List.length_cons, List.length_append]; omega
              refine RG.call rfl rfl rfl rfl (c11) [0] rfl rfl rfl rfl (.cons rfl (.one rfl) (Reg.lt_one rfl) ⟨[], _, rfl⟩ (.nil _)) (.cons (.one rfl) (.nil _)) (fun _ h => by first | exact h | exact False.elim h) rfl rfl rfl ?_
              (repeat (first | refine K4 ?_ | refine L1 ?_))
              have c12 := many_sm_fc _ (rdSm k) (sm_can k) t ht k (by omega) (fun ws h hi => ih ws h hi) w11 (by omega) hi11
              cases h12 : lst (rdSm k) w11 with
              | none =>
                have e : M = none := by rw [hM]; simp only [rdSm, one, h6, h7, h8, h9, h10, h11, h12]
                rw [e]
                rw [h12] at c12
                simp only [rres, rrest, PN] at c12
                refine RG.call rfl rfl rfl rfl (c12) [0] rfl rfl rfl rfl (.cons rfl (.one rfl) (Reg.lt_one rfl) ⟨[], _, rfl⟩ (.nil _)) (.cons (.one rfl) (.nil _)) (fun _ h => by first | exact h | exact False.elim h) rfl rfl rfl ?_
                (repeat (first | refine K4 ?_ | refine L3 ?_ | refine RG.dd ?_))
                repeat (refine RG.dead 47 rfl rfl ?_; (repeat (first | refine K1 ?_)))
                exact AW.absurd 47 rfl
              | some p =>
                obtain ⟨els, w12⟩ := p
                rw [h12] at c12
                simp only [rres, rrest, PN] at c12
                obtain ⟨e12, -⟩ := lst_can (sm_can k) h12
                have hi12 : ∀ x, x ∈ w12 → I64' x := fun x hx => hi11 x (by rw [e12]; simp [hx])
                have hl12 : w12.length ≤ w11.length := by rw [e12]; simp only [List.length_cons, List.length_append]; omega
                refine RG.call rfl rfl rfl rfl (c12) [0] rfl rfl rfl rfl (.cons rfl (.one rfl) (Reg.lt_one rfl) ⟨[], _, rfl⟩ (.nil _)) (.cons (.one rfl) (.nil _)) (fun _ h => by first | exact h | exact False.elim h) rfl rfl rfl ?_
                (repeat (first | refine K4 ?_ | refine L3 ?_ | refine RG.dd ?_))
                have e : M = some (.mk site op n m v (.mk x1 x2 x3 x4) (.mk y1 y2 y3 y4) (.mk q1 q2 q3) args ptrs body els, w12) := by rw [hM]; simp only [rdSm, one, h6, h7, h8, h9, h10, h11, h12]
                rw [e]
                simp only [rres, rrest, Sm.cl, Ex.cl, Co.cl, exC_eq, coC_eq, smC_eq, List.cons_append, List.nil_append]; rw [icl_eq]
                skip
                (repeat (first | refine L1 ?_ | refine L3 ?_ | refine RG.d ?_ | refine S1 ?_ | refine S2 ?_ | refine S6 ?_))
                exact ⟨⟨_, rfl, rfl⟩, rfl, .cons rfl (.one rfl) (Reg.lt_one rfl) ⟨[], _, rfl⟩ (.nil _)⟩
end Go.Proofs.Ytmfccaidgaelcaa
