/- The reference's reader: words, lengths, lists. No conditions. -/
import Derived.Test.YtmfccaidgaelcaaEc14
import Derived.Test.YtmfccaidgaelcaaEp6
import Derived.Test.YtmfccaidgaelcaaAbsE
set_option linter.unusedVariables false
set_option linter.unusedSimpArgs false
namespace Go.Proofs.Ytmfccaidgaelcaa
open Go.Abs Go Go.RowKit
def inC (L : List Int) (s : Inp) : List A := [rdi L, i64 (s.p : Int), .val (.bool s.bad)]
theorem inC_free (L : List Int) (s : Inp) : ltL 0 (inC L s) = true := rfl
theorem inext_fc (L : List Int) (s : Inp) (hB : L.length ≤ BW) : FC Try.prog ge 91 [.ptr 0 [] 0] [.one (inC L s)] (i64 (mNext L s).1) [.one (inC L (mNext L s).2)] NoP := by
  unfold BW at hB
  obtain ⟨p, bad⟩ := s
  by_cases h : p < L.length
  · rw [show mNext L ⟨p, bad⟩ = (L.getD p 0, ⟨p + 1, bad⟩) from if_pos h]
    show FC _ _ _ _ [.one [rdi L, i64 (p : Int), .val (.bool bad)]] (i64 (L.getD p 0)) [.one [rdi L, i64 ((p + 1 : Nat) : Int), .val (.bool bad)]] NoP
    refine FC.of_AW tok Try.func91 (by kernel_rfl) rfl Try.ntmps91 [] rfl rfl rfl ?_; intro w0 X0 Y f0 hI0 hX0
    (repeat (first | refine K1 ?_ | refine K2 ?_ | refine K3 ?_ | refine K4 ?_ | refine K5 ?_ | refine K6 ?_ | refine K7 ?_ | refine L1 ?_ | refine L2 ?_ | refine L3 ?_ | refine RG.d ?_ | refine RG.dd ?_ | refine S1 ?_ | refine S2 ?_ | refine S3 ?_ | refine S4 ?_ | refine S5 ?_ | refine S7 ?_ | refine S8 ?_))
    refine AW.condD rfl (fun k => absurd (show (L.length : Int) ≤ (p : Int) from k) (by omega)) (fun _ => ?_)
    (repeat (first | refine K1 ?_ | refine K2 ?_ | refine K3 ?_ | refine K4 ?_ | refine K5 ?_ | refine K6 ?_ | refine K7 ?_ | refine L1 ?_ | refine L2 ?_ | refine L3 ?_ | refine RG.d ?_ | refine RG.dd ?_ | refine S1 ?_ | refine S2 ?_ | refine S3 ?_ | refine S4 ?_ | refine S5 ?_ | refine S7 ?_ | refine S8 ?_))
    refine RG.put 31 rfl (v' := i64 (p : Int)) (by rw [show (p : Int) + 1 - 1 = (p : Int) by omega]) ?_
    (repeat (first | refine K1 ?_ | refine K2 ?_ | refine K3 ?_ | refine K4 ?_ | refine K5 ?_ | refine K6 ?_ | refine K7 ?_ | refine L1 ?_ | refine L2 ?_ | refine L3 ?_ | refine RG.d ?_ | refine RG.dd ?_ | refine S1 ?_ | refine S2 ?_ | refine S3 ?_ | refine S4 ?_ | refine S5 ?_ | refine S6 ?_ | refine S7 ?_ | refine S8 ?_))
    exact ⟨⟨_, rfl, rfl⟩, rfl, .cons rfl (.one rfl) (Reg.lt_one rfl) ⟨[], _, rfl⟩ (.nil _)⟩
  · rw [show mNext L ⟨p, bad⟩ = (0, ⟨p, true⟩) from if_neg h]
    show FC _ _ _ _ [.one [rdi L, i64 (p : Int), .val (.bool bad)]] (i64 0) [.one [rdi L, i64 (p : Int), .val (.bool true)]] NoP
    refine FC.of_AW tok Try.func91 (by kernel_rfl) rfl Try.ntmps91 [] rfl rfl rfl ?_; intro w0 X0 Y f0 hI0 hX0
    (repeat (first | refine K1 ?_ | refine K2 ?_ | refine K3 ?_ | refine K4 ?_ | refine K5 ?_ | refine K6 ?_ | refine K7 ?_ | refine L1 ?_ | refine L2 ?_ | refine L3 ?_ | refine RG.d ?_ | refine RG.dd ?_ | refine S1 ?_ | refine S2 ?_ | refine S3 ?_ | refine S4 ?_ | refine S5 ?_ | refine S7 ?_ | refine S8 ?_))
    refine AW.condD rfl (fun _ => ?_) (fun k => absurd (show (L.length : Int) ≤ (p : Int) by omega) k)
    (repeat (first | refine K1 ?_ | refine K2 ?_ | refine K3 ?_ | refine K4 ?_ | refine K5 ?_ | refine K6 ?_ | refine K7 ?_ | refine L1 ?_ | refine L2 ?_ | refine L3 ?_ | refine RG.d ?_ | refine RG.dd ?_ | refine S1 ?_ | refine S2 ?_ | refine S3 ?_ | refine S4 ?_ | refine S5 ?_ | refine S6 ?_ | refine S7 ?_ | refine S8 ?_))
    exact ⟨⟨_, rfl, rfl⟩, rfl, .cons rfl (.one rfl) (Reg.lt_one rfl) ⟨[], _, rfl⟩ (.nil _)⟩
set_option maxHeartbeats 4000000 in
theorem imany_fc (L : List Int) (size : Nat) (hz : 0 < size) (hz2 : size ≤ 100) (s : Inp) (hs : s.p ≤ L.length) (hB : L.length ≤ BW) : FC Try.prog ge 92 [.ptr 0 [] 0, i64 (size : Int)] [.one (inC L s)] (i64 ((mMany L size s).1 : Int)) [.one (inC L (mMany L size s).2)] NoP := by
  have c := inext_fc L s hB
  have hsp := sp_next s hs
  obtain ⟨q, hq⟩ : ∃ q, q = mNext L s := ⟨_, rfl⟩
  rw [← hq] at c hsp
  unfold mMany
  rw [← hq]
  obtain ⟨n, ⟨p, bad⟩⟩ := q
  have hp : p ≤ L.length := hsp.top
  clear hsp hq
  unfold BW at hB
  dsimp only at c ⊢
  cases bad with
  | true =>
    have c : FC Try.prog ge 91 [.ptr 0 [] 0] [.one (inC L s)] (i64 n) [.one [rdi L, i64 (p : Int), .val (.bool true)]] NoP := c
    rw [if_pos (.inl rfl)]
    show FC _ _ _ _ [.one (inC L s)] (i64 0) [.one [rdi L, i64 (p : Int), .val (.bool true)]] NoP
    refine FC.of_AW tok Try.func92 (by kernel_rfl) rfl Try.ntmps92 [] rfl rfl rfl ?_; intro w0 X0 Y f0 hI0 hX0
    refine S1 ?_; (repeat (first | refine K1 ?_ | refine K2 ?_ | refine K3 ?_ | refine K4 ?_ | refine K5 ?_ | refine K6 ?_ | refine K7 ?_ | refine L1 ?_ | refine L2 ?_ | refine L3 ?_ | refine RG.d ?_ | refine RG.dd ?_ | refine S2 ?_ | refine S3 ?_ | refine S4 ?_ | refine S5 ?_ | refine S7 ?_ | refine S8 ?_))
    refine S1 ?_
    (repeat (first | refine RG.call rfl rfl rfl rfl (c) [0] rfl rfl rfl rfl (.cons rfl (.one rfl) (Reg.lt_one rfl) ⟨[], _, rfl⟩ (.nil _)) (.cons (.one rfl) (.nil _)) (fun _ h => by first | exact h | exact False.elim h) rfl rfl rfl ?_ | refine K1 ?_ | refine K2 ?_ | refine K3 ?_ | refine K4 ?_ | refine K5 ?_ | refine K6 ?_ | refine K7 ?_ | refine L1 ?_ | refine L2 ?_ | refine L3 ?_ | refine RG.d ?_ | refine RG.dd ?_ | refine S2 ?_ | refine S3 ?_ | refine S4 ?_ | refine S5 ?_ | refine S7 ?_ | refine S8 ?_))
    (repeat (first | refine K1 ?_ | refine K2 ?_ | refine K3 ?_ | refine K4 ?_ | refine K5 ?_ | refine K6 ?_ | refine K7 ?_ | refine L1 ?_ | refine L2 ?_ | refine L3 ?_ | refine RG.d ?_ | refine RG.dd ?_ | refine S1 ?_ | refine S2 ?_ | refine S3 ?_ | refine S4 ?_ | refine S5 ?_ | refine S7 ?_ | refine S8 ?_))
    (repeat (first | refine K1 ?_ | refine K2 ?_ | refine K3 ?_ | refine K4 ?_ | refine K5 ?_ | refine K6 ?_ | refine K7 ?_ | refine L1 ?_ | refine L2 ?_ | refine L3 ?_ | refine RG.d ?_ | refine RG.dd ?_ | refine S1 ?_ | refine S2 ?_ | refine S3 ?_ | refine S4 ?_ | refine S5 ?_ | refine S6 ?_ | refine S7 ?_ | refine S8 ?_))
    exact ⟨⟨_, rfl, rfl⟩, rfl, .cons rfl (.one rfl) (Reg.lt_one rfl) ⟨[], _, rfl⟩ (.nil _)⟩
  | false =>
    have c : FC Try.prog ge 91 [.ptr 0 [] 0] [.one (inC L s)] (i64 n) [.one [rdi L, i64 (p : Int), .val (.bool false)]] NoP := c
    by_cases h0 : n < 0
    · rw [if_pos (.inr (.inl h0))]
      show FC _ _ _ _ [.one (inC L s)] (i64 0) [.one [rdi L, i64 (p : Int), .val (.bool true)]] NoP
      refine FC.of_AW tok Try.func92 (by kernel_rfl) rfl Try.ntmps92 [] rfl rfl rfl ?_; intro w0 X0 Y f0 hI0 hX0
      refine S1 ?_; (repeat (first | refine K1 ?_ | refine K2 ?_ | refine K3 ?_ | refine K4 ?_ | refine K5 ?_ | refine K6 ?_ | refine K7 ?_ | refine L1 ?_ | refine L2 ?_ | refine L3 ?_ | refine RG.d ?_ | refine RG.dd ?_ | refine S2 ?_ | refine S3 ?_ | refine S4 ?_ | refine S5 ?_ | refine S7 ?_ | refine S8 ?_))
      refine S1 ?_
      (repeat (first | refine RG.call rfl rfl rfl rfl (c) [0] rfl rfl rfl rfl (.cons rfl (.one rfl) (Reg.lt_one rfl) ⟨[], _, rfl⟩ (.nil _)) (.cons (.one rfl) (.nil _)) (fun _ h => by first | exact h | exact False.elim h) rfl rfl rfl ?_ | refine K1 ?_ | refine K2 ?_ | refine K3 ?_ | refine K4 ?_ | refine K5 ?_ | refine K6 ?_ | refine K7 ?_ | refine L1 ?_ | refine L2 ?_ | refine L3 ?_ | refine RG.d ?_ | refine RG.dd ?_ | refine S2 ?_ | refine S3 ?_ | refine S4 ?_ | refine S5 ?_ | refine S7 ?_ | refine S8 ?_))
      (repeat (first | refine K1 ?_ | refine K2 ?_ | refine K3 ?_ | refine K4 ?_ | refine K5 ?_ | refine K6 ?_ | refine K7 ?_ | refine L1 ?_ | refine L2 ?_ | refine L3 ?_ | refine RG.d ?_ | refine RG.dd ?_ | refine S1 ?_ | refine S2 ?_ | refine S3 ?_ | refine S4 ?_ | refine S5 ?_ | refine S7 ?_ | refine S8 ?_))
      refine RG.split 16 rfl (fun _ => ?_) (fun k => absurd h0 k)
      (repeat (first | refine K1 ?_ | refine K2 ?_ | refine K3 ?_ | refine K4 ?_ | refine K5 ?_ | refine K6 ?_ | refine K7 ?_ | refine L1 ?_ | refine L2 ?_ | refine L3 ?_ | refine RG.d ?_ | refine RG.dd ?_ | refine S1 ?_ | refine S2 ?_ | refine S3 ?_ | refine S4 ?_ | refine S5 ?_ | refine S6 ?_ | refine S7 ?_ | refine S8 ?_))
      exact ⟨⟨_, rfl, rfl⟩, rfl, .cons rfl (.one rfl) (Reg.lt_one rfl) ⟨[], _, rfl⟩ (.nil _)⟩
    obtain ⟨r, hr⟩ : ∃ r : Nat, r = (L.length - p) / size := ⟨_, rfl⟩
    have hq2 : IntKind.i64.wrap (((L.length : Int) - (p : Int)).tdiv (size : Int)) = (r : Int) := by
      have h2 : r ≤ L.length - p := by rw [hr]; exact Nat.div_le_self _ _
      rw [show (L.length : Int) - (p : Int) = ((L.length - p : Nat) : Int) by omega, show ((L.length - p : Nat) : Int).tdiv (size : Int) = ((r : Nat) : Int) by rw [hr]; rfl, wrap_i64 (by omega)]
    rw [← hr]
    have hnz : (size : Int) ≠ 0 := by omega
    by_cases h1 : (r : Int) < n
    · rw [if_pos (.inr (.inr h1))]
      show FC _ _ _ _ [.one (inC L s)] (i64 0) [.one [rdi L, i64 (p : Int), .val (.bool true)]] NoP
      refine FC.of_AW tok Try.func92 (by kernel_rfl) rfl Try.ntmps92 [] rfl rfl rfl ?_; intro w0 X0 Y f0 hI0 hX0
      refine S1 ?_; (repeat (first | refine K1 ?_ | refine K2 ?_ | refine K3 ?_ | refine K4 ?_ | refine K5 ?_ | refine K6 ?_ | refine K7 ?_ | refine L1 ?_ | refine L2 ?_ | refine L3 ?_ | refine RG.d ?_ | refine RG.dd ?_ | refine S2 ?_ | refine S3 ?_ | refine S4 ?_ | refine S5 ?_ | refine S7 ?_ | refine S8 ?_))
      refine S1 ?_
      (repeat (first | refine RG.call rfl rfl rfl rfl (c) [0] rfl rfl rfl rfl (.cons rfl (.one rfl) (Reg.lt_one rfl) ⟨[], _, rfl⟩ (.nil _)) (.cons (.one rfl) (.nil _)) (fun _ h => by first | exact h | exact False.elim h) rfl rfl rfl ?_ | refine K1 ?_ | refine K2 ?_ | refine K3 ?_ | refine K4 ?_ | refine K5 ?_ | refine K6 ?_ | refine K7 ?_ | refine L1 ?_ | refine L2 ?_ | refine L3 ?_ | refine RG.d ?_ | refine RG.dd ?_ | refine S2 ?_ | refine S3 ?_ | refine S4 ?_ | refine S5 ?_ | refine S7 ?_ | refine S8 ?_))
      (repeat (first | refine K1 ?_ | refine K2 ?_ | refine K3 ?_ | refine K4 ?_ | refine K5 ?_ | refine K6 ?_ | refine K7 ?_ | refine L1 ?_ | refine L2 ?_ | refine L3 ?_ | refine RG.d ?_ | refine RG.dd ?_ | refine S1 ?_ | refine S2 ?_ | refine S3 ?_ | refine S4 ?_ | refine S5 ?_ | refine S7 ?_ | refine S8 ?_))
      refine RG.split 16 rfl (fun k => absurd k h0) (fun _ => ?_)
      (repeat (first | refine K1 ?_ | refine K2 ?_ | refine K3 ?_ | refine K4 ?_ | refine K5 ?_ | refine K6 ?_ | refine K7 ?_ | refine L1 ?_ | refine L2 ?_ | refine L3 ?_ | refine RG.d ?_ | refine RG.dd ?_ | refine S1 ?_ | refine S2 ?_ | refine S3 ?_ | refine S4 ?_ | refine S5 ?_ | refine S7 ?_ | refine S8 ?_))
      refine AW.condD rfl (fun _ => ?_) (fun k => absurd (show IntKind.i64.wrap (((L.length : Int) - (p : Int)).tdiv (size : Int)) < n by rw [hq2]; exact h1) k)
      (repeat (first | refine K1 ?_ | refine K2 ?_ | refine K3 ?_ | refine K4 ?_ | refine K5 ?_ | refine K6 ?_ | refine K7 ?_ | refine L1 ?_ | refine L2 ?_ | refine L3 ?_ | refine RG.d ?_ | refine RG.dd ?_ | refine S1 ?_ | refine S2 ?_ | refine S3 ?_ | refine S4 ?_ | refine S5 ?_ | refine S6 ?_ | refine S7 ?_ | refine S8 ?_))
      exact ⟨⟨_, rfl, rfl⟩, rfl, .cons rfl (.one rfl) (Reg.lt_one rfl) ⟨[], _, rfl⟩ (.nil _)⟩
    · rw [if_neg (by rintro (h | h | h); cases h; exact h0 h; exact h1 h)]
      obtain ⟨m, rfl⟩ : ∃ m : Nat, n = m := ⟨n.toNat, by omega⟩
      show FC _ _ _ _ [.one (inC L s)] (i64 (m : Int)) [.one [rdi L, i64 (p : Int), .val (.bool false)]] NoP
      refine FC.of_AW tok Try.func92 (by kernel_rfl) rfl Try.ntmps92 [] rfl rfl rfl ?_; intro w0 X0 Y f0 hI0 hX0
      refine S1 ?_; (repeat (first | refine K1 ?_ | refine K2 ?_ | refine K3 ?_ | refine K4 ?_ | refine K5 ?_ | refine K6 ?_ | refine K7 ?_ | refine L1 ?_ | refine L2 ?_ | refine L3 ?_ | refine RG.d ?_ | refine RG.dd ?_ | refine S2 ?_ | refine S3 ?_ | refine S4 ?_ | refine S5 ?_ | refine S7 ?_ | refine S8 ?_))
      refine S1 ?_
      (repeat (first | refine RG.call rfl rfl rfl rfl (c) [0] rfl rfl rfl rfl (.cons rfl (.one rfl) (Reg.lt_one rfl) ⟨[], _, rfl⟩ (.nil _)) (.cons (.one rfl) (.nil _)) (fun _ h => by first | exact h | exact False.elim h) rfl rfl rfl ?_ | refine K1 ?_ | refine K2 ?_ | refine K3 ?_ | refine K4 ?_ | refine K5 ?_ | refine K6 ?_ | refine K7 ?_ | refine L1 ?_ | refine L2 ?_ | refine L3 ?_ | refine RG.d ?_ | refine RG.dd ?_ | refine S2 ?_ | refine S3 ?_ | refine S4 ?_ | refine S5 ?_ | refine S7 ?_ | refine S8 ?_))
      (repeat (first | refine K1 ?_ | refine K2 ?_ | refine K3 ?_ | refine K4 ?_ | refine K5 ?_ | refine K6 ?_ | refine K7 ?_ | refine L1 ?_ | refine L2 ?_ | refine L3 ?_ | refine RG.d ?_ | refine RG.dd ?_ | refine S1 ?_ | refine S2 ?_ | refine S3 ?_ | refine S4 ?_ | refine S5 ?_ | refine S7 ?_ | refine S8 ?_))
      refine AW.condD rfl (fun k => absurd (show IntKind.i64.wrap (((L.length : Int) - (p : Int)).tdiv (size : Int)) < (m : Int) from k) (by rw [hq2]; exact h1)) (fun _ => ?_)
      (repeat (first | refine K1 ?_ | refine K2 ?_ | refine K3 ?_ | refine K4 ?_ | refine K5 ?_ | refine K6 ?_ | refine K7 ?_ | refine L1 ?_ | refine L2 ?_ | refine L3 ?_ | refine RG.d ?_ | refine RG.dd ?_ | refine S1 ?_ | refine S2 ?_ | refine S3 ?_ | refine S4 ?_ | refine S5 ?_ | refine S6 ?_ | refine S7 ?_ | refine S8 ?_))
      exact ⟨⟨_, rfl, rfl⟩, rfl, .cons rfl (.one rfl) (Reg.lt_one rfl) ⟨[], _, rfl⟩ (.nil _)⟩
end Go.Proofs.Ytmfccaidgaelcaa
