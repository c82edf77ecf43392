/- How a word is read. No conditions. -/
import Derived.Test.YtmfccaidgaelcaaEc6
import Derived.Test.YtmfccaidgaelcaaAbsE
set_option linter.unusedVariables false
set_option linter.unusedSimpArgs false
namespace Go.Proofs.Ytmfccaidgaelcaa
open Go.Abs Go Go.RowKit
/-- The panic of a wrong form. -/
def PW : List PanicEntry → Prop := fun ch => ch = [{ v := .iface 141 (.agg #[]), recovered := false }]
/-- What is not read yet: words, and less than a word behind them. -/
def stB (ws t : List Int) : List A := [.ro (8 * ws.length + t.length) (ints .u8 (bsL ws ++ t))]
abbrev rdrA : A := .agg [.ptr 0 [] 0]
def rres {α : Type} (F : α → A) : Option (α × List Int) → A
  | some (x, _) => F x
  | none => A.no
/-- Whether it panics. -/
def PN {α : Type} : Option (α × List Int) → List PanicEntry → Prop
  | some _ => NoP
  | none => PW
def rrest {α : Type} : Option (α × List Int) → List Int
  | some (_, l) => l
  | none => []
theorem stB_free (ws t : List Int) : ltL 0 (stB ws t) = true := rfl
theorem toNat_ofInt (n : Nat) : (BitVec.ofInt 64 (IntKind.i64.wrap (n : Int))).toNat = n % 18446744073709551616 := by
  rw [BitVec.toNat_ofInt]
  unfold IntKind.wrap IntKind.signed IntKind.bits
  simp
  omega
def pm (x : Int) (k : Nat) : Nat := uns x % 256 ^ k
theorem or_step (x : Int) (k : Nat) (hk : k < 8) : some (A.val (.int .i64 (IntKind.i64.wrap ((BitVec.ofInt 64 (IntKind.i64.wrap (pm x k : Int)) ||| BitVec.ofInt 64 (IntKind.i64.wrap (((uns x / 256 ^ k % 256 : Nat) : Int) * 2 ^ min ((8 : Int) * (k : Int)).toNat 64))).toNat : Nat)))) =
    some (A.val (.int .i64 (IntKind.i64.wrap (pm x (k + 1) : Int)))) := by
  unfold pm
  have e : min ((8 : Int) * (k : Int)).toNat 64 = 8 * k := by omega
  have hp : (256 : Nat) ^ k = 2 ^ (8 * k) := by rw [show (256 : Nat) = 2 ^ 8 from rfl, ← Nat.pow_mul]
  obtain ⟨b, hb⟩ : ∃ b, b = uns x / 256 ^ k % 256 := ⟨_, rfl⟩
  have hb2 : b < 256 := by rw [hb]; exact Nat.mod_lt _ (by decide)
  have hm : uns x % 256 ^ (k + 1) = uns x % 256 ^ k + 256 ^ k * b := by rw [hb, Nat.pow_succ, Nat.mod_mul]
  have hlt : uns x % 256 ^ k < 2 ^ (8 * k) := by rw [hp]; exact Nat.mod_lt _ (Nat.pow_pos (by decide))
  rw [e, ← hb, hm, hp]
  have e2 : (b : Int) * 2 ^ (8 * k) = ((2 ^ (8 * k) * b : Nat) : Int) := by rw [Int.natCast_mul, Int.mul_comm, Int.natCast_pow]; rfl
  rw [e2, BitVec.toNat_or, toNat_ofInt, toNat_ofInt]
  rw [hp] at hlt
  have h1 : 2 ^ (8 * k) ≤ 2 ^ 56 := Nat.pow_le_pow_right (by decide) (by omega)
  have h2 : 2 ^ (8 * k) * b < 18446744073709551616 := by
    have : 2 ^ (8 * k) * b ≤ 2 ^ 56 * 255 := Nat.mul_le_mul h1 (by omega)
    omega
  rw [Nat.mod_eq_of_lt (a := uns x % 2 ^ (8 * k)) (by omega), Nat.mod_eq_of_lt h2, Nat.or_comm, ← Nat.two_pow_add_eq_or_of_lt (by rw [← hp] at hlt ⊢; exact hlt), Nat.add_comm]
theorem wrap_uns (x : Int) (h : I64' x) : IntKind.i64.wrap (pm x 8 : Int) = x := by
  unfold pm
  rw [show (256 : Nat) ^ 8 = 18446744073709551616 from rfl, Nat.mod_eq_of_lt (uns_lt x)]
  unfold uns W64
  unfold I64' at h
  unfold IntKind.wrap IntKind.signed IntKind.bits
  simp
  omega
theorem byW_get (x : Int) (k : Nat) (hk : k < 8) (l : List Int) : (byW x ++ l)[k]? = some ((uns x / 256 ^ k % 256 : Nat) : Int) := by
  rw [List.getElem?_append_left (by rw [byW_len]; exact hk), byW, List.getElem?_map, encN_get 8 _ k hk]; rfl
set_option maxHeartbeats 8000000 in
theorem next_ok (x : Int) (ws t : List Int) (hx : I64' x) (hw : ws.length ≤ BW) (ht : t.length < 8) : FC Try.prog ge 82 [.ptr 0 [] 0] [.one (stB (x :: ws) t)] (i64 x) [.one (stB ws t)] NoP := by
  unfold BW at hw
  have hbl : (bsL ws ++ t).length = 8 * ws.length + t.length := by rw [List.length_append, bsL_len]
  have e0 : stB (x :: ws) t = [.ro (8 * ws.length + t.length + 8) (ints .u8 (byW x ++ (bsL ws ++ t)))] := by
    unfold stB
    rw [bsL, List.append_assoc, List.length_cons]
    congr 2
    omega
  rw [e0]
  unfold stB
  obtain ⟨n, hn⟩ : ∃ n, n = 8 * ws.length + t.length := ⟨_, rfl⟩
  rw [← hn] at hbl ⊢
  obtain ⟨r, hr⟩ : ∃ r, r = bsL ws ++ t := ⟨_, rfl⟩
  rw [← hr] at hbl ⊢
  obtain ⟨N, hN⟩ : ∃ N, N = n + 8 := ⟨_, rfl⟩
  rw [← hN]
  refine FC.of_AW tok Try.func82 (by kernel_rfl) rfl Try.ntmps82 [] rfl rfl rfl ?_; intro w0 X0 Y f0 hI0 hX0
  refine S1 ?_; (repeat (first | refine K4 ?_ | refine RG.d ?_ | refine S2 ?_))
  refine S1 ?_
  (repeat (first | refine K4 ?_ | refine L1 ?_ | refine RG.d ?_ | refine S1 ?_ | refine S2 ?_))
  refine AW.condD rfl (fun k => absurd (show (N : Int) < 8 from k) (by omega)) (fun _ => ?_)
  refine S3 ?_
  refine S1 ?_; (repeat (first | refine K4 ?_ | refine RG.d ?_ | refine S2 ?_))
  refine AW.seqJ (fun _ : Unit => ⟨put 0 (some (.ptr 0 [] 0)) (put 3 (some (i64 x)) noE), hput 0 (.one ([.ro N (ints .u8 (byW x ++ r))])) noH, 1⟩) (fun _ => True) ?_ ?_
  · refine S1 ?_; (repeat (first | refine K4 ?_ | refine RG.d ?_ | refine S2 ?_ | refine S4 ?_))
    refine AW.loopS (fun k : Nat => ⟨put 0 (some (.ptr 0 [] 0)) (put 3 (some (i64 (IntKind.i64.wrap (pm x k : Int)))) (put 13 (some (i64 (k : Int))) noE)), hput 0 (.one ([.ro N (ints .u8 (byW x ++ r))])) noH, 1⟩) (fun k => k ≤ 8) (fun k => 8 - k) 0 (by omega) (by (try dsimp only); rw [show pm x 0 = 0 from Nat.mod_one _]; exact Sub.of (by repeat (first | exact SubE.no _ | refine SubE.put rfl ?_)) (by repeat (first | exact SubH.no _ | refine SubH.put rfl ?_)) rfl) ?_
    intro k hk
    (repeat (first | refine K4 ?_ | refine RG.d ?_ | refine S1 ?_ | refine S2 ?_))
    refine AW.condD rfl (fun h => ?_) (fun h => ?_)
    rotate_left
    · have h' : ¬ (k : Int) < 8 := h
      obtain rfl : k = 8 := by omega
      rw [wrap_uns x hx]
      (repeat (first | refine S5 ?_))
      exact ⟨(), trivial, Sub.of (by repeat (first | exact SubE.no _ | refine SubE.put rfl ?_)) (by repeat (first | exact SubH.no _ | refine SubH.put rfl ?_)) rfl⟩
    have hk2 : k < 8 := by
      have h' : (k : Int) < 8 := h
      omega
    have hat := ints_cut (byW x ++ r) k _ (byW_get x k hk2 r) .u8
    have hos := or_step x k hk2
    obtain ⟨b, hb⟩ : ∃ b, b = uns x / 256 ^ k % 256 := ⟨_, rfl⟩
    have hb2 : b < 256 := by rw [hb]; exact Nat.mod_lt _ (by decide)
    rw [← hb] at hat hos
    refine S3 ?_
    repeat (first | refine S1 ?_ | refine S4 ?_)
    refine S2 ?_
    (first | refine K4 ?_)
    (first | refine K4 ?_)
    (first | refine RG.d ?_ | refine RG.dd ?_)
    refine S2 ?_
    (first | refine K4 ?_)
    (first | refine K4 ?_)
    (first | refine K4 ?_)
    (first | refine K4 ?_)
    (first | refine L1 ?_)
    (first | refine K4 ?_)
    refine RG.idx tok rfl rfl rfl rfl rfl rfl hat ⟨by omega, by omega⟩ rfl ?_
    (first | refine L1 ?_)
    (first | refine K2 ?_)
    (first | refine K4 ?_)
    (first | refine K2 ?_)
    refine RG.val tok rfl rfl rfl (show (0 : Int) ≤ 8 * (k : Int) by omega) rfl rfl ?_
    refine RG.val tok rfl rfl rfl trivial rfl hos ?_
    (repeat (first | refine K2 ?_ | refine K4 ?_ | refine RG.d ?_ | refine S2 ?_))
    exact ⟨k + 1, by show k + 1 ≤ 8; omega, by show 8 - (k + 1) < 8 - k; omega, Sub.of (by repeat (first | exact SubE.no _ | refine SubE.put rfl ?_)) (by repeat (first | exact SubH.no _ | refine SubH.put rfl ?_)) rfl⟩
  intro _ _
  have hcut : (ints .u8 (byW x ++ r)).drop (iNat 8 * 1) = ints .u8 r := by
    rw [ints_append, show iNat 8 * 1 = 8 from rfl, List.drop_append, List.drop_of_length_le (by rw [ints_length, byW_len]; omega), ints_length, byW_len]
    rfl
  refine S1 ?_; (repeat (first | refine K4 ?_ | refine L1 ?_ | refine S2 ?_))
  refine RG.val tok rfl rfl rfl (show (0 : Int) ≤ 8 ∧ (8 : Int) ≤ (N : Int) ∧ (ints .u8 (byW x ++ r)).length = N * 1 from ⟨by omega, by omega, by rw [ints_length, List.length_append, byW_len]; omega⟩) rfl (show some (A.ro (N - iNat 8) ((ints .u8 (byW x ++ r)).drop (iNat 8 * 1))) = some (A.ro n (ints .u8 r)) by rw [hcut, show N - iNat 8 = n by rw [hN]; exact Nat.add_sub_cancel n 8]) ?_
  (repeat (first | refine K4 ?_ | refine L3 ?_ | refine RG.d ?_ | refine S1 ?_ | refine S2 ?_ | refine S6 ?_))
  exact ⟨⟨_, rfl, rfl⟩, rfl, .cons rfl (.one rfl) (Reg.lt_one rfl) ⟨[], _, rfl⟩ (.nil _)⟩
theorem next_no (t : List Int) (ht : t.length < 8) : FC Try.prog ge 82 [.ptr 0 [] 0] [.one (stB [] t)] A.no [.one (stB [] t)] PW := by
  have e0 : stB [] t = [.ro t.length (ints .u8 t)] := by
    unfold stB
    simp [bsL]
  rw [e0]
  refine FC.of_AW tok Try.func82 (by kernel_rfl) rfl Try.ntmps82 [] rfl rfl rfl ?_; intro w0 X0 Y f0 hI0 hX0
  refine S1 ?_; (repeat (first | refine K4 ?_ | refine RG.d ?_ | refine S2 ?_))
  refine S1 ?_
  (repeat (first | refine K4 ?_ | refine L1 ?_ | refine RG.d ?_ | refine S1 ?_ | refine S2 ?_))
  refine AW.condD rfl (fun _ => ?_) (fun k => absurd (show ((t.length : Nat) : Int) < 8 by omega) k)
  (repeat (first | refine K4 ?_ | refine S2 ?_))
  refine RG.panic rfl rfl rfl rfl ?_
  (repeat (first | refine K4 ?_ | refine RG.d ?_ | refine S1 ?_ | refine S2 ?_ | refine S4 ?_))
  exact AW.absurd 12 rfl
end Go.Proofs.Ytmfccaidgaelcaa
