/- What the functions of package digest on single words compute. -/
import Derived.Test.YtifpkhgcoopjnaaRows
import Derived.Test.YtifpkhgcoopjnaaDigestPure
import Derived.WalkSpells
import Derived.WalkLawsBesides
import Derived.Handy
namespace Go.Proofs.Ytifpkhgcoopjnaa
open Go.RowKit

set_option maxHeartbeats 400000 in
theorem step_any (h v : Int) (w : World) :
    Calls Try.prog 18 #[.int .u64 h, .int .u64 v] w fun e w' => e = .returned (.int .u64 (I (Dg.step (B h) (B v)))) ∧ w = w' := by
  go_enter Try.func18, Try.ntmps18
  go_wp2
  go_ret
  refine ⟨?_, rfl⟩
  show Ending.returned (.int .u64 _) = Ending.returned (.int .u64 _)
  have h1 : ∀ x : BitVec 64, I x / (536870912 : Int) = I (x >>> 29) := fun x => I_div x 29
  have h2 : ∀ x : BitVec 64, I x / (4294967296 : Int) = I (x >>> 32) := fun x => I_div x 32
  have hA : B 11400714819323198485 = Dg.mulA := by decide +kernel
  have hB : B 13787848793156543929 = Dg.mulB := by decide +kernel
  simp only [xor_u64, wrap_u64, B_I, B_mul, h1, h2, hA, hB]
  rfl

set_option maxHeartbeats 400000 in
theorem inverse_any (a : Int) (w : World) (ha : U a) :
    Calls Try.prog 42 #[.int .u64 a] w fun e w' => e = .returned (.int .u64 (I (Dg.inverse (B a)))) ∧ w = w' := by
  go_enter Try.func42, Try.ntmps42
  go_wp2
  go_loop [3, 5] (fun x i => ∃ k : Nat, k ≤ 5 ∧ i = .int .i64 k ∧ x = .int .u64 (I (Dg.invTo (B a) k))) (fun _ i => 5 - (intOf i).toNat)
  case atStart => exact ⟨0, by omega, rfl, by simp [Dg.invTo, ha.I_B]⟩
  case round =>
    obtain ⟨k, hk, rfl, rfl⟩ := hrel
    by_cases hlt : k < 5
    · go_wp2
      go_round
      case rel => exact ⟨k + 1, by omega, by go_num, by simp only [wrap_u64, B_I, B_mul, B_sub]; rfl⟩
      case measure => simp [intOf]; omega
    · go_wp2
      go_ret
      obtain rfl : k = 5 := by omega
      exact ⟨rfl, rfl⟩

set_option maxHeartbeats 400000 in
theorem back_any (h x : Int) (w : World) (hx : U x) :
    Calls Try.prog 17 #[.int .u64 h, .int .u64 x] w fun e w' => e = .returned (.int .u64 (I (Dg.back (B h) (B x)))) ∧ w = w' := by
  obtain ⟨x, rfl⟩ := hx
  go_enter Try.func17, Try.ntmps17
  go_wp2_with (go_at_call 42; refine (inverse_any _ _ (U_of _ (by omega))).mono ?_; rintro e w' ⟨rfl, rfl⟩)
  go_ret
  refine ⟨?_, rfl⟩
  show Ending.returned (.int .u64 _) = Ending.returned (.int .u64 _)
  have h1 : ∀ x : BitVec 64, I x / (536870912 : Int) = I (x >>> 29) := fun x => I_div x 29
  have h2 : ∀ x : BitVec 64, I x / (4294967296 : Int) = I (x >>> 32) := fun x => I_div x 32
  have h3 : ∀ x : BitVec 64, I x / (288230376151711744 : Int) = I (x >>> 58) := fun x => I_div x 58
  have hA : B 11400714819323198485 = Dg.mulA := by decide +kernel
  have hB : B 13787848793156543929 = Dg.mulB := by decide +kernel
  simp only [xor_u64, wrap_u64, B_I, B_mul, h1, h2, h3, hA, hB]
  rfl

set_option maxHeartbeats 400000 in
theorem join_any (a b : Int) (w : World) :
    Calls Try.prog 21 #[.int .u64 a, .int .u64 b] w fun e w' => e = .returned (.int .u64 (I (Dg.join (B a) (B b)))) ∧ w = w' := by
  go_enter Try.func21, Try.ntmps21
  go_wp2_with (go_at_call 18; refine (step_any _ _ _).mono ?_; rintro e w' ⟨rfl, rfl⟩)
  go_ret
  refine ⟨?_, rfl⟩
  show Ending.returned (.int .u64 _) = Ending.returned (.int .u64 _)
  simp only [B_I]
  rfl

theorem byte_lt (c : UInt8) : (c.toNat : Int) < 256 := by have := c.toNat_lt; omega
theorem take_snoc (s : ByteArray) (k : Nat) (h : k < s.size) : s.data.toList.take (k + 1) = s.data.toList.take k ++ [s[k]] := by
  rw [List.take_succ_eq_append_getElem (by simpa using h)]; rfl
theorem B_16 (x : BitVec 64) : x * B 16 = x <<< 4 := by
  rw [BitVec.shiftLeft_eq_mul_twoPow]; rfl
theorem value_ret {c a : Int} {b : Bool} (h : a = Dg.value c) (h' : b = Dg.isDigit c) : Ending.returned (.tuple #[.int .u64 a, .bool b]) = .returned (.tuple #[.int .u64 (Dg.value c), .bool (Dg.isDigit c)]) := by rw [h, h']
set_option maxHeartbeats 400000 in
theorem value_any (c : Int) (w : World) (h0 : 0 ≤ c) (h1 : c < 256) :
    Calls Try.prog 56 #[.int .u8 c] w fun e w' => e = .returned (.tuple #[.int .u64 (Dg.value c), .bool (Dg.isDigit c)]) ∧ w = w' := by
  by_cases c1 : 48 ≤ c
  · by_cases c2 : c ≤ 57
    · go_enter Try.func56, Try.ntmps56
      go_wp2
      go_ret2
      exact ⟨value_ret (by unfold Dg.value; first | rw [if_pos (by omega)] | (rw [if_neg (by omega)]; first | (rw [if_pos (by omega)]; omega) | rw [if_neg (by omega)])) (by simp [Dg.isDigit]; try omega), rfl⟩
    · by_cases c3 : 97 ≤ c
      · by_cases c4 : c ≤ 102
        · go_enter Try.func56, Try.ntmps56
          go_wp2
          go_ret2
          exact ⟨value_ret (by unfold Dg.value; first | rw [if_pos (by omega)] | (rw [if_neg (by omega)]; first | (rw [if_pos (by omega)]; omega) | rw [if_neg (by omega)])) (by simp [Dg.isDigit]; try omega), rfl⟩
        · go_enter Try.func56, Try.ntmps56
          go_wp2
          go_ret2
          exact ⟨value_ret (by unfold Dg.value; first | rw [if_pos (by omega)] | (rw [if_neg (by omega)]; first | (rw [if_pos (by omega)]; omega) | rw [if_neg (by omega)])) (by simp [Dg.isDigit]; try omega), rfl⟩
      · go_enter Try.func56, Try.ntmps56
        go_wp2
        go_ret2
        exact ⟨value_ret (by unfold Dg.value; first | rw [if_pos (by omega)] | (rw [if_neg (by omega)]; first | (rw [if_pos (by omega)]; omega) | rw [if_neg (by omega)])) (by simp [Dg.isDigit]; try omega), rfl⟩
  · go_enter Try.func56, Try.ntmps56
    go_wp2
    go_ret2
    exact ⟨value_ret (by unfold Dg.value; first | rw [if_pos (by omega)] | (rw [if_neg (by omega)]; first | (rw [if_pos (by omega)]; omega) | rw [if_neg (by omega)])) (by simp [Dg.isDigit]; try omega), rfl⟩

set_option maxHeartbeats 400000 in
theorem parse_any (s : ByteArray) (w : World) (hs : s.size ≤ maxLen) :
    Calls Try.prog 43 #[.string s] w fun e w' => e = .returned (.tuple #[.int .u64 (I (Dg.parse s.data.toList).1), .int .i64 (Dg.parse s.data.toList).2]) ∧ w = w' := by
  unfold maxLen at hs
  by_cases h16 : s.size = 16
  · go_enter Try.func43, Try.ntmps43
    go_wp2
    have H16 : Hid (s.size = 16) := h16
    have hlt : s.size < 17 := by omega
    have hgt : 15 < s.size := by omega
    clear h16 hs
    go_loop [4, 13] (fun x i => ∃ k : Nat, k ≤ 16 ∧ i = .int .i64 k ∧ x = .int .u64 (I (Dg.number (s.data.toList.take k))) ∧ Hid (Dg.digits (s.data.toList.take k) = true)) (fun _ i => 16 - (intOf i).toNat)
    case atStart => exact ⟨0, by omega, rfl, rfl, rfl⟩
    case round =>
      obtain ⟨k, hk, rfl, rfl, hd⟩ := hrel
      by_cases hlt : k < 16
      · have hks : k < s.size := by omega
        go_wp2_with (go_at_call 56; refine (value_any _ _ (by omega) (byte_lt _)).mono ?_; rintro e w' ⟨rfl, rfl⟩)
        · have hn : Dg.isDigit (s[k].toNat : Int) = false := by simpa using (by assumption : (!Dg.isDigit (s[k].toNat : Int)) = true)
          go_ret2
          refine ⟨?_, rfl⟩
          rw [Dg.parse_bad (by simpa using H16.out) (List.getElem_mem (by simpa using hks)) hn]
          rfl
        · have hn : Dg.isDigit (s[k].toNat : Int) = true := by simpa using (by assumption : (!Dg.isDigit (s[k].toNat : Int)) = false)
          refine ⟨⟨k + 1, by omega, by go_num, ?_, ?_⟩, by simp [intOf]; omega⟩
          · rw [take_snoc s k hks, Dg.number_snoc, wrap_u64, or_u64, B_I, B_mul, B_I, B_16]
          · show _ = _
            rw [take_snoc s k hks, Dg.digits_snoc, hd.out, hn]; rfl
      · go_wp2
        go_ret2
        obtain rfl : k = 16 := by omega
        refine ⟨?_, rfl⟩
        have e : s.data.toList.take 16 = s.data.toList := List.take_of_length_le (by have := H16.out; simp; omega)
        have hd := hd.out
        rw [e] at hd
        rw [Dg.parse_good (by simpa using H16.out) hd]
        simp only [e]
        rfl
  · have h16' : ((s.size : Int) != 16) = true := by rw [bne_iff_ne]; omega
    go_enter Try.func43, Try.ntmps43
    go_wp2
    go_ret2
    refine ⟨?_, rfl⟩
    rw [show Dg.parse s.data.toList = (0#64, 3) from if_neg (by simpa using h16)]
    rfl

/-- The cells behind k rounds. -/
def TextTo (x : BitVec 64) (k : Nat) (C : Array Value) : Prop := C.size = 16 ∧ ∀ j, j < 16 → C[j]? = some (.int .u8 (if j < k then ((Dg.digitAt x j).toNat : Int) else 0))
theorem TextTo.start (x : BitVec 64) : TextTo x 0 #[.int .u8 0, .int .u8 0, .int .u8 0, .int .u8 0, .int .u8 0, .int .u8 0, .int .u8 0, .int .u8 0, .int .u8 0, .int .u8 0, .int .u8 0, .int .u8 0, .int .u8 0, .int .u8 0, .int .u8 0, .int .u8 0] := by
  refine ⟨rfl, fun j hj => ?_⟩
  obtain rfl | rfl | rfl | rfl | rfl | rfl | rfl | rfl | rfl | rfl | rfl | rfl | rfl | rfl | rfl | rfl : j = 0 ∨ j = 1 ∨ j = 2 ∨ j = 3 ∨ j = 4 ∨ j = 5 ∨ j = 6 ∨ j = 7 ∨ j = 8 ∨ j = 9 ∨ j = 10 ∨ j = 11 ∨ j = 12 ∨ j = 13 ∨ j = 14 ∨ j = 15 := by omega
  all_goals rfl
theorem TextTo.at {x : BitVec 64} {k : Nat} {C : Array Value} (h : TextTo x k C) (j : Nat) (hj : j < 16) : C[j]? = some (.int .u8 (if j < k then ((Dg.digitAt x j).toNat : Int) else 0)) := h.2 j hj
theorem TextTo.step {x : BitVec 64} {k : Nat} {C : Array Value} (hk : k < 16) (h : TextTo x k C) (n : Int) (hn : n = ((Dg.digitAt x k).toNat : Int)) : TextTo x (k + 1) (C.setIfInBounds k (.int .u8 n)) := by
  refine ⟨by simpa using h.1, fun j hj => ?_⟩
  rw [Array.getElem?_setIfInBounds]
  have := h.1
  by_cases e : k = j
  · subst e
    rw [if_pos rfl, if_pos (by omega), if_pos (by omega), hn]
  · rw [if_neg e, h.2 j hj]
    congr 2
    by_cases l : j < k
    · rw [if_pos l, if_pos (by omega)]
    · rw [if_neg l, if_neg (by omega)]
theorem hexByte (m : Nat) (h : m < 16) : ((⟨#[48, 49, 50, 51, 52, 53, 54, 55, 56, 57, 97, 98, 99, 100, 101, 102]⟩ : ByteArray)[m]'h).toNat = (([48, 49, 50, 51, 52, 53, 54, 55, 56, 57, 97, 98, 99, 100, 101, 102] : List UInt8).getD m 0).toNat := by
  obtain rfl | rfl | rfl | rfl | rfl | rfl | rfl | rfl | rfl | rfl | rfl | rfl | rfl | rfl | rfl | rfl : m = 0 ∨ m = 1 ∨ m = 2 ∨ m = 3 ∨ m = 4 ∨ m = 5 ∨ m = 6 ∨ m = 7 ∨ m = 8 ∨ m = 9 ∨ m = 10 ∨ m = 11 ∨ m = 12 ∨ m = 13 ∨ m = 14 ∨ m = 15 := by omega
  all_goals rfl
theorem I_toNat (x : BitVec 64) : (I x).toNat = x.toNat := by unfold I; omega
theorem Addr.add_zero_off (b j : Nat) : (⟨b, 0, none⟩ : Addr).add j = ⟨b, j, none⟩ := by unfold Addr.add; by_cases e : j = 0 <;> simp [e]
theorem and15 (n : Int) : 0 ≤ bits .and .u64 n 15 ∧ bits .and .u64 n 15 < 16 := by
  rw [and_u64]
  refine ⟨I_nonneg _, ?_⟩
  have h : (B n &&& B 15).toNat ≤ (B 15).toNat := by rw [BitVec.toNat_and]; exact Nat.and_le_right
  have e : (B 15).toNat = 15 := by decide +kernel
  unfold I; omega
theorem I_div_any (x : BitVec 64) (k : Nat) : I x / 2 ^ k = I (x >>> k) := by rw [← I_div]; simp
set_option maxHeartbeats 400000 in
theorem text_any (x : Int) (w : World) (hx : U x) :
    Calls Try.prog 19 #[.int .u64 x] w fun e w' => e = .returned (.string ⟨(Dg.text (B x)).toArray⟩) ∧ Below w.heap.size w w' := by
  obtain ⟨x, rfl⟩ := hx
  go_enter Try.func19, Try.ntmps19
  go_wp2
  go_loopw [5] (fun i wr => ∃ (k : Nat) (C : Array Value), k ≤ 16 ∧ i = .int .i64 k ∧ wr = w.alloc (.cells C 70) ∧ Hid (TextTo x k C)) (fun i _ => 16 - (intOf i).toNat)
  case atStart => exact ⟨0, _, by omega, rfl, rfl, TextTo.start x⟩
  case round =>
    obtain ⟨k, C, hk, rfl, rfl, hC⟩ := hrel
    by_cases hlt : k < 16
    · have hc := hC.out.at k hlt
      have hb := and15 (I x / 2 ^ (60 - 4 * k))
      rw [if_neg (by omega)] at hc
      go_wp2
      refine ⟨⟨k + 1, _, by omega, by go_num, rfl, ?_⟩, by simp [intOf]; omega⟩
      exact TextTo.step hlt hC.out _ (by rw [hexByte _ (by have := hb.1; omega)]; simp only [and_u64, I_div_any, B_I, I_toNat]; rfl)
    · obtain rfl : k = 16 := by omega
      have hcv := run_convert_bytes_back (P := Try.prog) (w.alloc (.cells C 70)) 32 9 5 ⟨w.heap.size, 0, none⟩ 16 (Dg.text x) Try.underlying32 Try.underlying5 Try.underlying9 (fun j hj => by
        rw [Dg.text_length] at hj
        have h := hC.out.at j hj
        rw [if_pos hj] at h
        rw [Dg.text_get]
        rw [show (⟨w.heap.size, 0, none⟩ : Addr).add j = ⟨w.heap.size, j, none⟩ from Addr.add_zero_off _ j, World.cell?_alloc_mark, h])
      rw [Dg.text_length] at hcv
      go_wp2
      go_ret
      exact ⟨by rw [B_I]; rfl, by go_grown⟩

set_option maxHeartbeats 400000 in
theorem parsed_any (s : ByteArray) (w : World) (hs : s.size ≤ maxLen) :
    Calls Try.prog 20 #[.string s] w fun e w' => e = .returned (.agg #[.int .u64 (I (Dg.parse s.data.toList).1), .int .i64 (Dg.parse s.data.toList).2]) ∧ Below w.heap.size w w' := by
  go_enter Try.func20, Try.ntmps20
  go_wp2_with (go_at_call 43; refine (parse_any _ _ hs).mono ?_; rintro e w' ⟨rfl, rfl⟩)
  go_returns
  exact ⟨rfl, by go_grown⟩

theorem field_E (x y : Value) (w : World) : (Instr.field 30 (.agg #[x, y]) 1).run Try.prog w = .ok y w := by kernel_rfl
theorem field_X (x y : Value) (w : World) : (Instr.field 30 (.agg #[x, y]) 0).run Try.prog w = .ok x w := by kernel_rfl
theorem step_at (h v r : Int) (w : World) (e : I (Dg.step (B h) (B v)) = r) :
    Calls Try.prog 18 #[.int .u64 h, .int .u64 v] w fun e w' => e = .returned (.int .u64 r) ∧ w = w' := e ▸ step_any h v w
theorem back_at (h x r : Int) (w : World) (hx : U x) (e : I (Dg.back (B h) (B x)) = r) :
    Calls Try.prog 17 #[.int .u64 h, .int .u64 x] w fun e w' => e = .returned (.int .u64 r) ∧ w = w' := e ▸ back_any h x w hx
theorem text_at (x : Int) (s : ByteArray) (w : World) (hx : U x) (e : (⟨(Dg.text (B x)).toArray⟩ : ByteArray) = s) :
    Calls Try.prog 19 #[.int .u64 x] w fun e w' => e = .returned (.string s) ∧ Below w.heap.size w w' := e ▸ text_any x w hx
theorem parsed_at (s : ByteArray) (n r : Int) (w : World) (hs : s.size ≤ maxLen) (e : I (Dg.parse s.data.toList).1 = n) (e' : (Dg.parse s.data.toList).2 = r) :
    Calls Try.prog 20 #[.string s] w fun e w' => e = .returned (.agg #[.int .u64 n, .int .i64 r]) ∧ Below w.heap.size w w' := e ▸ e' ▸ parsed_any s w hs

set_option maxHeartbeats 400000 in
theorem examples3_any (w : World) :
    Calls Try.prog 16 #[] w fun e w' => e = .returned (.bool true) ∧ Below w.heap.size w w' := by
  have fE := field_E
  have c1 := fun w => step_at 7 7 0 w (by decide +kernel)
  have c2 := fun w => back_at 7 0 7 w (U_of _ (by omega)) (by decide +kernel)
  have c3 := fun w => step_at 0 1 (I (Dg.step (B 0) (B 1))) w rfl
  have e3 : (I (Dg.step (B 0) (B 1)) != 0) = true := by decide +kernel
  have c4 := fun w => text_at 255 ⟨#[48, 48, 48, 48, 48, 48, 48, 48, 48, 48, 48, 48, 48, 48, 102, 102]⟩ w (U_of _ (by omega)) (by decide +kernel)
  have c5 := fun w => parsed_at ⟨#[48, 48, 48, 48, 48, 48, 48, 48, 48, 48, 48, 48, 48, 48, 102, 102]⟩ 255 0 w (by decide) (by decide +kernel) (by decide +kernel)
  have c6 := fun w => parsed_at ⟨#[102, 102]⟩ 0 3 w (by decide) (by decide +kernel) (by decide +kernel)
  have c7 := fun w => parsed_at ⟨#[]⟩ 0 3 w (by decide) (by decide +kernel) (by decide +kernel)
  have C1 := hid c1; clear c1
  have C2 := hid c2; clear c2
  have C3 := hid c3; clear c3
  have C4 := hid c4; clear c4
  have C5 := hid c5; clear c5
  have C6 := hid c6; clear c6
  have C7 := hid c7; clear c7
  go_enter Try.func16, Try.ntmps16
  go_wp2_with fail
  refine (C1.out _).mono ?_
  rintro e w' ⟨rfl, rfl⟩
  go_wp2_with fail
  refine (C2.out _).mono ?_
  rintro e w' ⟨rfl, rfl⟩
  go_wp2_with fail
  refine (C3.out _).mono ?_
  rintro e w' ⟨rfl, rfl⟩
  go_wp2_with fail
  refine (C4.out _).mono ?_
  rintro e w1 ⟨rfl, b1⟩
  go_wp2_with fail
  refine (C5.out _).mono ?_
  rintro e w2 ⟨rfl, b2⟩
  go_wp2_with fail
  refine (C6.out _).mono ?_
  rintro e w3 ⟨rfl, b3⟩
  go_wp2_with fail
  refine (C7.out _).mono ?_
  rintro e w4 ⟨rfl, b4⟩
  go_wp2_with fail
  go_ret
  exact ⟨rfl, ((((Below.refl _ _).trans b1).trans (b2.mono (by have := b1.size; omega))).trans (b3.mono (by have := b1.size; have := b2.size; omega))).trans (b4.mono (by have := b1.size; have := b2.size; have := b3.size; omega))⟩
end Go.Proofs.Ytifpkhgcoopjnaa
