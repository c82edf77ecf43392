/- What the reference's functions on bytes and texts compute: the same as the program's. No conditions. -/
import Derived.Test.YtifpkhgcoopjnaaDigestRef
import Derived.Test.YtifpkhgcoopjnaaDigestText
import Derived.Lib.SmallJoins
import Derived.Deep.QuietTactic
import Derived.BigQuiet
namespace Go.Proofs.Ytifpkhgcoopjnaa
open Go.RowKit

namespace Dg
/-- The word of the first k bytes of a list. -/
def wordTo (l : List Int) : Nat → BitVec 64
  | 0 => 0#64
  | k + 1 => wordTo l k ||| B (l.getD k 0) * B (2 ^ (8 * k))
theorem wordTo_end (l : List Int) (k : Nat) (hk : k ≤ 8) (he : l.length ≤ k ∨ k = 8) : wordTo l k = word8 l := by
  have h8 : wordTo l 8 = word8 l := by
    have e0 : B (2 ^ (8 * 0)) = 1#64 := by decide +kernel
    have e1 : B (2 ^ (8 * 1)) = 256#64 := by decide +kernel
    have e2 : B (2 ^ (8 * 2)) = 65536#64 := by decide +kernel
    have e3 : B (2 ^ (8 * 3)) = 16777216#64 := by decide +kernel
    have e4 : B (2 ^ (8 * 4)) = 4294967296#64 := by decide +kernel
    have e5 : B (2 ^ (8 * 5)) = 1099511627776#64 := by decide +kernel
    have e6 : B (2 ^ (8 * 6)) = 281474976710656#64 := by decide +kernel
    have e7 : B (2 ^ (8 * 7)) = 72057594037927936#64 := by decide +kernel
    simp only [wordTo, word8, e0, e1, e2, e3, e4, e5, e6, e7, BitVec.mul_one]
  rcases he with he | rfl
  · have key : ∀ j, k ≤ j → wordTo l j = wordTo l k := by
      intro j
      induction j with
      | zero => intro h; obtain rfl : k = 0 := by omega
                rfl
      | succ j ih =>
        intro h
        by_cases e : k = j + 1
        · rw [e]
        · show wordTo l j ||| B (l.getD j 0) * B (2 ^ (8 * j)) = _
          have h0 : l.getD j 0 = 0 := by simp [List.getD, show ¬ j < l.length by omega]
          have hB0 : B 0 = 0#64 := by decide +kernel
          rw [h0, hB0, BitVec.zero_mul, BitVec.or_zero]
          exact ih (by omega)
    rw [← h8, key 8 hk]
  · exact h8
end Dg

set_option maxRecDepth 100000 in
set_option maxHeartbeats 400000 in
theorem rbytes_any (v : Value) (xs : List Int) (w : World) (hs : Sl .u8 w v xs) (h200 : xs.length ≤ 1000000) :
    Calls Try.prog 25 #[v] w fun e w' => e = .returned (.int .u64 (I (Dg.bytes xs))) ∧ w = w' := by
  obtain ⟨a, cap, rfl, hcap, hmax, _, hne⟩ := hs
  have hB : B 1376283091369227076 = 1376283091369227076#64 := by decide +kernel
  clear hmax hcap
  have HB := hid hB; clear hB
  have HNE := hid hne; clear hne
  go_enter Try.func25, Try.ntmps25
  go_wp2_with (go_at_call 27; refine (rstep_any _ _ _).mono ?_; rintro e w' ⟨rfl, rfl⟩)
  go_loop [3, 4] (fun h i => ∃ (j : Nat) (g : BitVec 64), j ≤ xs.length + 8 ∧ i = .int .i64 j ∧ h = .int .u64 (I g) ∧ Hid (Dg.bytesGo g (xs.drop j).length (xs.drop j) = Dg.bytes xs)) (fun _ i => xs.length + 8 - (intOf i).toNat)
  case atStart => exact ⟨0, _, by omega, rfl, rfl, by show _ = _; rw [HB.out]; rfl⟩
  case round =>
    obtain ⟨j, g, hj, rfl, rfl, hgo⟩ := hrel
    by_cases hlt : j < xs.length
    · obtain ⟨b, o, rfl, _, hc⟩ := HNE.out (by omega)
      have HC := hid hc
      clear hc HNE HB
      go_wp2_with fail
      go_loop [5, 6] (fun x k => ∃ (k' : Nat), k' ≤ 8 ∧ k = .int .i64 k' ∧ x = .int .u64 (I (Dg.wordTo (xs.drop j) k')) ∧ j + k' ≤ xs.length) (fun _ k => 8 - (intOf k).toNat)
      case atStart => exact ⟨0, by omega, rfl, rfl, by omega⟩
      case round =>
        obtain ⟨k, hk, rfl, rfl, hjk⟩ := hrel
        have hexit : (xs.drop j).length ≤ k ∨ k = 8 → Dg.bytesGo (Dg.step g (Dg.wordTo (xs.drop j) k)) (xs.drop (j + 8)).length (xs.drop (j + 8)) = Dg.bytes xs := fun he => by
          rw [Dg.wordTo_end _ k hk he, ← hgo.out, Dg.bytesGo_cons g (xs.drop j) (by rw [List.length_drop]; omega), List.drop_drop]
        have HEX := hid hexit
        clear hexit
        by_cases h8 : k < 8
        · have hk8 : ((k : Int) < 8) := by omega
          by_cases hin : j + k < xs.length
          · have hin' : decide (((j : Int) + (k : Int)) < (xs.length : Int)) = true := by simp; omega
            have hck := HC.out (j + k) hin
            go_wp2_with fail
            refine ⟨⟨k + 1, by omega, by go_num, ?_, by omega⟩, by simp [intOf]; omega⟩
            have e : (xs.drop j).getD k 0 = xs[j + k] := by simp [List.getD, hin]
            show _ = Value.int .u64 (I (Dg.wordTo (xs.drop j) k ||| B ((xs.drop j).getD k 0) * B (2 ^ (8 * k))))
            rw [e, wrap_u64, wrap_u64, B_mul, B_I, or_u64, B_I, B_I]
          · have hin' : decide (((j : Int) + (k : Int)) < (xs.length : Int)) = false := by simp; omega
            go_wp2_with (go_at_call 27; refine (rstep_any _ _ _).mono ?_; rintro e w' ⟨rfl, rfl⟩)
            refine ⟨⟨j + 8, _, by omega, by go_num, by rw [B_I, B_I], HEX.out (.inl (by rw [List.length_drop]; omega))⟩, by simp [intOf]; omega⟩
        · have hk8 : decide ((k : Int) < 8) = false := by simp; omega
          go_wp2_with (go_at_call 27; refine (rstep_any _ _ _).mono ?_; rintro e w' ⟨rfl, rfl⟩)
          refine ⟨⟨j + 8, _, by omega, by go_num, by rw [B_I, B_I], HEX.out (.inr (by omega))⟩, by simp [intOf]; omega⟩
    · have hge : ¬ ((j : Int) < (xs.length : Int)) := by omega
      go_wp2_with fail
      go_ret
      refine ⟨?_, rfl⟩
      have e : xs.drop j = [] := List.drop_eq_nil_of_le (by omega)
      have h := hgo.out
      rw [e] at h
      rw [← h]; rfl

theorem nib64 (y : BitVec 64) : bits .and .i64 (wrap64 (I y)) 15 = ((y &&& 15#64).toNat : Int) := by
  have e1 : BitVec.ofInt 64 (wrap64 (I y)) = y := by
    have h := B_wrap64' (I y)
    rw [B_I] at h; exact h
  have e2 : BitVec.ofInt 64 15 = 15#64 := by decide +kernel
  unfold bits
  show IntKind.i64.wrap (((BitVec.ofInt 64 (wrap64 (I y)) &&& BitVec.ofInt 64 15).toNat : Nat) : Int) = _
  rw [e1, e2, IntKind.wrap_i64]
  have h : (y &&& 15#64).toNat ≤ 15 := by rw [BitVec.toNat_and]; exact Nat.and_le_right
  omega
theorem digitAt_take (x : BitVec 64) (k : Nat) : (List.range (k + 1)).map (Dg.digitAt x) = (List.range k).map (Dg.digitAt x) ++ [Dg.digitAt x k] := by
  rw [List.range_succ, List.map_append, List.map_singleton]

set_option maxRecDepth 100000 in
set_option maxHeartbeats 400000 in
theorem rtext_any (x : Int) (w : World) (hx : U x) :
    Calls Try.prog 29 #[.int .u64 x] w fun e w' => e = .returned (.string ⟨(Dg.text (B x)).toArray⟩) ∧ w = w' := by
  obtain ⟨x, rfl⟩ := hx
  go_enter Try.func29, Try.ntmps29
  go_wp2
  go_loop [3, 4] (fun s i => ∃ k : Nat, k ≤ 16 ∧ i = .int .i64 k ∧ s = .string ⟨((List.range k).map (Dg.digitAt x)).toArray⟩) (fun _ i => 16 - (intOf i).toNat)
  case atStart => exact ⟨0, by omega, rfl, rfl⟩
  case round =>
    obtain ⟨k, hk, rfl, rfl⟩ := hrel
    by_cases hlt : k < 16
    · obtain ⟨m, hm⟩ : ∃ m : Nat, (x >>> (60 - 4 * k) &&& 15#64).toNat = m := ⟨_, rfl⟩
      have hm16 : m < 16 := by rw [← hm, Dg.nib_toNat x k hlt]; omega
      have hb : bits .and .i64 (wrap64 (I x / 2 ^ (60 - 4 * k))) 15 = (m : Int) := by rw [I_shr, nib64, hm]
      have HM := hid hm; clear hm
      go_wp2
      refine ⟨⟨k + 1, by omega, by go_num, ?_⟩, by simp [intOf]; omega⟩
      rw [digitAt_take]
      apply congrArg Value.string
      have e : (⟨#[48, 49, 50, 51, 52, 53, 54, 55, 56, 57, 97, 98, 99, 100, 101, 102]⟩ : ByteArray).extract m (m + 1) = ⟨[Dg.digitAt x k].toArray⟩ := by
        unfold Dg.digitAt Dg.digit
        rw [HM.out]
        obtain rfl | rfl | rfl | rfl | rfl | rfl | rfl | rfl | rfl | rfl | rfl | rfl | rfl | rfl | rfl | rfl : m = 0 ∨ m = 1 ∨ m = 2 ∨ m = 3 ∨ m = 4 ∨ m = 5 ∨ m = 6 ∨ m = 7 ∨ m = 8 ∨ m = 9 ∨ m = 10 ∨ m = 11 ∨ m = 12 ∨ m = 13 ∨ m = 14 ∨ m = 15 := by omega
        all_goals decide +kernel
      rw [e]
      apply ByteArray.ext
      apply Array.toList_inj.1
      rw [Go.Joins.data_append]
    · go_wp2
      go_ret
      obtain rfl : k = 16 := by omega
      exact ⟨by rw [B_I]; rfl, rfl⟩

/-- The worlds of ParseIn: the result's variable, the number so far, some draws. -/
def PW (w : World) (x : BitVec 64) (n : Nat) : World := ((w.alloc (.cells #[.int .u64 0, .int .i64 0] 30)).alloc (.cells #[.int .u64 (I x), .int .i64 0] 30)).drewN n

theorem PW_cell (w : World) (x : BitVec 64) (n : Nat) : (PW w x n).cell? ⟨w.heap.size + 1, 0, none⟩ = some (.int .u64 (I x)) := by
  unfold PW; simp
theorem PW_cell1 (w : World) (x : BitVec 64) (n : Nat) : (PW w x n).cell? ⟨w.heap.size + 1, 1, none⟩ = some (.int .i64 0) := by
  unfold PW; simp
theorem PW_frozen (w : World) (x : BitVec 64) (n : Nat) : (PW w x n).frozen? ⟨w.heap.size + 1, 0, none⟩ = false := by
  unfold PW; simp
theorem PW_drew (w : World) (x : BitVec 64) (n m : Nat) : (PW w x n).drewN m = PW w x (n + m) := by
  unfold PW; exact World.drewN_drewN _ _ _
theorem PW_set (w : World) (x y : BitVec 64) (n : Nat) : (PW w x n).setCell ⟨w.heap.size + 1, 0, none⟩ (.int .u64 (I y)) = PW w y n := by
  unfold PW
  show (World.setCell ((w.alloc (.cells #[.int .u64 0, .int .i64 0] 30)).alloc (.cells #[.int .u64 (I x), .int .i64 0] 30)) ⟨w.heap.size + 1, 0, none⟩ (.int .u64 (I y))).drewN n = _
  rw [World.setCell_alloc_at _ _ _ _ _ (by simp)]
  rfl
theorem PW_below (w : World) (x : BitVec 64) (n : Nat) : Below w.heap.size w (PW w x n) := by
  unfold PW
  exact ((Go.Joins.below_alloc2 w _ _)).trans (Go.Joins.below_draws _ _ _)

theorem toList_data' (s : ByteArray) : s.toList = s.data.toList := ByteArray.toList_eq s
def TB : ByteArray := ⟨#[48, 49, 50, 51, 52, 53, 54, 55, 56, 57, 97, 98, 99, 100, 101, 102]⟩
theorem pstep_eq {D : Prop} {c : UInt8} {j : Nat} (hj : j < 16) {x A : BitVec 64} (h : ((c.toNat : Int) == ((([48, 49, 50, 51, 52, 53, 54, 55, 56, 57, 97, 98, 99, 100, 101, 102] : List UInt8).getD j 0).toNat : Int)) = true)
    (hx : D → x = if Dg.value (c.toNat : Int) < j then A <<< 4 ||| B (Dg.value (c.toNat : Int)) else A) : D → x <<< 4 ||| B j = if Dg.value (c.toNat : Int) < (j : Int) + 1 then A <<< 4 ||| B (Dg.value (c.toNat : Int)) else A := by
  intro d
  have hx := hx d
  have h1 : (c.toNat : Int) = ((([48, 49, 50, 51, 52, 53, 54, 55, 56, 57, 97, 98, 99, 100, 101, 102] : List UInt8).getD j 0).toNat : Int) := by simpa only [beq_iff_eq] using h
  have hv := (Dg.value_digit j hj).1
  rw [← h1] at hv
  rw [hv, if_neg (by omega)] at hx
  rw [hv, if_pos (by omega), hx]
theorem pstep_ne {D : Prop} {c : UInt8} {j : Nat} {x A : BitVec 64} (h : ((c.toNat : Int) == ((([48, 49, 50, 51, 52, 53, 54, 55, 56, 57, 97, 98, 99, 100, 101, 102] : List UInt8).getD j 0).toNat : Int)) = false)
    (hd : D → Dg.isDigit (c.toNat : Int) = true)
    (hx : D → x = if Dg.value (c.toNat : Int) < j then A <<< 4 ||| B (Dg.value (c.toNat : Int)) else A) : D → x = if Dg.value (c.toNat : Int) < (j : Int) + 1 then A <<< 4 ||| B (Dg.value (c.toNat : Int)) else A := by
  intro d
  have hx := hx d
  have hne : Dg.value (c.toNat : Int) ≠ j := by
    intro e
    have := Dg.digit_value c (hd d)
    rw [e, Int.toNat_natCast] at this
    rw [this, beq_self_eq_true] at h
    cases h
  rw [hx]
  by_cases hl : Dg.value (c.toNat : Int) < j
  · rw [if_pos hl, if_pos (by omega)]
  · rw [if_neg hl, if_neg (by omega)]

set_option maxRecDepth 100000 in
set_option maxHeartbeats 400000 in
theorem rparse_any (s : ByteArray) (w : World) (hs : s.size ≤ maxLen) :
    Calls Try.prog 30 #[.string s] w fun e w' => e = .returned (.agg #[.int .u64 (I (Dg.parse s.data.toList).1), .int .i64 (Dg.parse s.data.toList).2]) ∧ Below w.heap.size w w' := by
  unfold maxLen at hs
  go_enter Try.func30, Try.ntmps30
  go_wp2
  go_loopw [4] (fun i wr => ∃ (k n : Nat) (x : BitVec 64), k ≤ 16 ∧ k ≤ s.size ∧ i = .int .i64 k ∧ wr = PW w x n ∧ Hid (Dg.digits (s.data.toList.take k) = true → x = Dg.number (s.data.toList.take k))) (fun i _ => 16 - (intOf i).toNat)
  case atStart => exact ⟨0, 0, 0#64, by omega, by omega, rfl, rfl, fun _ => rfl⟩
  case round =>
    obtain ⟨k, n, x, hk, hks, rfl, rfl, hx⟩ := hrel
    by_cases hlt : k < 16 ∧ k < s.size
    · obtain ⟨h16, hsz⟩ := hlt
      have d1 : decide ((k : Int) < (s.size : Int)) = true := by simp; omega
      have d2 : decide ((k : Int) < (16 : Int)) = true := by simp; omega
      go_wp2_with fail
      go_loopw [5] (fun d wr => ∃ (j n : Nat) (x : BitVec 64), j ≤ 16 ∧ d = .int .i64 j ∧ wr = PW w x n ∧ Hid (Dg.digits (s.data.toList.take (k + 1)) = true → x = if Dg.value (s[k].toNat : Int) < j then Dg.number (s.data.toList.take (k + 1)) else Dg.number (s.data.toList.take k))) (fun d _ => 16 - (intOf d).toNat)
      case atStart =>
        refine ⟨0, n, x, by omega, rfl, rfl, ?_⟩
        show _ → _
        intro hd
        have hv := Dg.value_lt s[k]
        rw [take_snoc s k hsz, Dg.digits_snoc] at hd
        rw [if_neg (by omega)]
        exact hx.out (by simp at hd; exact hd.1)
      case round =>
        obtain ⟨j, n', x', hj, rfl, rfl, hx'⟩ := hrel
        have hsn : Dg.number (s.data.toList.take (k + 1)) = Dg.number (s.data.toList.take k) <<< 4 ||| B (Dg.value (s[k].toNat : Int)) := by rw [take_snoc s k hsz, Dg.number_snoc]
        have hdd : Dg.digits (s.data.toList.take (k + 1)) = true → Dg.isDigit (s[k].toNat : Int) = true := fun hd => by
          rw [take_snoc s k hsz, Dg.digits_snoc] at hd; simp at hd; exact hd.2
        rw [hsn] at hx'
        have HSN := hid hsn
        have HDD := hid hdd
        clear hsn hdd
        by_cases hj16 : j < 16
        · have hj1 : (j : Int) < (16 : Int) := by omega
          have hj0 : (0 : Int) ≤ (j : Int) := by omega
          have hk0 : (0 : Int) ≤ (k : Int) := by omega
          have hk1 : (k : Int) < (s.size : Int) := by omega
          cases ht : ((s[k].toNat : Int) == ((⟨#[48, 49, 50, 51, 52, 53, 54, 55, 56, 57, 97, 98, 99, 100, 101, 102]⟩ : ByteArray)[j]'hj16).toNat) with
          | true =>
            go_wp2_with fail
            go_quiet (fail)
            rw [PW_drew]
            have p1 := PW_cell w x' (n' + nq)
            have p2 := PW_frozen w x' (n' + nq)
            have ht' := ht
            rw [hexByte j hj16] at ht'
            have HT := hid ht'
            clear ht'
            go_wp2_with fail
            refine ⟨⟨j + 1, n' + nq, x' <<< 4 ||| B j, by omega, by go_num, ?_, ?_⟩, by simp [intOf]; omega⟩
            · rw [wrap_u64, or_u64, B_I, B_mul, B_I, B_16]
              exact PW_set _ _ _ _
            · show _ → _
              rw [HSN.out]
              exact pstep_eq hj16 HT.out hx'.out
          | false =>
            go_wp2_with fail
            go_quiet (fail)
            rw [PW_drew]
            go_wp2_with fail
            have ht' := ht
            rw [hexByte j hj16] at ht'
            refine ⟨⟨j + 1, _, x', by omega, by go_num, rfl, ?_⟩, by simp [intOf]; omega⟩
            show _ → _
            rw [HSN.out]
            exact pstep_ne ht' HDD.out hx'.out
        · obtain rfl : j = 16 := by omega
          go_wp2_with fail
          have hv := Dg.value_lt s[k]
          refine ⟨⟨k + 1, _, x', by omega, by omega, by go_num, rfl, ?_⟩, by simp [intOf]; omega⟩
          show _ → _
          intro hd
          have := hx'.out hd
          rw [if_pos (by omega)] at this
          rw [this, HSN.out]
    · have hguard : (decide ((k : Int) < (s.size : Int)) = false) ∨ (decide ((k : Int) < (s.size : Int)) = true ∧ decide ((k : Int) < (16 : Int)) = false) := by
        by_cases h1 : k < s.size
        · right; exact ⟨by simp; omega, by simp; omega⟩
        · left; simp; omega
      have hfin : k = 16 ∨ k = s.size := by omega
      have hex : ∀ T : ByteArray, T.data.toList = Dg.text x → ((T.toList == s.toList) = false ∧ Dg.parse s.data.toList = (0#64, 3)) ∨ ((T.toList == s.toList) = true ∧ Dg.parse s.data.toList = (x, 0)) := by
        intro T hT
        rw [toList_data', toList_data', hT]
        by_cases hl : s.data.toList.length = 16
        · have hk16 : s.data.toList.take k = s.data.toList := List.take_of_length_le (by rw [hl]; have : s.data.toList.length = s.size := by simp
                                                                                         omega)
          rcases Dg.parse_cases s.data.toList hl with ⟨hd, hp⟩ | ⟨hd, hp⟩
          · right
            have := hx.out (by rw [hk16]; exact hd)
            rw [hk16] at this
            rw [hp, this, Dg.text_number hl hd]
            exact ⟨by simp, rfl⟩
          · left
            refine ⟨?_, hp⟩
            rw [beq_eq_false_iff_ne]
            intro e
            have := Dg.digits_text x
            rw [e, hd] at this; cases this
        · left
          refine ⟨?_, Dg.parse_len hl⟩
          rw [beq_eq_false_iff_ne]
          intro e
          apply hl; rw [← e, Dg.text_length]
      obtain ⟨T, cT, hT⟩ : ∃ T : ByteArray, (∀ w, Calls Try.prog 29 #[.int .u64 (I x)] w fun e w' => e = .returned (.string T) ∧ w = w') ∧ T.data.toList = Dg.text x :=
        ⟨⟨(Dg.text x).toArray⟩, fun w => (rtext_any (I x) w (U_I x)).mono fun e w' ⟨h1, h2⟩ => ⟨by rw [h1, B_I], h2⟩, by simp⟩
      have CT := hid cT
      have HEX := hid (hex T hT)
      clear cT hT hex hx
      unfold PW
      rcases hguard with d1 | ⟨d1, d2⟩
      all_goals
        go_wp2_with fail
        all_goals
          refine (CT.out _).mono ?_
          rintro e w' ⟨rfl, rfl⟩
          rcases HEX.out with ⟨ht, hp⟩ | ⟨ht, hp⟩
          · have HP := hid hp
            clear hp HEX
            go_wp2_with fail
            go_returns
            rw [HP.out]
            exact ⟨rfl, (((Go.Joins.below_alloc2 w _ _).trans (Go.Joins.below_draws _ _ _)).setCell (by simp) _).setCell (by simp) _⟩
          · have HP := hid hp
            clear hp HEX
            go_wp2_with fail
            go_returns
            rw [HP.out]
            exact ⟨rfl, (((Go.Joins.below_alloc2 w _ _).trans (Go.Joins.below_draws _ _ _)).setCell (by simp) _).setCell (by simp) _⟩
end Go.Proofs.Ytifpkhgcoopjnaa
