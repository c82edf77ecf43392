/- The law DigestTexts: its call returns true. No conditions. -/
import Derived.Test.YtifpkhgcoopjnaaDigestLaws1
import Derived.Test.YtifpkhgcoopjnaaDigestText
import Derived.Deep.RegionHeld3
import Derived.IntWalk
import Derived.Lib.SmallJoins
namespace Go.Proofs.Ytifpkhgcoopjnaa
open Go.RowKit

theorem toList_data (s : ByteArray) : s.toList = s.data.toList := ByteArray.toList_eq s
set_option maxHeartbeats 1000000 in
theorem digestTexts_true (x y : Int) (z : List Int) (w : World) (hx : (Lit.int .u64 x).wf = true) (hy : (Lit.int .u64 y).wf = true) (zl : z.length = 2) (hz : ∀ n ∈ z, (Lit.int .u8 n).wf = true) :
    Calls Try.prog 4 #[.int .u64 x, .int .u64 y, .agg (z.map (Value.int .u8)).toArray] w fun e w' => e = .returned (.bool true) ∧ Below w.heap.size w w' := by
  obtain ⟨x, rfl⟩ := U_of_wf hx
  obtain ⟨y, rfl⟩ := U_of_wf hy
  obtain ⟨k, v, rfl⟩ : ∃ k v, z = [k, v] := by
    match z, zl with
    | [k, v], _ => exact ⟨k, v, rfl⟩
  have hk := bounds_u8 (hz k (by simp))
  have hv := bounds_u8 (hz v (by simp))
  clear hx hy hz zl
  obtain ⟨c, rfl⟩ : ∃ c : UInt8, v = (c.toNat : Int) := ⟨UInt8.ofNat v.toNat, by rw [UInt8.toNat_ofNat_of_lt' (by simp [UInt8.size]; omega)]; omega⟩
  clear hv
  obtain ⟨m, hm⟩ : ∃ m : Nat, k % 16 = m := ⟨(k % 16).toNat, by omega⟩
  have hm16 : m < 16 := by omega
  have cT := fun w => text_at (I x) ⟨(Dg.text x).toArray⟩ w (U_I _) (by rw [B_I])
  have hTl : (⟨(Dg.text x).toArray⟩ : ByteArray).data.toList = Dg.text x := by simp
  generalize (⟨(Dg.text x).toArray⟩ : ByteArray) = T at cT hTl
  have hTs : T.size = 16 := by have h : T.data.toList.length = 16 := by rw [hTl, Dg.text_length]
                               simpa using h
  have hT1 : ((T.size : Int) != 16) = false := by rw [hTs]; rfl
  have hT2 : (m : Int) < (T.size : Int) := by omega
  have cP := fun w => parsed_at T (I x) 0 w (by rw [hTs]; decide) (by rw [hTl, Dg.parse_text]) (by rw [hTl, Dg.parse_text])
  obtain ⟨T2, e2, cT2, hT2l⟩ : ∃ (T2 : ByteArray) (b : Bool), (∀ w, Calls Try.prog 19 #[.int .u64 (I y)] w fun e w' => e = .returned (.string T2) ∧ Below w.heap.size w w') ∧ T2.data.toList = Dg.text y :=
    ⟨⟨(Dg.text y).toArray⟩, true, fun w => text_at (I y) _ w (U_I _) (by rw [B_I]), by simp⟩
  have hT3 : (T2.toList == T.toList) = (I x == I y) := by
    rw [I_beq, Bool.eq_iff_iff, beq_iff_eq, beq_iff_eq, toList_data, toList_data, hTl, hT2l]
    exact ⟨fun h => (Dg.text_inj h).symm, fun h => by rw [h]⟩
  have CT2 := hid cT2; clear cT2 hT2l
  have CT := hid cT; clear cT
  have CP := hid cP; clear cP
  have HTl := hid hTl; clear hTl
  have HTs := hid hTs; clear hTs
  go_enter Try.func4, Try.ntmps4
  go_wp2_with fail
  refine (examples3_any _).mono ?_
  rintro e w1 ⟨rfl, b1⟩
  go_wp2_with fail
  refine (CT.out _).mono ?_
  rintro e w2 ⟨rfl, b2⟩
  go_wp2_with fail
  refine (CP.out _).mono ?_
  rintro e w3 ⟨rfl, b3⟩
  go_wp2_with fail
  refine (CT2.out _).mono ?_
  rintro e w4 ⟨rfl, b4⟩
  have bA := seqB (seqB (seqB b1 b2) b3) b4
  have c0 : w4.cell? ⟨w.heap.size, 0, none⟩ = some (.int .u8 k) := by rw [bA.cell (p := ⟨w.heap.size, 0, none⟩) (by simp)]; simp
  have c1 : w4.cell? ⟨w.heap.size, 1, none⟩ = some (.int .u8 (c.toNat : Int)) := by rw [bA.cell (p := ⟨w.heap.size, 1, none⟩) (by simp)]; simp
  have hbb : ∀ b : Bool, (!(b == b)) = false := by simp
  go_wp2_with fail
  have hT5 : (m : Int) ≤ (T.size : Int) := by omega
  have hT6 : (0 : Int) ≤ (m : Int) := by omega
  have hw1 : IntKind.i64.wrap ((m : Int) + 1) = (m : Int) + 1 := IntWalk.i64_in _ (by omega)
  have hs2 : ∀ W : World, (Instr.slice 9 (.string T) (some (.int .i64 ((m : Int) + 1))) none none).run Try.prog W = .ok (.string (T.extract (m + 1) T.size)) W := fun W => by
    rw [run_slice_string_from_if W _ _ _ _ Try.underlying9, if_pos (by omega)]; congr 2
  obtain ⟨Z, hZl, hZ1, hZ2⟩ : ∃ Z : ByteArray, Z.data.toList = (Dg.text x).take m ++ c :: (Dg.text x).drop (m + 1) ∧
      (∀ W : World, (Op.stringOp .add (T.extract 0 m) ⟨[c].toArray⟩).run Try.prog W = .ok (.string (T.extract 0 m ++ ⟨[c].toArray⟩)) W) ∧
      (∀ W : World, (Op.stringOp .add (T.extract 0 m ++ ⟨[c].toArray⟩) (T.extract (m + 1) T.size)).run Try.prog W = .ok (.string Z) W) := by
    have s1 : (T.extract 0 m).size ≤ 16 := by rw [ByteArray.size_extract]; have := HTs.out; omega
    have s2 : (T.extract (m + 1) T.size).size ≤ 16 := by rw [ByteArray.size_extract]; have := HTs.out; omega
    have s3 : (⟨[c].toArray⟩ : ByteArray).size = 1 := rfl
    refine ⟨T.extract 0 m ++ ⟨[c].toArray⟩ ++ T.extract (m + 1) T.size, ?_, fun W => run_string_add_sum W _ _ (by omega), fun W => run_string_add_sum W _ _ (by rw [ByteArray.size_append]; omega)⟩
    rw [Go.Joins.data_append, Go.Joins.data_append, Go.Lib.extract_data, Go.Lib.extract_data, HTl.out]
    simp
    rw [List.take_of_length_le]
    simp [Dg.text_length]
    have := HTs.out; omega
  have hcv := run_convert_bytes_back (P := Try.prog) (w4.alloc (.cells #[.int .u8 (c.toNat : Int)] 5)).drew 32 9 5 ⟨w4.heap.size, 0, none⟩ 1 [c] Try.underlying32 Try.underlying5 Try.underlying9 (fun j hj => by
    obtain rfl : j = 0 := by simpa using hj
    rw [Addr.add_zero_off, World.cell?_drew, World.cell?_alloc_mark]; rfl)
  generalize hwg : w.heap.size = g at *
  simp only [List.length_singleton] at hcv
  go_region_with (fail)
  have hZn : Z.data.toList.length = 16 := by rw [hZl, List.length_append, List.length_cons, List.length_take, List.length_drop, Dg.text_length]; omega
  have hZm : Z.size ≤ maxLen := by have h : Z.size = 16 := by simpa using hZn
                                   unfold maxLen; omega
  have HZn := hid hZn; clear hZn
  have HZm := hid hZm; clear hZm hZ1 hZ2 hs2 hcv hZl
  rcases Dg.parse_cases Z.data.toList HZn.out with ⟨hd, hp⟩ | ⟨hd, hp⟩
  · have CZ := hid (fun w => parsed_at Z (I (Dg.number Z.data.toList)) 0 w HZm.out (by rw [hp]) (by rw [hp]))
    have Hd := hid hd
    clear hd hp
    go_wp2_with fail
    refine (CZ.out _).mono ?_
    rintro e w5 ⟨rfl, b5⟩
    have CTZ := hid (fun w => text_at (I (Dg.number Z.data.toList)) Z w (U_I _) (by
      rw [B_I, Dg.text_number HZn.out Hd.out]))
    have CP2 := hid (fun w => parsed_at (T ++ ⟨#[48]⟩) 0 3 w (by rw [ByteArray.size_append, HTs.out]; decide) (by rw [Dg.parse_len (by simp [Go.Joins.data_append, HTl.out, Dg.text_length])]; rfl) (by rw [Dg.parse_len (by simp [Go.Joins.data_append, HTl.out, Dg.text_length])]))
    have hadd : ∀ W : World, (Op.stringOp .add T ⟨#[48]⟩).run Try.prog W = .ok (.string (T ++ ⟨#[48]⟩)) W := fun W => run_string_add_sum W _ _ (by rw [HTs.out]; decide)
    go_wp2_with fail
    refine (CTZ.out _).mono ?_
    rintro e w6 ⟨rfl, b6⟩
    go_wp2_with fail
    refine (CP2.out _).mono ?_
    rintro e w7 ⟨rfl, b7⟩
    have fE := field_E
    go_wp2_with fail
    go_ret
    exact ⟨rfl, seqB (aB _ _) (seqB bA (seqB (aB _ _) (seqB (dB _) (seqB b5 (seqB (aB _ _) (seqB b6 b7))))))⟩
  · have CZ := hid (fun w => parsed_at Z 0 3 w HZm.out (by rw [hp]; rfl) (by rw [hp]))
    clear hd hp
    go_wp2_with fail
    refine (CZ.out _).mono ?_
    rintro e w5 ⟨rfl, b5⟩
    have CP2 := hid (fun w => parsed_at (T.extract 0 m) 0 3 w (by rw [ByteArray.size_extract, HTs.out]; unfold maxLen; omega) (by rw [Dg.parse_len (by rw [Go.Lib.extract_data, HTl.out]; simp [Dg.text_length]; omega)]; rfl) (by rw [Dg.parse_len (by rw [Go.Lib.extract_data, HTl.out]; simp [Dg.text_length]; omega)]))
    have fE := field_E
    go_wp2_with fail
    refine (CP2.out _).mono ?_
    rintro e w6 ⟨rfl, b6⟩
    go_wp2_with fail
    go_ret
    exact ⟨rfl, seqB (aB _ _) (seqB bA (seqB (aB _ _) (seqB (dB _) (seqB b5 (seqB (aB _ _) b6)))))⟩
end Go.Proofs.Ytifpkhgcoopjnaa
