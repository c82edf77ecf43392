/- The fixed calls of the statements on fractions. No conditions. -/
import Derived.Test.YtbhahgbdkgjliaaGreatDoorR9p
set_option linter.unusedVariables false
set_option linter.unusedSimpArgs false
namespace Go.Proofs.YtbhahgbdkgjliaaGreatDoor
open Go.Abs Go Go.RowKit
theorem itoa1 {n : Int} {k : Nat} (h : n = k) (hk : k < 10) : Lib.itoa n = [UInt8.ofNat (48 + k)] := by
  unfold Lib.itoa
  rw [if_neg (by omega), h, Int.toNat_natCast, Lib.decDigits, dif_pos hk]
theorem itoaN {n : Int} {k : Nat} (h : n = -(k : Int)) (h0 : 0 < k) (hk : k < 10) : Lib.itoa n = [45, UInt8.ofNat (48 + k)] := by
  unfold Lib.itoa
  rw [if_pos (by omega), show n.natAbs = k by omega, Lib.decDigits, dif_pos hk]
def exA : Rat := ⟨1, 6, by decide, by decide⟩
def exB : Rat := ⟨1, 10, by decide, by decide⟩
def exBig : Rat := ⟨4611686018427387904, 1, by decide, by decide⟩
def exOne : Rat := ⟨1, 1, by decide, by decide⟩
def exM3 : Rat := ⟨-1, 3, by decide, by decide⟩
def exTiny : Rat := ⟨1, 4611686018427387904, by decide, by decide⟩
def exQ : Rat := ⟨3, 4, by decide, by decide⟩
def exR : Rat := ⟨-9, 2, by decide, by decide⟩
def exZ : Rat := ⟨0, 1, by decide, by decide⟩
theorem fitA : Rt.Fit exA := by decide
theorem fitB : Rt.Fit exB := by decide
theorem fitBig : Rt.Fit exBig := by decide
theorem fitOne : Rt.Fit exOne := by decide
theorem fitM3 : Rt.Fit exM3 := by decide
theorem fitTiny : Rt.Fit exTiny := by decide
theorem fitQ : Rt.Fit exQ := by decide
theorem fitR : Rt.Fit exR := by decide
theorem fitZ : Rt.Fit exZ := by decide
theorem ex1 : Rt.nw 6 (-4) = ⟨-3, 2, 0⟩ := by kernel_rfl
theorem ex2 : Rt.nw 0 5 = ⟨0, 1, 0⟩ := by kernel_rfl
theorem ex3 : Rt.nw 1 0 = ⟨0, 0, 20⟩ := by kernel_rfl
theorem ex4 : Rt.res (exA + exB) = ⟨4, 15, 0⟩ := by kernel_rfl
theorem ex5 : Rt.dv exQ exR = ⟨-1, 6, 0⟩ := by kernel_rfl
theorem ex6 : Rt.res (exBig + exOne) = ⟨0, 0, 2⟩ := by kernel_rfl
theorem ex7 : Rt.res (exBig + exM3) = ⟨0, 0, 2⟩ := by kernel_rfl
theorem ex8 : Rt.res (exBig * exTiny) = ⟨1, 1, 0⟩ := by kernel_rfl
theorem ex9 : Rt.dv exA exZ = ⟨0, 0, 20⟩ := by kernel_rfl
theorem ex10 : Rt.cmp exA exB = 1 := by kernel_rfl
theorem ex11 : validB 2 4 = false := by kernel_rfl
theorem ex12 : validB 1 6 = true := by kernel_rfl
theorem ex13 : Rt.mn exA exB = exB := by kernel_rfl
theorem ex14 : Rt.mx exA exB = exA := by kernel_rfl
theorem tl (b : ByteArray) : b.toList = b.data.toList := by
  unfold ByteArray.toList
  rw [ByteArray.toList_loop_eq b _ 0 [] rfl (Nat.zero_le _)]; simp
theorem par {s : ByteArray} {n d : Int} {r : Rt.R} {t : ByteArray} (ht : textS n d = t) (h : (if validB n d = true ∧ t.data.toList = s.data.toList then (⟨n, d, 0⟩ : Rt.R) else Rt.bad) = r) : parseR s n d = r := by
  unfold parseR; rw [ht, tl, tl]; exact h
theorem t32 : textS (-3) 2 = ⟨#[45, 51, 47, 50]⟩ := by
  unfold textS
  have e1 : Lib.itoa (-3) = [45, UInt8.ofNat (48 + 3)] := itoaN (k := 3) rfl (by decide) (by decide)
  have e2 : Lib.itoa 2 = [UInt8.ofNat (48 + 2)] := itoa1 (k := 2) rfl (by decide)
  rw [if_neg (by decide), e1, e2]
  rfl
theorem tN1 {n : Int} {k : Nat} (h : n = k) (hk : k < 10) : textS n 1 = ⟨#[UInt8.ofNat (48 + k)]⟩ := by
  unfold textS
  rw [if_pos rfl, itoa1 h hk]
theorem p1 : FC Tryz.prog gi 28 [strA' ⟨#[52, 47, 50]⟩] [] (lawA ⟨0, 0, 3⟩) [] NoP := by
  have c := parse2_fc ⟨#[52, 47, 50]⟩ 1 4 2 (by decide) (by decide) (by decide) (by decide) (by decide) (by rfl) (by decide) (by rfl)
  rw [show parseR ⟨#[52, 47, 50]⟩ 4 2 = ⟨0, 0, 3⟩ by unfold parseR; rw [if_neg (fun h => absurd h.1 (by decide))]; rfl] at c
  exact parsed_fc c
theorem p2 : FC Tryz.prog gi 28 [strA' ⟨#[49, 47, 49]⟩] [] (lawA ⟨0, 0, 3⟩) [] NoP := by
  have c := parse2_fc ⟨#[49, 47, 49]⟩ 1 1 1 (by decide) (by decide) (by decide) (by decide) (by decide) (by rfl) (by decide) (by rfl)
  rw [par (r := ⟨0, 0, 3⟩) (show textS 1 1 = _ from tN1 (k := 1) rfl (by decide)) (by decide)] at c
  exact parsed_fc c
theorem p3 : FC Tryz.prog gi 28 [strA' ⟨#[45, 48]⟩] [] (lawA ⟨0, 0, 3⟩) [] NoP := by
  have c := parse1_fc ⟨#[45, 48]⟩ 0 (by decide) (by decide) (by decide) (by rfl)
  rw [par (r := ⟨0, 0, 3⟩) (show textS 0 1 = _ from tN1 (k := 0) rfl (by decide)) (by decide)] at c
  exact parsed_fc c
theorem p4 : FC Tryz.prog gi 28 [strA' ⟨#[43, 49]⟩] [] (lawA ⟨0, 0, 3⟩) [] NoP := by
  have c := parse1_fc ⟨#[43, 49]⟩ 1 (by decide) (by decide) (by decide) (by rfl)
  rw [par (r := ⟨0, 0, 3⟩) (show textS 1 1 = _ from tN1 (k := 1) rfl (by decide)) (by decide)] at c
  exact parsed_fc c
theorem p5 : FC Tryz.prog gi 28 [strA' ⟨#[45, 51, 47, 50]⟩] [] (lawA ⟨-3, 2, 0⟩) [] NoP := by
  have c := parse2_fc ⟨#[45, 51, 47, 50]⟩ 2 (-3) 2 (by decide) (by decide) (by decide) (by decide) (by decide) (by rfl) (by decide) (by rfl)
  rw [par (r := ⟨-3, 2, 0⟩) t32 (by decide)] at c
  exact parsed_fc c
end Go.Proofs.YtbhahgbdkgjliaaGreatDoor
