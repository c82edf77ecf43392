/- The fixed examples of the Merkle laws are true. No conditions. -/
import Derived.Test.YtifpkhgcoopjnaaGrown
namespace Go.Proofs.Ytifpkhgcoopjnaa
open Go.RowKit

theorem Sl.lit (k : IntKind) (w : World) (e : TypeId) (xs : List Int) (hx : xs.length ≤ maxLen) : Sl k (w.alloc (.cells (xs.map (Value.int k)).toArray e)) (.slice (some ⟨w.heap.size, 0, none⟩) xs.length xs.length) xs := by
  refine ⟨some ⟨w.heap.size, 0, none⟩, xs.length, rfl, Nat.le_refl _, hx, by simp, fun _ => ⟨w.heap.size, 0, rfl, by simp, fun i hi => ?_⟩⟩
  simp [List.getD, hi]

theorem ex_path1 : Mk.path [11, 22, 33] 1 = [I (Dg.join (B 0) (B 11)), I (Dg.join (B 0) (B 33))] := by decide +kernel
theorem ex_path2 : Mk.path [11, 22, 33] 2 = [I (Dg.join (B (I (Dg.join (B 0) (B 11)))) (B (I (Dg.join (B 0) (B 22)))))] := by decide +kernel
theorem ex_root : I (Mk.root [11, 22, 33]) = I (Dg.join (B 3) (B (I (Dg.join (B (I (Dg.join (B (I (Dg.join (B 0) (B 11)))) (B (I (Dg.join (B 0) (B 22))))))) (B (I (Dg.join (B 0) (B 33)))))))) := by decide +kernel
theorem ex_nil : I (Mk.root []) = I (Dg.join (B 0) (B 0)) := by decide +kernel
theorem ex_check22 : Mk.check (I (Mk.root [11, 22, 33])) 3 1 22 (Mk.path [11, 22, 33] 1) = 0 := by decide +kernel
theorem ex_check23 : Mk.check (I (Mk.root [11, 22, 33])) 3 1 23 (Mk.path [11, 22, 33] 1) = 40 := by decide +kernel

/-- A slice of one or two numbers, by its cells. -/
theorem Sl.two (k : IntKind) (u : World) (b : Nat) (x y : Int) (h0 : u.cell? ⟨b, 0, none⟩ = some (.int k x)) (h1 : u.cell? ⟨b, 1, none⟩ = some (.int k y)) : Sl k u (.slice (some ⟨b, 0, none⟩) 2 2) [x, y] := by
  refine ⟨_, 2, rfl, Nat.le_refl _, by unfold maxLen; omega, by simp, fun _ => ⟨b, 0, rfl, World.lt_of_cell h0, fun i hi => ?_⟩⟩
  match i, hi with
  | 0, _ => exact h0
  | 1, _ => exact h1
theorem Sl.single (k : IntKind) (u : World) (b : Nat) (x : Int) (h0 : u.cell? ⟨b, 0, none⟩ = some (.int k x)) : Sl k u (.slice (some ⟨b, 0, none⟩) 1 1) [x] := by
  refine ⟨_, 1, rfl, Nat.le_refl _, by unfold maxLen; omega, by simp, fun _ => ⟨b, 0, rfl, World.lt_of_cell h0, fun i hi => ?_⟩⟩
  match i, hi with
  | 0, _ => exact h0

theorem StayB.alloc {W u : World} {c : Prop} (h : Below W.heap.size W u ∧ c) (o : Obj) : Below W.heap.size W (u.alloc o) := h.1.alloc h.1.size o
theorem StayB.step {W u u' : World} {c : Prop} (h : Below W.heap.size W u ∧ c) (hs : Below u.heap.size u u') : Below W.heap.size W u' := h.1.trans (hs.mono h.1.size)
theorem StayB.drewN {W u : World} {c : Prop} (h : Below W.heap.size W u ∧ c) (q : Nat) : Below W.heap.size W (u.drewN q) := StayB.step h (drewB u q)

set_option maxRecDepth 100000 in
set_option maxHeartbeats 1000000 in
theorem examples4_any (w : World) : Calls Try.prog 31 #[] w fun e w' => e = .returned (.bool true) ∧ Below w.heap.size w w' := by
  have hl := Sl.lit .u64 w 22 [11, 22, 33] (by unfold maxLen; decide)
  have HL := hid hl
  clear hl
  go_enter Try.func31, Try.ntmps31
  go_wp2_with (go_at_call 21; refine (join_any _ _ _).mono ?_; rintro e w' ⟨rfl, rfl⟩)
  refine (openL_ok _ [11, 22, 33] 1 _ (by decide) (by decide) HL.out).mono ?_
  rintro e w1 ⟨p1, rfl, ho1, hb1⟩
  rw [ex_path1] at ho1
  obtain ⟨a1, c1, rfl, _⟩ := ho1.sl
  have HO1 := hid ho1
  clear ho1
  go_wp2_with fail
  refine (openL_ok _ [11, 22, 33] 2 _ (by decide) (by decide) (HL.out.stays hb1)).mono ?_
  rintro e w2 ⟨p2, rfl, ho2, hb2⟩
  rw [ex_path2] at ho2
  obtain ⟨a2, c2, rfl, _⟩ := ho2.sl
  have HO2 := hid ho2
  clear ho2
  go_wp2_with (go_at_call 21; refine (join_any _ _ _).mono ?_; rintro e w' ⟨rfl, rfl⟩)
  refine (openL_bad (.slice none 0 0) [] 0 _ (by decide) (by decide) (Sl.nil _ _)).mono ?_
  rintro e w3 ⟨rfl, hb3⟩
  go_wp2_with fail
  have hpl : Mk.place 0 0 = 1 := by decide
  rw [hpl]
  have e1 : Below w1.heap.size w1 w2 := hb2
  have hP1 : Sl .u64 w2 (.slice a1 2 c1) _ := HO1.out.sl.stays hb2
  have hP2 : Sl .u64 w2 (.slice a2 1 c2) _ := HO2.out.sl
  have hL2 : Sl .u64 w2 _ _ := (HL.out.stays hb1).stays hb2
  have hb23 : Below w2.heap.size w2 w3 := (seqB (aB w2 _) (aB _ _)).trans (hb3.mono (by simp; omega))
  have hb3W : Below w3.heap.size w3 (w3.alloc (.cells #[.slice none 0 0, .int .i64 1] 46)) := aB w3 _
  have hbW : Below w.heap.size w (w3.alloc (.cells #[.slice none 0 0, .int .i64 1] 46)) := seqB (aB w _) (seqB hb1 (seqB hb2 (seqB hb23 hb3W)))
  have s1 := hid ((hP1.stays hb23).stays hb3W)
  have s2 := hid ((hP2.stays hb23).stays hb3W)
  have s3 := hid ((hL2.stays hb23).stays hb3W)
  have l2 : w2.heap.size + 1 < w3.heap.size := by have := hb3.size; simp at this; omega
  have k1 : w3.cell? ⟨w2.heap.size, 0, none⟩ = some (.slice a1 2 c1) := by rw [hb3.cell (p := ⟨w2.heap.size, 0, none⟩) (by simp; omega)]; go_simp
  have k2 : w3.cell? ⟨w2.heap.size, 1, none⟩ = some (.int .i64 0) := by rw [hb3.cell (p := ⟨w2.heap.size, 1, none⟩) (by simp; omega)]; go_simp
  have k3 : w3.cell? ⟨w2.heap.size + 1, 0, none⟩ = some (.slice a2 1 c2) := by rw [hb3.cell (p := ⟨w2.heap.size + 1, 0, none⟩) (by simp)]; go_simp
  have d1 := hb3W.cell (p := ⟨w2.heap.size, 0, none⟩) (by simp; omega)
  have d2 := hb3W.cell (p := ⟨w2.heap.size, 1, none⟩) (by simp; omega)
  have d3 := hb3W.cell (p := ⟨w2.heap.size + 1, 0, none⟩) (by simp; omega)
  have d4 : (w3.alloc (.cells #[.slice none 0 0, .int .i64 1] 46)).cell? ⟨w3.heap.size, 1, none⟩ = some (.int .i64 1) := by go_simp
  have l3 : w3.heap.size < (w3.alloc (.cells #[.slice none 0 0, .int .i64 1] 46)).heap.size := by simp
  rw [k1] at d1
  rw [k2] at d2
  rw [k3] at d3
  generalize w3.alloc (.cells #[.slice none 0 0, .int .i64 1] 46) = W at s1 s2 s3 d1 d2 d3 d4 l3 hbW ⊢
  clear hP1 hP2 hL2 hb1 hb2 hb3 hb23 HO1 HO2 HL k1 k2 k3 e1 hb3W
  have g22 := hid ex_check22
  have g23 := hid ex_check23
  have gr := hid ex_root
  have gp1 := hid ex_path1
  have gn := hid ex_nil
  obtain ⟨R, hR⟩ : ∃ R, I (Mk.root [11, 22, 33]) = R := ⟨_, rfl⟩
  rw [hR] at g22 g23 gr
  rw [ex_path1] at g22 g23
  rw [show I (Dg.join (B 3) (B (I (Dg.join (B (I (Dg.join (B (I (Dg.join (B 0) (B 11)))) (B (I (Dg.join (B 0) (B 22))))))) (B (I (Dg.join (B 0) (B 33)))))))) = R from gr.out.symm]
  obtain ⟨N0, hN⟩ : ∃ N0, I (Dg.join (B 0) (B 0)) = N0 := ⟨_, rfl⟩
  generalize hAB : I (Dg.join (B (I (Dg.join (B 0) (B 11)))) (B (I (Dg.join (B 0) (B 22))))) = AB at s2 ⊢
  generalize hA : I (Dg.join (B 0) (B 11)) = A at s1 g22 g23 hAB ⊢
  generalize hBb : I (Dg.join (B 0) (B 22)) = Bb at hAB ⊢
  generalize hC : I (Dg.join (B 0) (B 33)) = C at s1 g22 g23 ⊢
  generalize w2.heap.size + 1 = P6 at d3 l2 ⊢
  generalize w2.heap.size = P5 at d1 d2 ⊢
  generalize w3.heap.size = P8 at d4 l2 l3 ⊢
  have S_of : ∀ u, Below W.heap.size W u → Below W.heap.size W u ∧ u.cell? ⟨P5, 0, none⟩ = some (.slice a1 2 c1) ∧ u.cell? ⟨P5, 1, none⟩ = some (.int .i64 0) ∧ u.cell? ⟨P6, 0, none⟩ = some (.slice a2 1 c2) ∧ u.cell? ⟨P8, 1, none⟩ = some (.int .i64 1) := fun u hu =>
    ⟨hu, (hu.cell (p := ⟨P5, 0, none⟩) (World.lt_of_cell d1)).trans d1, (hu.cell (p := ⟨P5, 1, none⟩) (World.lt_of_cell d2)).trans d2, (hu.cell (p := ⟨P6, 0, none⟩) (World.lt_of_cell d3)).trans d3, (hu.cell (p := ⟨P8, 1, none⟩) (World.lt_of_cell d4)).trans d4⟩
  have cJ : ∀ u, Calls Try.prog 21 #[.int .u64 A, .int .u64 Bb] u fun e w' => e = .returned (.int .u64 AB) ∧ w' = u := fun u => (join_any _ _ _).mono (by rintro e w' ⟨rfl, rfl⟩; exact ⟨by rw [hAB], rfl⟩)
  have cJ0 : ∀ u, Calls Try.prog 21 #[.int .u64 0, .int .u64 0] u fun e w' => e = .returned (.int .u64 N0) ∧ w' = u := fun u => (join_any _ _ _).mono (by rintro e w' ⟨rfl, rfl⟩; exact ⟨by rw [hN], rfl⟩)
  have cR : ∀ u, Below W.heap.size W u → Calls Try.prog 33 #[.slice (some ⟨w.heap.size, 0, none⟩) 3 3] u fun e w' => e = .returned (.int .u64 R) ∧ ∃ q, w' = u.drewN q := fun u hu => (root_any _ _ _ (by decide) (s3.out.stays hu)).mono (by rintro e w' ⟨rfl, h⟩; exact ⟨by rw [hR], h⟩)
  have cR0 : ∀ u, Calls Try.prog 33 #[.slice none 0 0] u fun e w' => e = .returned (.int .u64 N0) ∧ ∃ q, w' = u.drewN q := fun u => (root_any _ [] _ (by decide) (Sl.nil _ _)).mono (by rintro e w' ⟨rfl, h⟩; exact ⟨by rw [gn.out, hN], h⟩)
  have cC : ∀ u, Below W.heap.size W u → Calls Try.prog 35 #[.int .u64 R, .int .i64 3, .int .i64 1, .agg #[.int .u64 22, .slice a1 2 c1]] u fun e w' => e = .returned (.int .i64 0) ∧ Below u.heap.size u w' := fun u hu => (checkL_any _ _ _ _ _ _ _ (s1.out.stays hu)).mono (by rintro e w' ⟨rfl, h⟩; exact ⟨by rw [g22.out], h⟩)
  have cC' : ∀ u, Below W.heap.size W u → Calls Try.prog 35 #[.int .u64 R, .int .i64 3, .int .i64 1, .agg #[.int .u64 23, .slice a1 2 c1]] u fun e w' => e = .returned (.int .i64 40) ∧ Below u.heap.size u w' := fun u hu => (checkL_any _ _ _ _ _ _ _ (s1.out.stays hu)).mono (by rintro e w' ⟨rfl, h⟩; exact ⟨by rw [g23.out], h⟩)
  have cS1 : ∀ u b, Below W.heap.size W u → u.cell? ⟨b, 0, none⟩ = some (.int .u64 A) → u.cell? ⟨b, 1, none⟩ = some (.int .u64 C) → Calls Try.prog 36 #[.slice a1 2 c1, .slice (some ⟨b, 0, none⟩) 2 2] u fun e w' => e = .returned (.bool true) ∧ ∃ q, w' = u.drewN q := fun u b hu h0 h1 => (same_any _ _ [A, C] [A, C] _ (by simp) (s1.out.stays hu) (Sl.two _ _ _ _ _ h0 h1)).mono (by rintro e w' ⟨rfl, h⟩; exact ⟨by simp, h⟩)
  have cS2 : ∀ u b, Below W.heap.size W u → u.cell? ⟨b, 0, none⟩ = some (.int .u64 AB) → Calls Try.prog 36 #[.slice a2 1 c2, .slice (some ⟨b, 0, none⟩) 1 1] u fun e w' => e = .returned (.bool true) ∧ ∃ q, w' = u.drewN q := fun u b hu h0 => (same_any _ _ [AB] [AB] _ (by simp) (s2.out.stays hu) (Sl.single _ _ _ _ h0)).mono (by rintro e w' ⟨rfl, h⟩; exact ⟨by simp, h⟩)
  have HS := hid S_of
  have HJ := hid cJ
  have HJ0 := hid cJ0
  have HR := hid cR
  have HR0 := hid cR0
  have HC := hid cC
  have HC' := hid cC'
  have HS1 := hid cS1
  have HS2 := hid cS2
  have b0 : Below W.heap.size W W.drew := dB W
  clear S_of cJ cJ0 cR cR0 cC cC' cS1 cS2 hAB hA hBb hC hR hN gr gn g22 g23 gp1 s1 s2 s3 hpl d1 d2 d3 d4 l2 l3
  go_region_held3 (fun u => Below W.heap.size W u ∧ u.cell? ⟨P5, 0, none⟩ = some (.slice a1 2 c1) ∧ u.cell? ⟨P5, 1, none⟩ = some (.int .i64 0) ∧ u.cell? ⟨P6, 0, none⟩ = some (.slice a2 1 c2) ∧ u.cell? ⟨P8, 1, none⟩ = some (.int .i64 1))
    (first | exact HS.out _ b0 | exact HS.out _ ⟨hst.os, hst.tape, hst.output, hst.size, hst.block⟩ | exact HS.out _ (StayB.alloc (by assumption) _) | assumption)
    (first
      | (go_at_call 21; (with_reducible refine (HJ.out _).mono ?_); rintro e w' ⟨rfl, rfl⟩)
      | (go_at_call 21; (with_reducible refine (HJ0.out _).mono ?_); rintro e w' ⟨rfl, rfl⟩)
      | (go_at_call 33; (with_reducible refine (HR.out _ (And.left (by assumption))).mono ?_); rintro e w' ⟨rfl, q, rfl⟩; have hst := StayB.drewN (by assumption) q)
      | (go_at_call 33; (with_reducible refine (HR0.out _).mono ?_); rintro e w' ⟨rfl, q, rfl⟩; have hst := StayB.drewN (by assumption) q)
      | (go_at_call 35; (with_reducible refine (HC.out _ (And.left (by assumption))).mono ?_); rintro e w' ⟨rfl, h⟩; have hst := StayB.step (by assumption) h)
      | (go_at_call 35; (with_reducible refine (HC'.out _ (And.left (by assumption))).mono ?_); rintro e w' ⟨rfl, h⟩; have hst := StayB.step (by assumption) h)
      | (go_at_call 36; (with_reducible refine (HS1.out _ _ (And.left (by assumption)) (by go_simp) (by go_simp)).mono ?_); rintro e w' ⟨rfl, q, rfl⟩; have hst := StayB.drewN (by assumption) q)
      | (go_at_call 36; (with_reducible refine (HS2.out _ _ (And.left (by assumption)) (by go_simp)).mono ?_); rintro e w' ⟨rfl, q, rfl⟩; have hst := StayB.drewN (by assumption) q))
  go_wp2
  go_ret
  have hend : Below W.heap.size W _ := ⟨hst.os, hst.tape, hst.output, hst.size, hst.block⟩
  exact ⟨rfl, seqB hbW hend⟩
end Go.Proofs.Ytifpkhgcoopjnaa
