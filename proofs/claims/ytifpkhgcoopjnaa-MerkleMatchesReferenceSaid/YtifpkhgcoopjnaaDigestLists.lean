/- What the digests of lists and of bytes compute. No conditions. -/
import Derived.Test.YtifpkhgcoopjnaaDigestWalk
import Derived.Test.YtifpkhgcoopjnaaSl
import Derived.Lib.SlBuf
namespace Go.Proofs.Ytifpkhgcoopjnaa
open Go.RowKit

namespace Dg
/-- The digest of the first k numbers of a list of n. -/
def wordsFrom (n : Nat) (l : List Int) : BitVec 64 := l.foldl (fun h x => step h (B x)) (step 2611923443488327891#64 (B n))
def words (l : List Int) : BitVec 64 := wordsFrom l.length l
theorem wordsFrom_snoc (n : Nat) (l : List Int) (x : Int) : wordsFrom n (l ++ [x]) = step (wordsFrom n l) (B x) := by simp [wordsFrom, List.foldl_append]
end Dg

theorem take_snocD {α : Type} (l : List α) (k : Nat) (d : α) (h : k < l.length) : l.take (k + 1) = l.take k ++ [l.getD k d] := by
  rw [List.take_succ_eq_append_getElem h]; simp [List.getD, h]

set_option maxHeartbeats 400000 in
theorem words_any (v : Value) (xs : List Int) (w : World) (hs : Sl .i64 w v xs) :
    Calls Try.prog 22 #[v] w fun e w' => e = .returned (.int .u64 (I (Dg.words xs))) ∧ w = w' := by
  obtain ⟨a, cap, rfl, hcap, hmax, _, hne⟩ := hs
  unfold maxLen at hmax
  have hB : B 2611923443488327891 = 2611923443488327891#64 := by decide +kernel
  have hlen : xs.length ≤ 9223372036854775807 := by omega
  clear hmax
  have HB := hid hB; clear hB
  by_cases hp : 0 < xs.length
  · obtain ⟨b, o, rfl, hb, hc⟩ := hne hp
    have HC := hid hc; clear hc hne hb hcap
    go_enter Try.func22, Try.ntmps22
    go_wp2_with (go_at_call 18; refine (step_any _ _ _).mono ?_; rintro e w' ⟨rfl, rfl⟩)
    go_loop [3, 12] (fun h i => ∃ k : Nat, k ≤ xs.length ∧ i = .int .i64 k ∧ h = .int .u64 (I (Dg.wordsFrom xs.length (xs.take k)))) (fun _ i => xs.length - (intOf i).toNat)
    case atStart => exact ⟨0, by omega, rfl, by rw [HB.out]; rfl⟩
    case round =>
      obtain ⟨k, hk, rfl, rfl⟩ := hrel
      by_cases hlt : k < xs.length
      · have hck := HC.out k hlt
        go_wp2_with (go_at_call 18; refine (step_any _ _ _).mono ?_; rintro e w' ⟨rfl, rfl⟩)
        refine ⟨⟨k + 1, by omega, by go_num, ?_⟩, by simp [intOf]; omega⟩
        rw [take_snocD xs k 0 hlt, Dg.wordsFrom_snoc, B_I, wrap_u64, B_I]
        simp [List.getD, hlt]
      · go_wp2
        go_ret
        obtain rfl : k = xs.length := by omega
        refine ⟨?_, rfl⟩
        rw [List.take_length]; rfl
  · obtain rfl : xs = [] := List.eq_nil_of_length_eq_zero (by omega)
    clear hne hp hlen hcap
    go_enter Try.func22, Try.ntmps22
    go_wp2_with (go_at_call 18; refine (step_any _ _ _).mono ?_; rintro e w' ⟨rfl, rfl⟩)
    go_rounds 1
    go_ret
    exact ⟨by rw [HB.out]; rfl, rfl⟩

theorem words_at (v : Value) (xs : List Int) (r : Int) (w : World) (hs : Sl .i64 w v xs) (e : I (Dg.words xs) = r) :
    Calls Try.prog 22 #[v] w fun e w' => e = .returned (.int .u64 r) ∧ w = w' := e ▸ words_any v xs w hs

namespace Dg
/-- The word of the first 8 bytes of a list. -/
def word8 (l : List Int) : BitVec 64 :=
  0#64 ||| B (l.getD 0 0) ||| B (l.getD 1 0) * 256#64 ||| B (l.getD 2 0) * 65536#64 ||| B (l.getD 3 0) * 16777216#64 ||| B (l.getD 4 0) * 4294967296#64 |||
    B (l.getD 5 0) * 1099511627776#64 ||| B (l.getD 6 0) * 281474976710656#64 ||| B (l.getD 7 0) * 72057594037927936#64
/-- The digest goes on by the groups of a list. -/
def bytesGo (h : BitVec 64) : Nat → List Int → BitVec 64
  | 0, _ => h
  | f + 1, l => if l = [] then h else bytesGo (step h (word8 l)) f (l.drop 8)
theorem bytesGo_fuel : ∀ (f : Nat) (l : List Int) (h : BitVec 64), l.length ≤ f → ∀ f', l.length ≤ f' → bytesGo h f l = bytesGo h f' l := by
  intro f
  induction f with
  | zero =>
    intro l h hl f' _
    obtain rfl : l = [] := List.eq_nil_of_length_eq_zero (by omega)
    cases f' <;> simp [bytesGo]
  | succ f ih =>
    intro l h hl f' hf'
    cases f' with
    | zero =>
      obtain rfl : l = [] := List.eq_nil_of_length_eq_zero (by omega)
      simp [bytesGo]
    | succ f' =>
      by_cases hn : l = []
      · simp [bytesGo, hn]
      · have : 0 < l.length := List.length_pos_iff.2 hn
        simp only [bytesGo, hn, if_false]
        exact ih _ _ (by rw [List.length_drop]; omega) _ (by rw [List.length_drop]; omega)
theorem bytesGo_cons (h : BitVec 64) (l : List Int) (hp : 0 < l.length) : bytesGo h l.length l = bytesGo (step h (word8 l)) (l.drop 8).length (l.drop 8) := by
  obtain ⟨n, hn⟩ : ∃ n, l.length = n + 1 := ⟨l.length - 1, by omega⟩
  rw [hn]
  simp only [bytesGo, List.length_pos_iff.1 hp, if_false]
  exact bytesGo_fuel _ _ _ (by rw [List.length_drop]; omega) _ (Nat.le_refl _)
def bytes (l : List Int) : BitVec 64 := bytesGo (step 1376283091369227076#64 (B l.length)) l.length l
end Dg

theorem setRow_alloc (w : World) (C D : Array Value) (t : TypeId) (fr : Nat × Nat) : (w.alloc (.cells C t fr)).setRow w.heap.size D = w.alloc (.cells D t fr) := by
  have hh : (w.alloc (.cells C t fr)).heap = w.heap.push (.cells C t fr) := rfl
  have h2 : ((w.alloc (.cells C t fr)).setRow w.heap.size D).heap = w.heap.push (.cells D t fr) := by
    apply Array.ext_getElem?
    intro i
    rw [Array.getElem?_push]
    by_cases e : i = w.heap.size
    · subst e
      rw [if_pos rfl]
      exact setRow_heap _ _ C _ _ _ (by rw [hh, Array.getElem?_push, if_pos rfl])
    · rw [if_neg e, setRow_other _ _ _ _ e, hh, Array.getElem?_push, if_neg e]
  have h3 : (w.alloc (.cells D t fr)).heap = w.heap.push (.cells D t fr) := rfl
  cases hw : (w.alloc (.cells C t fr)).setRow w.heap.size D
  rw [hw] at h2
  simp only at h2
  subst h2
  have e1 := congrArg World.tape hw
  have e2 := congrArg World.drawn hw
  have e3 := congrArg World.os hw
  have e4 := congrArg World.output hw
  simp only [setRow_tape, setRow_drawn, setRow_os, setRow_output] at e1 e2 e3 e4
  subst e1 e2 e3 e4
  rfl

theorem addr_add_block (a : Addr) (n : Nat) : (a.add n).block = a.block := by unfold Addr.add; split <;> rfl

/-- copy of m cells into a new array of 8. -/
theorem copy8 (w : World) (ad : Addr) (d : Nat → Int) (m sLen sCap : Nat) (hm : m ≤ 8) (hl : m = Nat.min sLen 8)
    (hc : ∀ i, i < m → w.cell? (ad.add i) = some (.int .u8 (d i))) (hlt : ad.block < w.heap.size) :
    (Builtin.copy_ #[32, 32] 3 #[.slice (some ⟨w.heap.size, 0, none⟩) 8 8, .slice (some ad) sLen sCap]).run Try.prog (w.alloc (.cells #[.int .u8 0, .int .u8 0, .int .u8 0, .int .u8 0, .int .u8 0, .int .u8 0, .int .u8 0, .int .u8 0] 73)) =
      .ok (.int .i64 m) (w.alloc (.cells ((List.range 8).map fun i => Value.int .u8 (if i < m then d i else 0)).toArray 73)) := by
  have h := run_copy_row (P := Try.prog) (w.alloc (.cells #[.int .u8 0, .int .u8 0, .int .u8 0, .int .u8 0, .int .u8 0, .int .u8 0, .int .u8 0, .int .u8 0] 73)) 32 32 3 5 w.heap.size 0 8 8 ad sLen sCap
    #[.int .u8 0, .int .u8 0, .int .u8 0, .int .u8 0, .int .u8 0, .int .u8 0, .int .u8 0, .int .u8 0] 73 ((List.range m).map fun i => Value.int .u8 (d i)) Try.underlying32 (by kernel_rfl) (by show (w.heap.push _)[w.heap.size]? = _; rw [Array.getElem?_push, if_pos rfl])
    (by simpa using hl) (fun j v hj => by
      obtain ⟨h1, h2⟩ := List.getElem?_eq_some_iff.1 hj
      have hjm : j < m := by simpa using h1
      simp at h2
      rw [World.cell?_of_block (w := w) (w' := w.alloc _) (Below.heap_alloc w _ _ (by rw [addr_add_block]; exact hlt)), hc j hjm, h2]) (by simp; omega) (by intro v hv; simp at hv; obtain ⟨i, _, rfl⟩ := hv; rfl)
  rw [h, setRow_alloc]
  simp only [List.length_map, List.length_range]
  have hmm : m = 0 ∨ m = 1 ∨ m = 2 ∨ m = 3 ∨ m = 4 ∨ m = 5 ∨ m = 6 ∨ m = 7 ∨ m = 8 := by omega
  have e : (((#[.int .u8 0, .int .u8 0, .int .u8 0, .int .u8 0, .int .u8 0, .int .u8 0, .int .u8 0, .int .u8 0] : Array Value).toList.take 0 ++ ((List.range m).map fun i => Value.int .u8 (d i)) ++ (#[.int .u8 0, .int .u8 0, .int .u8 0, .int .u8 0, .int .u8 0, .int .u8 0, .int .u8 0, .int .u8 0] : Array Value).toList.drop (0 + m)).toArray) = (((List.range 8).map fun i => Value.int .u8 (if i < m then d i else 0)).toArray) := by
    rcases hmm with rfl | rfl | rfl | rfl | rfl | rfl | rfl | rfl | rfl <;> rfl
  rw [e]; rfl
/-- Byte i of what is left, or 0. -/
def Dg.at8 (l : List Int) (i : Nat) : Int := l.getD i 0

theorem copy8' (w : World) (b o : Nat) (ys : List Int) (m sLen sCap : Nat) (hm : m ≤ 8) (hl : m = Nat.min sLen 8) (hy : sLen = ys.length)
    (hc : ∀ i, i < m → w.cell? ⟨b, o + i, none⟩ = some (.int .u8 (ys.getD i 0))) (hlt : b < w.heap.size) :
    (Builtin.copy_ #[32, 32] 3 #[.slice (some ⟨w.heap.size, 0, none⟩) 8 8, .slice (some ⟨b, o, none⟩) sLen sCap]).run Try.prog (w.alloc (.cells #[.int .u8 0, .int .u8 0, .int .u8 0, .int .u8 0, .int .u8 0, .int .u8 0, .int .u8 0, .int .u8 0] 73)) =
      .ok (.int .i64 m) (w.alloc (.cells #[.int .u8 (Dg.at8 ys 0), .int .u8 (Dg.at8 ys 1), .int .u8 (Dg.at8 ys 2), .int .u8 (Dg.at8 ys 3), .int .u8 (Dg.at8 ys 4), .int .u8 (Dg.at8 ys 5), .int .u8 (Dg.at8 ys 6), .int .u8 (Dg.at8 ys 7)] 73)) := by
  rw [copy8 w ⟨b, o, none⟩ (fun i => ys.getD i 0) m sLen sCap hm hl (fun i hi => by rw [Go.WideShapes.add_plain]; exact hc i hi) hlt]
  have key : ∀ i, i < 8 → (if i < m then ys.getD i 0 else 0) = Dg.at8 ys i := by
    intro i hi
    unfold Dg.at8
    split
    · rfl
    · have : Nat.min sLen 8 = min sLen 8 := rfl
      simp [List.getD, show ¬ i < ys.length by omega]
  have e : ((List.range 8).map fun i => Value.int .u8 (if i < m then ys.getD i 0 else 0)) = [.int .u8 (Dg.at8 ys 0), .int .u8 (Dg.at8 ys 1), .int .u8 (Dg.at8 ys 2), .int .u8 (Dg.at8 ys 3), .int .u8 (Dg.at8 ys 4), .int .u8 (Dg.at8 ys 5), .int .u8 (Dg.at8 ys 6), .int .u8 (Dg.at8 ys 7)] := by
    rw [← key 0 (by omega), ← key 1 (by omega), ← key 2 (by omega), ← key 3 (by omega), ← key 4 (by omega), ← key 5 (by omega), ← key 6 (by omega), ← key 7 (by omega)]
    rfl
  rw [e]

theorem index8 (x0 x1 x2 x3 x4 x5 x6 x7 : Value) (w : World) :
    (Instr.index 73 (.agg #[x0, x1, x2, x3, x4, x5, x6, x7]) (.int .i64 0)).run Try.prog w = .ok x0 w ∧ (Instr.index 73 (.agg #[x0, x1, x2, x3, x4, x5, x6, x7]) (.int .i64 1)).run Try.prog w = .ok x1 w ∧
    (Instr.index 73 (.agg #[x0, x1, x2, x3, x4, x5, x6, x7]) (.int .i64 2)).run Try.prog w = .ok x2 w ∧ (Instr.index 73 (.agg #[x0, x1, x2, x3, x4, x5, x6, x7]) (.int .i64 3)).run Try.prog w = .ok x3 w ∧
    (Instr.index 73 (.agg #[x0, x1, x2, x3, x4, x5, x6, x7]) (.int .i64 4)).run Try.prog w = .ok x4 w ∧ (Instr.index 73 (.agg #[x0, x1, x2, x3, x4, x5, x6, x7]) (.int .i64 5)).run Try.prog w = .ok x5 w ∧
    (Instr.index 73 (.agg #[x0, x1, x2, x3, x4, x5, x6, x7]) (.int .i64 6)).run Try.prog w = .ok x6 w ∧ (Instr.index 73 (.agg #[x0, x1, x2, x3, x4, x5, x6, x7]) (.int .i64 7)).run Try.prog w = .ok x7 w := by
  refine ⟨?_, ?_, ?_, ?_, ?_, ?_, ?_, ?_⟩ <;> kernel_rfl

theorem word8_eq (ys : List Int) : B (bits .or .u64 (bits .or .u64 (bits .or .u64 (bits .or .u64 (bits .or .u64 (bits .or .u64 (bits .or .u64 (bits .or .u64 0 (IntKind.u64.wrap (IntKind.u64.wrap (Dg.at8 ys 0))))
    (IntKind.u64.wrap (IntKind.u64.wrap (Dg.at8 ys 1) * 256))) (IntKind.u64.wrap (IntKind.u64.wrap (Dg.at8 ys 2) * 65536))) (IntKind.u64.wrap (IntKind.u64.wrap (Dg.at8 ys 3) * 16777216))) (IntKind.u64.wrap (IntKind.u64.wrap (Dg.at8 ys 4) * 4294967296)))
    (IntKind.u64.wrap (IntKind.u64.wrap (Dg.at8 ys 5) * 1099511627776))) (IntKind.u64.wrap (IntKind.u64.wrap (Dg.at8 ys 6) * 281474976710656))) (IntKind.u64.wrap (IntKind.u64.wrap (Dg.at8 ys 7) * 72057594037927936))) = Dg.word8 ys := by
  simp only [or_u64, wrap_u64, B_I, B_mul]
  rfl

set_option maxRecDepth 100000 in
set_option maxHeartbeats 1000000 in
theorem bytes_any (v : Value) (xs : List Int) (w : World) (hs : Sl .u8 w v xs) :
    Calls Try.prog 23 #[v] w fun e w' => e = .returned (.int .u64 (I (Dg.bytes xs))) ∧ Below w.heap.size w w' := by
  obtain ⟨a, cap, rfl, hcap, hmax, _, hne⟩ := hs
  unfold maxLen at hmax
  have hB : B 1376283091369227076 = 1376283091369227076#64 := by decide +kernel
  have hlen : xs.length ≤ 9223372036854775807 := by omega
  have HB := hid hB; clear hB
  have HNE := hid hne; clear hne
  go_enter Try.func23, Try.ntmps23
  go_wp2_with (go_at_call 18; refine (step_any _ _ _).mono ?_; rintro e w' ⟨rfl, rfl⟩)
  go_loopw [0, 3] (fun s h wr => ∃ (ys : List Int) (c : Nat) (ad : Option Addr) (g : BitVec 64), s = .slice ad ys.length c ∧ ys.length ≤ c ∧ ys.length ≤ 9223372036854775807 ∧ h = .int .u64 (I g) ∧ Hid (Dg.bytesGo g ys.length ys = Dg.bytes xs) ∧ Below w.heap.size w wr ∧
      Hid (0 < ys.length → ∃ b o, ad = some ⟨b, o, none⟩ ∧ b < w.heap.size ∧ ∀ i, i < ys.length → w.cell? ⟨b, o + i, none⟩ = some (.int .u8 (ys.getD i 0)))) (fun s _ _ => match s with | .slice _ l _ => l | _ => 0)
  case atStart => exact ⟨xs, cap, a, _, rfl, hcap, hlen, rfl, by show _ = _; rw [HB.out]; rfl, Below.refl _ _, HNE⟩
  case round =>
    obtain ⟨ys, c, ad, g, rfl, hyc, hyl, rfl, hgo, hbel, hya⟩ := hrel
    clear hcap hmax hlen HNE HB
    by_cases hp : 0 < ys.length
    · obtain ⟨b, o, rfl, hb, hc⟩ := hya.out hp
      clear hya
      have HC := hid hc; clear hc
      obtain ⟨m, hm8, hml, hm0, hmin, hdrop⟩ : ∃ m : Nat, m ≤ 8 ∧ m ≤ ys.length ∧ 0 < m ∧ m = Nat.min ys.length 8 ∧ ys.drop 8 = ys.drop m := by
        by_cases h8 : 8 ≤ ys.length
        · exact ⟨8, by omega, h8, by omega, (Nat.min_eq_right h8).symm, rfl⟩
        · refine ⟨ys.length, by omega, by omega, hp, (Nat.min_eq_left (by omega)).symm, ?_⟩
          rw [List.drop_eq_nil_of_le (by omega), List.drop_eq_nil_of_le (by omega)]
      have hcp := copy8' wr b o ys m ys.length c hm8 hmin rfl (fun i hi => by rw [hbel.cell (p := ⟨b, o + i, none⟩) hb]; exact HC.out i (by omega)) (Nat.lt_of_lt_of_le hb hbel.size)
      have HCP := hid hcp
      have HD := hid hdrop
      clear hcp hmin hdrop
      have hmc : m ≤ c := by omega
      go_wp2_with (refine Lib.wpList_copy_run _ rfl (.tmp 16) (.tmp 17) 32 32 rfl (.slice (some ⟨wr.heap.size, 0, none⟩) 8 8) (.slice (some ⟨b, o, none⟩) ys.length c) rfl rfl HCP.out ?_)
      all_goals
        have hix := fun W => index8 (.int .u8 (Dg.at8 ys 0)) (.int .u8 (Dg.at8 ys 1)) (.int .u8 (Dg.at8 ys 2)) (.int .u8 (Dg.at8 ys 3)) (.int .u8 (Dg.at8 ys 4)) (.int .u8 (Dg.at8 ys 5)) (.int .u8 (Dg.at8 ys 6)) (.int .u8 (Dg.at8 ys 7)) W
        have i0 := fun W => (hix W).1
        have i1 := fun W => (hix W).2.1
        have i2 := fun W => (hix W).2.2.1
        have i3 := fun W => (hix W).2.2.2.1
        have i4 := fun W => (hix W).2.2.2.2.1
        have i5 := fun W => (hix W).2.2.2.2.2.1
        have i6 := fun W => (hix W).2.2.2.2.2.2.1
        have i7 := fun W => (hix W).2.2.2.2.2.2.2
        clear hix
        refine wp_loop_rounds 9 ?_
        iterate 9 (rw [rounds_succ]; go_wp2_with fail)
        refine (step_any _ _ _).mono ?_
        rintro e w' ⟨rfl, rfl⟩
        clear i0 i1 i2 i3 i4 i5 i6 i7
        go_wp2_with fail
        have hdl : (ys.drop 8).length = ys.length - m := by rw [HD.out, List.length_drop]
        refine ⟨⟨ys.drop 8, _, _, Dg.step g (Dg.word8 ys), by rw [hdl], by omega, by omega, by rw [B_I, word8_eq], ?_, hbel.alloc hbel.size _, ?_⟩, by show ys.length - m < ys.length; omega⟩
        · show _ = _
          rw [← Dg.bytesGo_cons g ys hp]; exact hgo.out
        · show _ → _
          intro hpd
          first
            | (exfalso; omega)
            | (refine ⟨b, o + m, rfl, hb, fun i hi => ?_⟩
               rw [Nat.add_assoc, HC.out (m + i) (by omega), HD.out]
               simp [List.getD, List.getElem?_drop])
    · obtain rfl : ys = [] := List.eq_nil_of_length_eq_zero (by omega)
      go_wp2_with fail
      go_ret
      refine ⟨?_, hbel⟩
      rw [← hgo.out]; rfl
end Go.Proofs.Ytifpkhgcoopjnaa
