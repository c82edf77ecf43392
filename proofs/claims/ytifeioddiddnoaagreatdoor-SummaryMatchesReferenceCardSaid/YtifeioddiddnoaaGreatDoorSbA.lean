/- strings.Builder: what it writes. No conditions. -/
import Derived.Test.YtifeioddiddnoaaGreatDoorAbsE
import Derived.Test.YtifeioddiddnoaaGreatDoorShelf
import Derived.Shelf.Strings.BuilderK
import Derived.Test.YtifeioddiddnoaaGreatDoorTab
import Derived.Lib.LaidTab
import Derived.Lib.ItoaMem
import Derived.Lib.ItoaLen
import Derived.Lib.AppendIntMem
set_option linter.unusedVariables false
set_option linter.unusedSimpArgs false
namespace Go.Proofs.YtifeioddiddnoaaGreatDoor
open Go Go.RowKit Go.Shelf
theorem bld_size : (Tryz.prog.info? 109).map (·.size) = some 2 := by kernel_rfl
theorem bld_lies : liesAt Tryz.prog Tryz.prog.depth 109 (2 / Tryz.prog.cellsOf 109) 0 109 1 = true := by kernel_rfl
theorem bld_byte : (Tryz.prog.info? 5).map (fun i => (i.zero, i.size, i.bytes)) = some (some (.int .u8 0), 1, 1) := by kernel_rfl
set_option maxHeartbeats 1000000 in
set_option maxRecDepth 100000 in
theorem check_used (b : Nat) (w : World) (h0 : w.cell? ⟨b, 0, none⟩ = some (.pointer (some ⟨b, 0, none⟩))) :
    Calls Tryz.prog 86 #[.pointer (some ⟨b, 0, none⟩)] w fun e w' => e = .returned (.tuple #[]) ∧ w' = w := by
  obtain ⟨j, hj, _⟩ := Option.map_eq_some_iff.1 bld_size
  have mixed : Tryz.prog.follows .mixedOrders = true := by kernel_rfl
  go_enter Tryz.func86, Tryz.ntmps86
  go_wp2
  rw [Lib.run_neq_ptr_same w _ Tryz.underlying107 hj]
  go_wp2
  go_end0
  exact ⟨rfl, rfl⟩
set_option maxHeartbeats 1000000 in
set_option maxRecDepth 100000 in
theorem check_fresh (b : Nat) (w : World) (h0 : w.cell? ⟨b, 0, none⟩ = some (.pointer none)) (hsh : w.shape? b = some (109, 2)) (hfz : w.frozen? ⟨b, 0, none⟩ = false) :
    Calls Tryz.prog 86 #[.pointer (some ⟨b, 0, none⟩)] w fun e w' => e = .returned (.tuple #[]) ∧ w' = w.setCell ⟨b, 0, none⟩ (.pointer (some ⟨b, 0, none⟩)) := by
  obtain ⟨j, hj, hjs⟩ := Option.map_eq_some_iff.1 bld_size
  have mixed : Tryz.prog.follows .mixedOrders = true := by kernel_rfl
  go_enter Tryz.func86, Tryz.ntmps86
  go_wp2
  rw [Lib.run_to_unsafe w ⟨b, 0, none⟩ Tryz.underlying107 Tryz.underlying158 hj (by rw [hjs]; decide) hsh (Nat.zero_lt_succ 1)]
  simp only [Result.andThen]
  rw [Oper.upon_value]
  go_wp2
  rw [run_callFunc_extern Tryz.func102 (by kernel_rfl) (by kernel_rfl) (by kernel_rfl) (e := Extern.AbiNoEscape.same) (by kernel_rfl)]
  rw [Lib.run_noEscape]
  simp only [Result.andThen]
  rw [Oper.upon_value]
  go_wp2
  rw [Lib.run_from_unsafe w ⟨b, 0, none⟩ Tryz.underlying158 Tryz.underlying107 hj hsh bld_lies]
  simp only [Result.andThen]
  rw [Oper.upon_value]
  go_wp2
  go_end0
  exact ⟨rfl, rfl⟩
theorem bcheck (B b : Nat) (bs : List Value) (w : World) (h : Lib.IsBuilderF 109 5 B b bs w) :
    Calls Tryz.prog 86 #[.pointer (some ⟨b, 0, none⟩)] w fun e w' => e = .returned (.tuple #[]) ∧ (Lib.BuilderAtF 109 5 B b (.pointer (some ⟨b, 0, none⟩)) bs w' ∧ Below B w w' ∧ Lib.OthersKept 5 (some b) w w') := by
  rcases h with h | h
  · refine (check_fresh b w h.cell0 h.shape h.frozen0).mono ?_
    rintro e w' ⟨rfl, rfl⟩
    exact ⟨rfl, h.used _, (Below.refl B w).setCell (p := ⟨b, 0, none⟩) h.1 _, (Lib.OthersKept.refl _ _ w).setCell ⟨b, 0, none⟩ rfl _⟩
  · refine (check_used b w h.cell0).mono ?_
    rintro e w' ⟨rfl, rfl⟩
    exact ⟨rfl, h, Below.refl B _, Lib.OthersKept.refl _ _ _⟩
set_option maxHeartbeats 2000000 in
set_option maxRecDepth 100000 in
theorem bwrite (B b : Nat) (bs : List Value) (s : ByteArray) (w : World) (h : Lib.IsBuilderF 109 5 B b bs w) (hlen : bs.length + s.size ≤ 140737488355328) (hBw : B ≤ w.heap.size) :
    Calls Tryz.prog 59 #[.pointer (some ⟨b, 0, none⟩), .string s] w fun e w' => e = .returned (.tuple #[.int .i64 s.size, .nilIface]) ∧ (Lib.BuilderAtF 109 5 B b (.pointer (some ⟨b, 0, none⟩)) (bs ++ Lib.strCells s) w' ∧ Below B w w' ∧ Lib.OthersKept 5 (some b) w w') := by
  obtain ⟨i0, hi, hz0, hz1, hz2⟩ := info_parts bld_byte
  have mixed : Tryz.prog.follows .mixedOrders = true := by kernel_rfl
  go_enter Tryz.func59, Tryz.ntmps59
  go_wp2_with (go_at_call 86; refine (bcheck B b bs _ h).mono ?_)
  rintro e w1 ⟨rfl, h1, hb1, hk1⟩
  obtain ⟨hB, v, hbk, hown, hne⟩ := h1
  have c0 : w1.cell? ⟨b, 0, none⟩ = some (.pointer (some ⟨b, 0, none⟩)) := by rw [Lib.cell_of_heap hbk]; rfl
  have c1 : w1.cell? ⟨b, 1, none⟩ = some v := by rw [Lib.cell_of_heap hbk]; rfl
  go_wp2_with (at_builtin; refine Lib.wpList_append_own_stringF _ rfl _ _ 22 9 rfl B 5 i0 Tryz.underlying22 Tryz.underlying9 hi hz0 hz1 hz2 _ _ _ rfl hown s rfl ?c3 ?c4 ?c5 ?_)
  case c3 => unfold maxLen; omega
  case c4 => omega
  case c5 => have := hb1.size; omega
  intro v' w2 hown' hgrow _
  have hlt : b < w1.heap.size := by
    rcases Nat.lt_or_ge b w1.heap.size with h' | h'
    · exact h'
    · simp [Array.getElem?_eq_none h'] at hbk
  have hb2 : w2.heap[b]? = some (.cells #[.pointer (some ⟨b, 0, none⟩), v] 109 (0, 0)) := by
    rw [hgrow.block b hlt (fun e => hne e.symm)]
    exact hbk
  have d0 : w2.cell? ⟨b, 0, none⟩ = some (.pointer (some ⟨b, 0, none⟩)) := by rw [Lib.cell_of_heap hb2]; rfl
  have d1 : w2.cell? ⟨b, 1, none⟩ = some v := by rw [Lib.cell_of_heap hb2]; rfl
  have f1 : w2.frozen? ⟨b, 1, none⟩ = false := Lib.frozen_of_heap hb2 1
  obtain ⟨ao, n', cap, rfl⟩ : ∃ ao n' cap, v' = .slice ao n' cap := by
    rcases hown'.2 with ⟨hv, _⟩ | ⟨g, cap, cur, fz, hv, _⟩
    · exact ⟨_, _, _, hv⟩
    · exact ⟨_, _, _, hv⟩
  go_wp2
  go_ret2
  refine ⟨rfl, ?_, ?_, (hk1.grown hgrow (Lib.ownsRowF_kind hown)).setCell ⟨b, 1, none⟩ rfl _⟩
  · exact Lib.BuilderAtF.put (T := 109) (e := 5) hB hb2 (bs' := bs ++ Lib.strCells s) (by simpa [Lib.strCells_length] using hown') (by decide)
  · exact (hb1.grown hgrow (by have := hb1.size; omega) (fun k hk => (hown.lt k hk).1)).setCell (p := ⟨b, 1, none⟩) hB _
end Go.Proofs.YtifeioddiddnoaaGreatDoor
namespace Go.Proofs.YtifeioddiddnoaaGreatDoor
open Go Go.RowKit Go.Shelf Go.Abs
theorem pow10_at : Tryz.prog.globalNamed "internal/strconv.uint64pow10" = some 0 := by kernel_rfl
theorem errS_at : Tryz.prog.globalNamed "strconv.ErrSyntax" = some 1 := by kernel_rfl
theorem errR_at : Tryz.prog.globalNamed "strconv.ErrRange" = some 2 := by kernel_rfl
def gs : GI := GI.and (GI.var Tryz.prog "internal/strconv.uint64pow10" 0 pow10_at (Lib.pow10Tab.map fun z => Value.int .u64 z).toArray) (GI.and (GI.ifc Tryz.prog "strconv.ErrSyntax" 1 errS_at) (GI.and (GI.ifc Tryz.prog "strconv.ErrRange" 2 errR_at) (GI.num1 3)))
theorem gs_tab {w : World} (h : gs.p w) : Lib.TabIs Tryz.prog w "internal/strconv.uint64pow10" .u64 Lib.pow10Tab := by simpa [Lib.TabIs, GI.var] using (show _ ∧ _ from h).1
theorem gs_below {B : Nat} {w w' : World} (hG : gs.G ≤ B) (h : Below B w w') (hp : gs.p w) : gs.p w' := gs.st w w' (fun b hb => h.block b (Nat.lt_of_lt_of_le hb hG)) hp
theorem bld_below {T e : TypeId} {B b : Nat} {bs : List Value} {w w' : World} (h : Lib.IsBuilderF T e B b bs w) (hb : Below w.heap.size w w') : Lib.IsBuilderF T e B b bs w' := by
  have key : ∀ p, Lib.BuilderAtF T e B b p bs w → Lib.BuilderAtF T e B b p bs w' := by
    rintro p ⟨h1, v, h2, h3, h4⟩
    refine ⟨h1, v, ?_, h3.kept (row := none) ⟨hb.os, hb.tape, hb.output, hb.size, fun k hk _ => hb.block k hk⟩ ?_, h4⟩
    · rw [hb.block b (Array.getElem?_eq_some_iff.1 h2).1]; exact h2
    · cases hv : v.ownBlock with
      | none => exact .inl rfl
      | some g => exact .inr (by simp)
  exact h.elim (fun h => .inl (key _ h)) (fun h => .inr (key _ h))
theorem others_below {e : TypeId} {b : Option Nat} {w w' : World} (hb : Below w.heap.size w w') : Lib.OthersKept e b w w' := fun k o hk _ _ => by
  rw [hb.block k (Array.getElem?_eq_some_iff.1 hk).1]; exact hk
def putW (l : List Int) : List UInt8 := l.flatMap fun n => 32 :: Lib.itoa n
theorem putW_cons (n : Int) (l : List Int) : putW (n :: l) = 32 :: Lib.itoa n ++ putW l := by simp [putW]
theorem itoa_len (n : Int) (h : -9223372036854775808 ≤ n ∧ n ≤ 9223372036854775807) : (Lib.itoa n).length ≤ 21 := Lib.itoa_length_le n h.1 h.2
theorem putW_len : ∀ l : List Int, (∀ n ∈ l, -9223372036854775808 ≤ n ∧ n ≤ 9223372036854775807) → (putW l).length ≤ 22 * l.length
  | [], _ => Nat.le_refl _
  | n :: l, h => by
    have h1 := itoa_len n (h n (by simp))
    have h2 := putW_len l (fun m hm => h m (by simp [hm]))
    rw [putW_cons, List.length_append, List.length_cons, List.length_cons]; omega
theorem putW_app (l m : List Int) : putW (l ++ m) = putW l ++ putW m := by simp [putW]
set_option maxHeartbeats 4000000 in
set_option maxRecDepth 1000000 in
theorem put_calls (B b : Nat) (acc : List UInt8) (name : ByteArray) (qb qo cap : Nat) (l : List Int) (w : World) (hG : gs.G ≤ B) (hI : gs.p w) (h : Lib.IsBuilderF 109 5 B b (Lib.byteCells acc) w) (hB : B ≤ w.heap.size)
    (arr : Array Value) (fz : Nat × Nat) (hq : w.heap[qb]? = some (.cells arr 3 fz)) (hqb : qb ≠ b) (hl : ∀ (j : Nat) (n : Int), l[j]? = some n → arr[qo + j]? = some (.int .i64 n)) (hb : ∀ n ∈ l, -9223372036854775808 ≤ n ∧ n ≤ 9223372036854775807) (hla : acc.length ≤ 1000000) (hln : name.size ≤ 1000) (hll : l.length ≤ 1000) :
    Calls Tryz.prog 58 #[.string name, .slice (some ⟨qb, qo, none⟩) l.length cap, .pointer (some ⟨b, 0, none⟩)] w fun e w' => e = .returned (.tuple #[]) ∧ Lib.IsBuilderF 109 5 B b (Lib.byteCells (acc ++ name.data.toList ++ putW l)) w' ∧ Below B w w' ∧ Lib.OthersKept 5 (some b) w w' := by
  go_enter Tryz.func58, Tryz.ntmps58
  go_wp2_with (go_at_call 59; refine (bwrite B b _ name _ h (by rw [Lib.byteCells_length]; omega) hB).mono ?_)
  rintro e w1 ⟨rfl, h1, b1, k1⟩
  rw [Lib.strCells_eq, ← Lib.byteCells_append] at h1
  go_wp2
  go_loopw [11] (fun kv wr => ∃ k : Nat, kv = .int .i64 k ∧ k ≤ l.length ∧ Lib.IsBuilderF 109 5 B b (Lib.byteCells (acc ++ name.data.toList ++ putW (l.take k))) wr ∧ Below B w wr ∧ Lib.OthersKept 5 (some b) w wr) (fun kv _ => l.length - (Lib.intOf kv).toNat)
  case atStart => exact ⟨0, rfl, Nat.zero_le _, by rw [List.take_zero, show putW [] = [] from rfl, List.append_nil]; exact .inr h1, b1, k1⟩
  case round =>
    obtain ⟨k, rfl, hk, hI2, b2, k2⟩ := hrel
    have hsz := b2.size
    have hqr : wr.heap[qb]? = some (.cells arr 3 fz) := k2 qb _ hq (by simp [hqb]) (by intro c fz' e; cases e)
    by_cases hlt : k < l.length
    · obtain ⟨n, hn⟩ : ∃ n, l[k]? = some n := ⟨_, List.getElem?_eq_getElem hlt⟩
      have hc : wr.cell? ⟨qb, qo + k, none⟩ = some (.int .i64 n) := by rw [Lib.cell_of_heap hqr]; exact hl k n hn
      have hnb := hb n (List.mem_of_getElem? hn)
      have hIr := gs_below hG b2 hI
      have hil := itoa_len n hnb
      go_wp2_with (go_at_call 60; refine (Tryz.strconv_Itoa n hnb.1 hnb.2 _ (gs_tab hIr)).mono ?_)
      rintro e W1 ⟨rfl, kk, os, hW1⟩
      have bg : Below wr.heap.size wr W1 := by rw [hW1]; exact Lib.below_grow _ wr (Nat.le_refl _) kk os
      clear hW1
      have hI3 := bld_below hI2 bg
      have b3 := b2.trans (bg.mono (by omega))
      go_wp2_with (go_at_call 59; refine (bwrite B b _ _ _ hI3 ?lim (by have := b3.size; omega)).mono ?_)
      case lim =>
        have e1 := putW_len (l.take k) (fun n hn => hb n (List.mem_of_mem_take hn))
        have e2 : (l.take k).length ≤ 1000 := by rw [List.length_take]; omega
        have e3 : (ByteArray.mk (Lib.itoa n).toArray).size = (Lib.itoa n).length := by simp [ByteArray.size]
        have e4 : name.data.toList.length = name.size := by rw [Array.length_toList]; rfl
        rw [Lib.byteCells_length, List.length_append, List.length_append, ByteArray.size_append, e3]
        show _ + (1 + _) ≤ _
        omega
      rintro e w2 ⟨rfl, h2, b4, k4⟩
      go_wp2
      refine ⟨⟨k + 1, by rw [show ((k + 1 : Nat) : Int) = (k : Int) + 1 by omega], by omega, ?_, b3.trans b4, k2.trans ((others_below bg).trans k4)⟩, by simp [Lib.intOf]; omega⟩
      rw [Lib.strCells_eq, ← Lib.byteCells_append] at h2
      have e : acc ++ name.data.toList ++ putW (l.take k) ++ (ByteArray.mk #[32] ++ ByteArray.mk (Lib.itoa n).toArray).data.toList = acc ++ name.data.toList ++ putW (l.take (k + 1)) := by
        rw [List.take_add_one, hn, putW_app, ByteArray.data_append, Array.toList_append]
        simp [putW]
      rw [e] at h2
      exact .inr h2
    · obtain rfl : k = l.length := by omega
      rw [List.take_length] at hI2
      go_wp2
      go_end0
      exact ⟨rfl, hI2, b2, k2⟩
end Go.Proofs.YtifeioddiddnoaaGreatDoor
