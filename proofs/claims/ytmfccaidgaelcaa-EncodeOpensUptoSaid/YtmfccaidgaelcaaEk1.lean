/- Words, slices and small functions, for openings of Merkle trees. No conditions. -/
import Derived.Test.YtmfccaidgaelcaaEp5
import Derived.Test.YtmfccaidgaelcaaProg
import Derived.Test.YtmfccaidgaelcaaRows
import Derived.BigQuiet
import Derived.Deep.QuietTactic
import Derived.Handy
import Derived.Laws.AppendOwnNone
import Derived.OpenShut
import Derived.OwnWalk
import Derived.WalkKit
import Derived.WalkLawsBesides
import Derived.WalkSpells
set_option linter.unusedVariables false
set_option linter.unusedSimpArgs false
namespace Go.Proofs.Ytmfccaidgaelcaa.Old
open Go.RowKit Go.OpenShut
open Go.Proofs.Ytmfccaidgaelcaa.Mk (I B)

/-- A fact that is kept from the walk. -/
theorem hid {p : Prop} (h : p) : Hid p := h
theorem seqB {a b c : World} (h : Below a.heap.size a b) (k : Below b.heap.size b c) : Below a.heap.size a c := h.trans (k.mono h.size)
theorem aB (w : World) (o : Obj) : Below w.heap.size w (w.alloc o) := (Below.refl _ _).alloc (Nat.le_refl _) o
theorem dB (w : World) : Below w.heap.size w w.drew := (Below.refl _ _).drew
/-- A number of kind u64. -/
def U (n : Int) : Prop := ∃ x, n = I x

theorem I_nonneg (x : BitVec 64) : 0 ≤ I x := by unfold Mk.I; omega
theorem I_lt (x : BitVec 64) : I x < 18446744073709551616 := by
  unfold Mk.I; have := x.isLt; omega
theorem B_I (x : BitVec 64) : B (I x) = x := by
  unfold Mk.B Dg.B Mk.I; rw [BitVec.ofInt_natCast, BitVec.ofNat_toNat, BitVec.setWidth_eq]
theorem I_inj {x y : BitVec 64} (h : I x = I y) : x = y := by rw [← B_I x, ← B_I y, h]
theorem I_B (n : Int) (h : 0 ≤ n) (h' : n < 18446744073709551616) : I (B n) = n := by
  unfold Mk.B Dg.B Mk.I
  rw [BitVec.toNat_ofInt]
  rw [Int.emod_eq_of_lt h (by simpa using h')]
  exact Int.toNat_of_nonneg h
theorem U_of_wf {n : Int} (h : (Lit.int .u64 n).wf = true) : U n := by
  have := bounds_u64 h
  exact ⟨B n, (I_B n (by omega) (by omega)).symm⟩
theorem U.I_B {n : Int} (h : U n) : I (B n) = n := by obtain ⟨x, rfl⟩ := h; rw [Proofs.Ytmfccaidgaelcaa.Old.B_I]
theorem U_I (x : BitVec 64) : U (I x) := ⟨x, rfl⟩
theorem wf_I (x : BitVec 64) : (Lit.int .u64 (I x)).wf = true := by
  have h := I_nonneg x; have h' := I_lt x
  simp [Lit.wf, IntKind.min, IntKind.max, IntKind.signed, IntKind.bits]; omega

theorem U_of (n : Int) (h : 0 ≤ n ∧ n < 18446744073709551616) : U n := ⟨B n, (I_B n h.1 h.2).symm⟩

theorem wrap_u64 (n : Int) : IntKind.u64.wrap n = I (B n) := by
  unfold Mk.B Dg.B Mk.I
  rw [BitVec.toNat_ofInt, IntKind.wrap_u64]
  have : 0 ≤ n % 18446744073709551616 := Int.emod_nonneg _ (by omega)
  simp; omega
theorem bits_u64 (op : BinOp) (x y : Int) : bits op .u64 x y = I (match op with | .and => B x &&& B y | .or => B x ||| B y | .xor => B x ^^^ B y | _ => B x &&& ~~~ B y) := by
  unfold bits
  rw [wrap_u64]
  exact congrArg I (B_I _)
theorem xor_u64 (x y : Int) : bits .xor .u64 x y = I (B x ^^^ B y) := bits_u64 _ _ _
theorem and_u64 (x y : Int) : bits .and .u64 x y = I (B x &&& B y) := bits_u64 _ _ _
theorem or_u64 (x y : Int) : bits .or .u64 x y = I (B x ||| B y) := bits_u64 _ _ _
theorem B_add (x y : Int) : B (x + y) = B x + B y := by unfold Mk.B Dg.B; rw [BitVec.ofInt_add]
theorem B_mul (x y : Int) : B (x * y) = B x * B y := by unfold Mk.B Dg.B; rw [BitVec.ofInt_mul]
theorem B_sub (x y : Int) : B (x - y) = B x - B y := by
  rw [Int.sub_eq_add_neg, B_add, BitVec.sub_eq_add_neg]; congr 1; unfold Mk.B Dg.B; rw [BitVec.ofInt_neg]
theorem B_wrap64 (n : Int) : B (IntKind.i64.wrap n) = B n := by
  unfold Mk.B Dg.B
  apply BitVec.eq_of_toNat_eq
  rw [BitVec.toNat_ofInt, BitVec.toNat_ofInt, IntKind.wrap_i64]
  congr 1
  simp
theorem B_wrap64' (n : Int) : B (wrap64 n) = B n := by rw [← B_wrap64 n, IntKind.wrap_i64]; unfold wrap64; rfl
theorem I_div (x : BitVec 64) (k : Nat) : I x / ((2 ^ k : Nat) : Int) = I (x >>> k) := by
  unfold Mk.I
  rw [BitVec.toNat_ushiftRight, Nat.shiftRight_eq_div_pow]
  simp
theorem I_beq (x y : BitVec 64) : (I x == I y) = (x == y) := by
  rw [Bool.eq_iff_iff, beq_iff_eq, beq_iff_eq]; exact ⟨I_inj, fun h => by rw [h]⟩
theorem I_bne (x y : BitVec 64) : (I x != I y) = (x != y) := by unfold bne; rw [I_beq]

end Go.Proofs.Ytmfccaidgaelcaa.Old
namespace Go.Proofs.Ytmfccaidgaelcaa.Old
open Go.RowKit
open Go.Proofs.Ytmfccaidgaelcaa.Mk (I B)
set_option maxHeartbeats 400000 in
theorem step_any (h v : Int) (w : World) :
    Calls Try.prog 43 #[.int .u64 h, .int .u64 v] w fun e w' => e = .returned (.int .u64 (I (Dg.step (B h) (B v)))) ∧ w = w' := by
  go_enter Try.func43, Try.ntmps43
  go_wp2
  go_ret
  refine ⟨?_, rfl⟩
  show Ending.returned (.int .u64 _) = Ending.returned (.int .u64 _)
  have h1 : ∀ x : BitVec 64, I x / (536870912 : Int) = I (x >>> 29) := fun x => I_div x 29
  have h2 : ∀ x : BitVec 64, I x / (4294967296 : Int) = I (x >>> 32) := fun x => I_div x 32
  have hA : B 11400714819323198485 = Dg.mulA := by decide +kernel
  have hB : B 13787848793156543929 = Dg.mulB := by decide +kernel
  simp only [xor_u64, wrap_u64, B_I, B_mul, h1, h2, hA, hB]
  rfl

set_option maxHeartbeats 400000 in
theorem join_any (a b : Int) (w : World) :
    Calls Try.prog 58 #[.int .u64 a, .int .u64 b] w fun e w' => e = .returned (.int .u64 (I (Dg.join (B a) (B b)))) ∧ w = w' := by
  go_enter Try.func58, Try.ntmps58
  go_wp2_with (go_at_call 43; refine (step_any _ _ _).mono ?_; rintro e w' ⟨rfl, rfl⟩)
  go_ret
  refine ⟨?_, rfl⟩
  show Ending.returned (.int .u64 _) = Ending.returned (.int .u64 _)
  simp only [B_I]
  rfl

end Go.Proofs.Ytmfccaidgaelcaa.Old
namespace Go.Proofs.Ytmfccaidgaelcaa.Old
open Go.RowKit
open Go.Proofs.Ytmfccaidgaelcaa.Mk (I B)

/-- v is a slice whose elements are the numbers xs, of kind k, in the world w. -/
def Sl (k : IntKind) (w : World) (v : Value) (xs : List Int) : Prop :=
  ∃ (a : Option Addr) (cap : Nat), v = .slice a xs.length cap ∧ xs.length ≤ cap ∧ cap ≤ maxLen ∧ (a = none → cap = 0) ∧
    (0 < xs.length → ∃ b o, a = some ⟨b, o, none⟩ ∧ b < w.heap.size ∧ ∀ i, i < xs.length → w.cell? ⟨b, o + i, none⟩ = some (.int k (xs.getD i 0)))

theorem Sl.stays {k : IntKind} {w w' : World} {v : Value} {xs : List Int} (h : Sl k w v xs) (hb : Below w.heap.size w w') : Sl k w' v xs := by
  obtain ⟨a, cap, rfl, h1, h2, h3, h4⟩ := h
  refine ⟨a, cap, rfl, h1, h2, h3, fun hp => ?_⟩
  obtain ⟨b, o, rfl, hlt, hc⟩ := h4 hp
  exact ⟨b, o, rfl, Nat.lt_of_lt_of_le hlt hb.size, fun i hi => by rw [hb.cell (p := ⟨b, o + i, none⟩) hlt]; exact hc i hi⟩

/-- The first m elements of a slice. -/
theorem Sl.take {k : IntKind} {w : World} {a : Option Addr} {n cap : Nat} {xs : List Int} (h : Sl k w (.slice a n cap) xs) (m : Nat) (hm : m ≤ n) : Sl k w (.slice a m cap) (xs.take m) := by
  obtain ⟨a', cap', he, h1, h2, h3, h4⟩ := h
  simp only [Value.slice.injEq] at he
  obtain ⟨rfl, rfl, rfl⟩ := he
  have hl : (xs.take m).length = m := by rw [List.length_take]; omega
  refine ⟨a, cap, by rw [hl], by omega, h2, h3, fun hp => ?_⟩
  rw [hl] at hp
  obtain ⟨b, o, rfl, hlt, hc⟩ := h4 (by omega)
  refine ⟨b, o, rfl, hlt, fun i hi => ?_⟩
  rw [hl] at hi
  rw [hc i (by omega)]
  simp [List.getD, hi]

theorem Sl.nil (k : IntKind) (w : World) : Sl k w (.slice none 0 0) [] := ⟨none, 0, rfl, Nat.le_refl _, Nat.zero_le _, fun _ => rfl, fun h => absurd h (by simp)⟩

theorem World.lt_of_cell {w : World} {b o : Nat} {v : Value} (h : w.cell? ⟨b, o, none⟩ = some v) : b < w.heap.size := World.block_lt_of_cell? w _ h

end Go.Proofs.Ytmfccaidgaelcaa.Old
namespace Go.Proofs.Ytmfccaidgaelcaa.Old
open Go.RowKit
open Go.Proofs.Ytmfccaidgaelcaa.Mk (I B)

/-- v is a row of the call's own (from block base on) whose elements are the numbers xs. -/
def Own (base : Nat) (e : TypeId) (k : IntKind) (w : World) (v : Value) (xs : List Int) : Prop := w.ownsRow base e 1 v xs.length (xs.map (Value.int k))

theorem Own.nil (base : Nat) (e : TypeId) (k : IntKind) (w : World) : Own base e k w (.slice none 0 0) [] := World.ownsRow_nil w base e 1
theorem Own.empty (base : Nat) (e : TypeId) (k : IntKind) (w : World) (hb : base ≤ w.heap.size) : Own base e k (w.alloc (.cells #[] e)) (.slice (some ⟨w.heap.size, 0, none⟩) 0 0) [] :=
  World.ownsRow_lit w #[] 0 hb (Nat.zero_le _) rfl
theorem Own.mono {base base' : Nat} {e : TypeId} {k : IntKind} {w : World} {v : Value} {xs : List Int} (h : Own base e k w v xs) (hb : base' ≤ base) : Own base' e k w v xs := by
  obtain ⟨h1, h2⟩ := h
  refine ⟨h1, ?_⟩
  rcases h2 with h2 | ⟨g, cap, cur, a, b, c⟩
  · exact .inl h2
  · exact .inr ⟨g, cap, cur, a, by omega, c⟩

theorem getD_of_map {k : IntKind} {xs : List Int} {i : Nat} (hi : i < xs.length) : (xs.map (Value.int k))[i]? = some (.int k (xs.getD i 0)) := by
  simp [List.getD, hi]

theorem Own.sl {base : Nat} {e : TypeId} {k : IntKind} {w : World} {v : Value} {xs : List Int} (h : Own base e k w v xs) : Sl k w v xs := by
  obtain ⟨h1, h2⟩ := h
  rcases h2 with ⟨rfl, h0⟩ | ⟨g, cap, cur, rfl, hb, hg, hn, hm, hc, ht⟩
  · obtain rfl : xs = [] := List.eq_nil_of_length_eq_zero (by omega)
    exact Sl.nil k w
  · refine ⟨some ⟨g, 0, none⟩, cap, rfl, hn, hm, by simp, fun hp => ⟨g, 0, rfl, ?_, fun i hi => ?_⟩⟩
    · exact (Array.getElem?_eq_some_iff.1 hg).1
    · rw [Nat.zero_add, show w.cell? ⟨g, i, none⟩ = cur[i]? by simp [World.cell?, hg]]
      have : (xs.map (Value.int k))[i]? = cur[i]? := by
        rw [← ht, List.getElem?_take_of_lt (by omega)]; simp
      rw [← this]; exact getD_of_map hi

/-- A slice value of the call's own that is not empty. -/
theorem Own.form {base : Nat} {e : TypeId} {k : IntKind} {w : World} {v : Value} {xs : List Int} (h : Own base e k w v xs) (hp : 0 < xs.length) : ∃ g cap, v = .slice (some ⟨g, 0, none⟩) xs.length cap ∧ base ≤ g ∧ g < w.heap.size ∧ xs.length ≤ cap ∧ cap ≤ maxLen := by
  obtain ⟨h1, h2⟩ := h
  rcases h2 with ⟨rfl, h0⟩ | ⟨g, cap, cur, rfl, hb, hg, hn, hm, hc, ht⟩
  · omega
  · exact ⟨g, cap, rfl, hb, (Array.getElem?_eq_some_iff.1 hg).1, hn, hm⟩

/-- What stays while nothing from base on is turned but behind the row's block. -/
theorem Own.kept {base : Nat} {e : TypeId} {k : IntKind} {w w' : World} {v : Value} {xs : List Int} (h : Own base e k w v xs) (hb : Below w.heap.size w w') : Own base e k w' v xs := by
  obtain ⟨h1, h2⟩ := h
  refine ⟨h1, ?_⟩
  rcases h2 with h2 | ⟨g, cap, cur, rfl, hbg, hg, hn, hm, hc, ht⟩
  · exact .inl h2
  · exact .inr ⟨g, cap, cur, rfl, hbg, by rw [hb.block g (Array.getElem?_eq_some_iff.1 hg).1]; exact hg, hn, hm, hc, ht⟩

/-- A store into the row. -/
theorem Own.stored {base g cap : Nat} {e : TypeId} {k : IntKind} {w : World} {xs : List Int} (h : Own base e k w (.slice (some ⟨g, 0, none⟩) xs.length cap) xs) (j : Nat) (n : Int) :
    Own base e k (w.setCell ⟨g, j, none⟩ (.int k n)) (.slice (some ⟨g, 0, none⟩) (xs.set j n).length cap) (xs.set j n) := by
  have h' := World.ownsRow.stored (w := w) h j (.int k n)
  unfold Own
  rw [List.length_set, List.map_set]
  exact h'.1

/-- A cell of the row, and that it may be written. -/
theorem Own.cellAt {base g cap n : Nat} {e : TypeId} {k : IntKind} {w : World} {xs : List Int} (h : Own base e k w (.slice (some ⟨g, 0, none⟩) n cap) xs) (j : Nat) (hj : j < xs.length) :
    w.cell? ⟨g, j, none⟩ = some (.int k (xs.getD j 0)) ∧ w.frozen? ⟨g, j, none⟩ = false := by
  obtain ⟨h1, h2⟩ := h
  rcases h2 with ⟨hv, h0⟩ | ⟨g', cap', cur, hv, hb, hg, hn, hm, hc, ht⟩
  · omega
  · simp only [Value.slice.injEq, Option.some.injEq, Addr.mk.injEq] at hv
    obtain ⟨⟨rfl, _⟩, rfl, rfl⟩ := hv
    refine ⟨?_, by simp [World.frozen?, hg]⟩
    rw [show w.cell? ⟨g, j, none⟩ = cur[j]? by simp [World.cell?, hg]]
    have : (xs.map (Value.int k))[j]? = cur[j]? := by
      rw [← ht, List.getElem?_take_of_lt (by omega)]; simp
    rw [← this]; exact getD_of_map hj

/-- The numbers of an element type: one cell, at most 8 bytes. -/
structure IntEl (P : Program) (t e : TypeId) (k : IntKind) : Prop where
  ht : P.underlying t = some (.slice e)
  he : ∃ (i : TypeInfo) (z : Value), P.info? e = some i ∧ i.zero = some z ∧ i.size = 1 ∧ i.bytes ≤ 8 ∧ z.cells.size = 1

theorem IntEl.of {P : Program} {t e : TypeId} {k : IntKind} {b : Nat} (ht : P.underlying t = some (.slice e)) (h : (P.info? e).map (fun i => (i.zero, i.size, i.bytes)) = some (some (.int k 0), 1, b)) (hb : b ≤ 8) : IntEl P t e k := by
  obtain ⟨i, hi, hz, h1, h2⟩ := info_parts h
  exact ⟨ht, i, _, hi, hz, h1, by omega, rfl⟩

/-- append(s, x...): s a row of the call's own, x any slice of the same kind. -/
theorem wp_appendI {P : Program} {w : World} {t e : TypeId} {k : IntKind} (E : IntEl P t e k) {o : Oper} {a : Act} {K : Act → World → Prop} {Q : Exit → Act → World → Prop} (s x : Operand)
    (ho : o.op = .call { callee := .builtin .append, args := #[s, x], argTypes := #[t, t] })
    (base : Nat) (xs ys : List Int) (v u : Value) (hs : a.eval s = v) (hx : a.eval x = u) (hown : Own base e k w v xs) (hsl : Sl k w u ys)
    (hbytes : xs.length + ys.length ≤ 17592186044416) (hbase : base ≤ w.heap.size)
    (h : ∀ v' w', Own base e k w' v' (xs ++ ys) → w.grownBy w' v.ownBlock → K (a.put o.dst v') w') : o.wp P a w K Q := by
  obtain ⟨i, z, hi, hz, hsz, hby, hzs⟩ := E.he
  obtain ⟨ad, cap, rfl, hl, hm, hn, hc⟩ := hsl
  cases ad with
  | none =>
    have h0 := hn rfl
    obtain rfl : ys = [] := List.eq_nil_of_length_eq_zero (by omega)
    subst h0
    have hrun := run_append_owned_none (P := P) (w := w) base t o.type e i 1 E.ht hi v xs.length _ hown
    have h' := h v w (by simpa using hown) ⟨rfl, rfl, rfl, Nat.le_refl _, fun _ _ _ => rfl⟩
    unfold Oper.wp
    simp [execOp, ho, resolve, invoke, builtin, hs, hx, hrun, Result.andThen]
    exact h'
  | some ad =>
    have hb : (xs.length + ys.length) * i.bytes ≤ 140737488355328 := by
      have := Nat.mul_le_mul hbytes hby
      omega
    refine wp_append_own w s x t ho base e i z 1 i.bytes E.ht hi hz hsz rfl hzs (by omega) v xs.length _ hs hown ad ys.length cap (ys.map (Value.int k)) hx (by simp) ?_ ?_ (by unfold maxLen; omega) hb hbase ?_
    · intro j u hj
      obtain ⟨h1, h2⟩ := List.getElem?_eq_some_iff.1 hj
      have hj' : j < ys.length := by simpa using h1
      obtain ⟨b, o, ha, hlt, hcell⟩ := hc (by omega)
      obtain rfl : ad = ⟨b, o, none⟩ := by simpa using ha
      rw [Go.WideShapes.add_plain, hcell j hj', ← h2]
      simp [List.getD, hj']
    · intro u hu
      obtain ⟨n, _, rfl⟩ := List.mem_map.1 hu
      rfl
    · intro v' w' hown' hgr _
      refine h v' w' ?_ hgr
      unfold Own
      rw [List.length_append, List.map_append]
      exact hown'

theorem wpList_appendI {P : Program} {w : World} {t e : TypeId} {k : IntKind} (E : IntEl P t e k) {ops : Array Oper} {rest : List Oper} {o : Oper} {a : Act} {Q : Exit → Act → World → Prop} (hw : Region.wanted o (yielded ops a.tmps) = true) (s x : Operand)
    (ho : o.op = .call { callee := .builtin .append, args := #[s, x], argTypes := #[t, t] })
    (base : Nat) (xs ys : List Int) (v u : Value) (hs : a.eval s = v) (hx : a.eval x = u) (hown : Own base e k w v xs) (hsl : Sl k w u ys)
    (hbytes : xs.length + ys.length ≤ 17592186044416) (hbase : base ≤ w.heap.size)
    (h : ∀ v' w', Own base e k w' v' (xs ++ ys) → w.grownBy w' v.ownBlock → wpList P ops Q rest (a.put o.dst v') w') : wpList P ops Q (o :: rest) a w :=
  wpList_step fun K hK => by
    rw [if_pos hw]
    exact wp_appendI E s x ho base xs ys v u hs hx hown hsl hbytes hbase fun v' w' h1 h2 => hK _ _ (h v' w' h1 h2)

/-- A new block of one number. -/
theorem Sl.one (k : IntKind) (w : World) (e : TypeId) (n : Int) : Sl k (w.alloc (.cells #[.int k n] e)) (.slice (some ⟨w.heap.size, 0, none⟩) 1 1) [n] := by
  refine ⟨some ⟨w.heap.size, 0, none⟩, 1, rfl, Nat.le_refl _, by unfold maxLen; omega, by simp, fun _ => ⟨w.heap.size, 0, rfl, by simp, fun i hi => ?_⟩⟩
  obtain rfl : i = 0 := by simpa using hi
  simp

/-- Behind an append to a row from base on, nothing below base is turned. -/
theorem Own.below {base : Nat} {e : TypeId} {k : IntKind} {w w' : World} {v : Value} {xs : List Int} (h : Own base e k w v xs) (hg : w.grownBy w' v.ownBlock) (hb : base ≤ w.heap.size) : Below base w w' := by
  refine (Below.refl base w).grown hg hb ?_
  intro r hr
  obtain ⟨_, h2⟩ := h
  rcases h2 with ⟨rfl, _⟩ | ⟨g, cap, cur, rfl, hbg, _⟩
  · simp [Value.ownBlock] at hr
  · simp [Value.ownBlock] at hr; omega

/-- The same as one step of a region that draws its order. -/
theorem step_appendI {P : Program} {w : World} {t e : TypeId} {k : IntKind} (E : IntEl P t e k) {ops : Array Oper} {o : Oper} {a : Act} {K : Act → World → Prop} {Q : Exit → Act → World → Prop} {F : Prop} (hw : Region.wanted o (yielded ops a.tmps) = true) (s x : Operand)
    (ho : o.op = .call { callee := .builtin .append, args := #[s, x], argTypes := #[t, t] })
    (base : Nat) (xs ys : List Int) (v u : Value) (hs : a.eval s = v) (hx : a.eval x = u) (hown : Own base e k w v xs) (hsl : Sl k w u ys)
    (hbytes : xs.length + ys.length ≤ 17592186044416) (hbase : base ≤ w.heap.size)
    (h : ∀ v' w', Own base e k w' v' (xs ++ ys) → Below base w w' → K (a.put o.dst v') w') : if Region.wanted o (yielded ops a.tmps) = true then Oper.wp P o a w K Q else F := by
  rw [if_pos hw]
  exact wp_appendI E s x ho base xs ys v u hs hx hown hsl hbytes hbase fun v' w' h1 h2 => h v' w' h1 (hown.below h2 hbase)

end Go.Proofs.Ytmfccaidgaelcaa.Old
namespace Go.Proofs.Ytmfccaidgaelcaa.Old
open Go.RowKit
open Go.Proofs.Ytmfccaidgaelcaa.Mk (I B)
theorem Sl.drop {k : IntKind} {w : World} {b o : Nat} {n cap : Nat} {xs : List Int} (h : Sl k w (.slice (some ⟨b, o, none⟩) n cap) xs) (m : Nat) (hm : m ≤ n) : Sl k w (.slice (some ⟨b, o + m, none⟩) (n - m) (cap - m)) (xs.drop m) := by
  obtain ⟨a', cap', he, h1, h2, h3, h4⟩ := h
  simp only [Value.slice.injEq] at he
  obtain ⟨rfl, rfl, rfl⟩ := he
  have hl : (xs.drop m).length = xs.length - m := by rw [List.length_drop]
  refine ⟨some ⟨b, o + m, none⟩, cap - m, by rw [hl], by omega, by omega, by simp, fun hp => ?_⟩
  rw [hl] at hp
  obtain ⟨b', o', he, hlt, hc⟩ := h4 (by omega)
  simp only [Option.some.injEq, Addr.mk.injEq, and_true] at he
  obtain ⟨rfl, rfl⟩ := he
  refine ⟨b, o + m, rfl, hlt, fun i hi => ?_⟩
  rw [hl] at hi
  rw [Nat.add_assoc, hc (m + i) (by omega)]
  simp [List.getD, List.getElem?_drop]
/-- The form of a slice that is not empty. -/
theorem Sl.form {k : IntKind} {w : World} {a : Option Addr} {n cap : Nat} {xs : List Int} (h : Sl k w (.slice a n cap) xs) : n = xs.length ∧ xs.length ≤ cap ∧ cap ≤ maxLen ∧ (0 < xs.length → ∃ b o, a = some ⟨b, o, none⟩ ∧ b < w.heap.size ∧ ∀ i, i < xs.length → w.cell? ⟨b, o + i, none⟩ = some (.int k (xs.getD i 0))) := by
  obtain ⟨a', cap', he, h1, h2, h3, h4⟩ := h
  simp only [Value.slice.injEq] at he
  obtain ⟨rfl, rfl, rfl⟩ := he
  exact ⟨rfl, h1, h2, h4⟩

set_option maxHeartbeats 400000 in
theorem place_any (n i : Int) (w : World) :
    Calls Try.prog 60 #[.int .i64 n, .int .i64 i] w fun e w' => e = .returned (.int .i64 (Mk.place n i)) ∧ w = w' := by
  by_cases h1 : 4096 < n
  · go_enter Try.func60, Try.ntmps60
    go_wp2
    go_ret
    exact ⟨by rw [show Mk.place n i = 2 from if_pos h1]; rfl, rfl⟩
  · by_cases h2 : i < 0
    · have d2 : decide (i < 0) = true := by simp; omega
      go_enter Try.func60, Try.ntmps60
      go_wp2
      go_ret
      exact ⟨by rw [show Mk.place n i = 1 from by unfold Mk.place; rw [if_neg (by omega), if_pos (.inl h2)]]; rfl, rfl⟩
    · have d2 : decide (i < 0) = false := by simp; omega
      by_cases h3 : n ≤ i
      · have d3 : decide (n ≤ i) = true := by simp; omega
        go_enter Try.func60, Try.ntmps60
        go_wp2
        go_ret
        exact ⟨by rw [show Mk.place n i = 1 from by unfold Mk.place; rw [if_neg (by omega), if_pos (.inr h3)]]; rfl, rfl⟩
      · have d3 : decide (n ≤ i) = false := by simp; omega
        go_enter Try.func60, Try.ntmps60
        go_wp2
        go_ret
        exact ⟨by rw [show Mk.place n i = 0 from by unfold Mk.place; rw [if_neg (by omega), if_neg (by omega)]]; rfl, rfl⟩

theorem drewB (w : World) (q : Nat) : Below w.heap.size w (w.drewN q) := ⟨rfl, rfl, rfl, Nat.le_refl _, fun _ _ => rfl⟩

end Go.Proofs.Ytmfccaidgaelcaa.Old
