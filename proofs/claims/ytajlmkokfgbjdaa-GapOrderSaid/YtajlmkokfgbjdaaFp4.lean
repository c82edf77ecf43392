/- Plain laws of gaps for the statements on assignments, conditions and shifts; how arguments are opened. No conditions. -/
import Derived.DataShut
import Derived.Test.YtajlmkokfgbjdaaFp3
import Derived.Test.YtajlmkokfgbjdaaFc6
import Derived.Test.YtajlmkokfgbjdaaAbsD
set_option linter.unusedVariables false
set_option linter.unusedSimpArgs false
namespace Go.Proofs.Ytajlmkokfgbjdaa
open Go.RowKit
namespace Gp
variable {g h k : List (List Int)} {n p : Nat}
theorem less_ok {out : List (List Int)} (a : Ok out n p) (x y : Nat) (k : Int) : Ok (less out g x y k) n p := a.tab fun i _ j _ => by
  split
  · exact inR_min (a.fine i j) (inR_sum _ _)
  · exact a.fine i j
theorem less_at {out : List (List Int)} (a : Ok out n p) {x y : Nat} {k : Int} {i j : Nat} (hi : i < n) (hj : j < p) : at_ (less out g x y k) i j = if i = x then min (at_ out i j) (sum (at_ g y j) k) else at_ out i j := a.at _ hi hj
theorem less_leq {out : List (List Int)} (a : Ok out n p) (x y : Nat) (k : Int) : leq (less out g x y k) out = true := (less_ok a x y k).leq.2 fun i hi j hj => by
  rw [less_at a hi hj]; split <;> omega
/-- What is known of values, moved by a number. -/
theorem sum_has {a k d e : Int} (h : d ≤ a) (he : e ≤ d + k) (hb : e ≤ 1099511627776) : e ≤ sum a k := by
  unfold sum; split <;> omega
theorem less_has {out : List (List Int)} (a : Ok out n p) (b : Ok g n p) {x y : Nat} {k : Int} {v : List Int} (hy : y < n) (hb : ∀ i, -2147483648 ≤ v.getD i 0 ∧ v.getD i 0 ≤ 2147483647) (h1 : has out v = true) (h2 : has g v = true) (hk : v.getD x 0 - v.getD y 0 ≤ k) : has (less out g x y k) v = true :=
  (less_ok a x y k).has.2 fun i hi j hj => by
    rw [less_at a hi hj]
    have e1 := a.has.1 h1 i hi j hj
    split
    · rename_i hx; subst hx
      have e2 := b.has.1 h2 y hy j hj
      have b1 := hb i
      have b2 := hb j
      have : v.getD i 0 - v.getD j 0 ≤ sum (at_ g y j) k := sum_has e2 (by omega) (by omega)
      omega
    · exact e1
theorem whole_spec {v : List Int} {x : X} {w c : Int} (hs : shift v.length x = some (w, c)) (hw : whole v x = true) : -2147483648 ≤ v.getD w.toNat 0 + c ∧ v.getD w.toNat 0 + c ≤ 2147483647 ∧ evalX v x = v.getD w.toNat 0 + c := by
  unfold whole at hw
  rw [hs] at hw
  simp only [Bool.and_eq_true, decide_eq_true_eq] at hw
  exact ⟨hw.1.1, hw.1.2, hw.2⟩
theorem assume_law (a : Ok g n p) {v : List Int} (hv : v.length = n) (hb : ∀ i, -2147483648 ≤ v.getD i 0 ∧ v.getD i 0 ≤ 2147483647) (hh : has g v = true) (op : Int) (ho : op = 2 ∨ op = 3 ∨ op = 4) (x y : X) :
    has (assume_ g op (holds op (evalX v x) (evalX v y)) x y (whole v x) (whole v y)) v = true ∧ leq (assume_ g op (holds op (evalX v x) (evalX v y)) x y (whole v x) (whole v y)) g = true ∧
      Ok (assume_ g op (holds op (evalX v x) (evalX v y)) x y (whole v x) (whole v y)) n p := by
  have base : has g v = true ∧ leq g g = true ∧ Ok g n p := ⟨hh, leq_refl a, a⟩
  unfold assume_
  split
  · rename_i x' xc y' yc hx hy
    split
    · rename_i hw
      rw [a.len, ← hv] at hx hy
      obtain ⟨_, _, ex⟩ := whole_spec hx hw.1
      obtain ⟨_, _, ey⟩ := whole_spec hy hw.2
      have bx := shift_bounds hx
      have bY := shift_bounds hy
      have lx : x'.toNat < n := by omega
      have ly : y'.toNat < n := by omega
      have one : ∀ (u w : Nat) (k : Int), w < n → v.getD u 0 - v.getD w 0 ≤ k → has (less g g u w k) v = true ∧ leq (less g g u w k) g = true ∧ Ok (less g g u w k) n p := fun u w k hw hk => ⟨less_has a a hw hb hh hh hk, less_leq a u w k, less_ok a u w k⟩
      rw [ex, ey]
      rcases ho with rfl | rfl | rfl
      · unfold holds
        simp only [if_true, true_and]
        by_cases hc : v.getD x'.toNat 0 + xc < v.getD y'.toNat 0 + yc
        · rw [if_pos (decide_eq_true hc)]
          exact one _ _ _ ly (by omega)
        · rw [if_neg (by simp only [decide_eq_true_eq]; exact hc)]
          exact one _ _ _ lx (by omega)
      · unfold holds
        simp only [show ¬ (3 : Int) = 2 from by decide, if_false, if_true, true_and, false_and]
        by_cases hc : v.getD x'.toNat 0 + xc ≤ v.getD y'.toNat 0 + yc
        · rw [if_pos (decide_eq_true hc)]
          exact one _ _ _ ly (by omega)
        · rw [if_neg (by simp only [decide_eq_true_eq]; exact hc)]
          exact one _ _ _ lx (by omega)
      · unfold holds
        simp only [show ¬ (4 : Int) = 2 from by decide, show ¬ (4 : Int) = 3 from by decide, if_false, false_and, true_and]
        by_cases hc : v.getD x'.toNat 0 + xc = v.getD y'.toNat 0 + yc
        · rw [if_pos (decide_eq_true hc)]
          have o1 := one x'.toNat y'.toNat (yc - xc) ly (by omega)
          refine ⟨less_has o1.2.2 a lx hb o1.1 hh (by omega), ?_, less_ok o1.2.2 _ _ _⟩
          exact leq_trans (less_ok o1.2.2 _ _ _) (less_leq o1.2.2 _ _ _) o1.2.2 o1.2.1
        · rw [if_neg (by simp only [decide_eq_true_eq]; exact hc)]
          exact base
    · exact base
  · exact base
theorem set_ok (a : Ok g n p) (V : Int) (x : X) (w : Bool) : Ok (set_ g V x w) n p := a.tab fun i _ j _ => by
  split
  · unfold shiftTo
    split
    · split
      · exact inR_sum _ _
      · rfl
    · rfl
  · exact a.fine i j
theorem set_at (a : Ok g n p) (V : Int) (x : X) (w : Bool) {i j : Nat} (hi : i < n) (hj : j < p) : at_ (set_ g V x w) i j = if (i : Int) = V then shiftTo g (shift g.length x) w j else at_ g i j := a.at _ hi hj
theorem set_law (a : Ok g n p) {v : List Int} (hv : v.length = n) (hb : ∀ i, -2147483648 ≤ v.getD i 0 ∧ v.getD i 0 ≤ 2147483647) (hh : has g v = true) (V : Nat) (hV : p ≤ V) (hn : V < n) (x : X) (he : -2147483648 ≤ evalX v x ∧ evalX v x ≤ 2147483647) :
    has (set_ g V x (whole v x)) (v.set V (evalX v x)) = true := (set_ok a V x _).has.2 fun i hi j hj => by
  rw [set_at a _ _ _ hi hj]
  have hjV : j ≠ V := by omega
  have ej : (v.set V (evalX v x)).getD j 0 = v.getD j 0 := by
    rw [List.getD_eq_getElem?_getD, List.getElem?_set_ne (fun e => hjV e.symm), List.getD_eq_getElem?_getD]
  rw [ej]
  have b2 := hb j
  by_cases hiV : i = V
  · subst hiV
    have ei : (v.set i (evalX v x)).getD i 0 = evalX v x := by
      rw [List.getD_eq_getElem?_getD, List.getElem?_set_self (by omega)]; rfl
    rw [ei, if_pos rfl]
    unfold shiftTo
    rw [a.len, ← hv]
    split
    · rename_i w c hs
      split
      · rename_i hw
        obtain ⟨_, _, ex⟩ := whole_spec hs hw
        have bw := shift_bounds hs
        have e2 := a.has.1 hh w.toNat (by omega) j hj
        exact sum_has e2 (by omega) (by omega)
      · omega
    · omega
  · have ei : (v.set V (evalX v x)).getD i 0 = v.getD i 0 := by
      rw [List.getD_eq_getElem?_getD, List.getElem?_set_ne (fun e => hiV e.symm), List.getD_eq_getElem?_getD]
    rw [ei, if_neg (by omega)]
    exact a.has.1 hh i hi j hj
theorem elem_bounds (v : List Int) (m : Int) : -2147483648 ≤ elem v m ∧ elem v m ≤ 2147483647 := by
  unfold elem; split
  · decide
  · exact wrap_bounds _
theorem leafE_bounds (v : List Int) (l : Leaf) : -2147483648 ≤ leafE v l ∧ leafE v l ≤ 2147483647 := by
  unfold leafE; split
  · exact wrap_bounds _
  · exact elem_bounds v _
theorem evalX_bounds (v : List Int) (x : X) : -2147483648 ≤ evalX v x ∧ evalX v x ≤ 2147483647 := by
  unfold evalX; split
  · exact leafE_bounds v _
  · exact wrap_bounds _
theorem bits_and255 (v : Int) : 0 ≤ bits .and .i64 v 255 ∧ bits .and .i64 v 255 ≤ 255 := by
  have e : bits .and .i64 v 255 = IntKind.i64.wrap (((BitVec.ofInt 64 v &&& BitVec.ofInt 64 255).toNat : Nat) : Int) := rfl
  have h : (BitVec.ofInt 64 v &&& BitVec.ofInt 64 255).toNat ≤ 255 := by
    rw [BitVec.toNat_and]
    exact Nat.le_trans Nat.and_le_right (by decide)
  rw [e, Go.Abs.wrap_i64 (by omega)]
  omega
theorem clip_bounds (v : Int) {n : Nat} (h0 : 0 < n) : 0 ≤ clip v n ∧ clip v n < n := by
  have h := bits_and255 v
  unfold clip
  rw [Int.tmod_eq_emod_of_nonneg h.1]
  exact ⟨Int.emod_nonneg _ (by omega), Int.emod_lt_of_pos _ (by omega)⟩
end Gp
namespace Gp
/-- Within the range of bounds, infinity aside. -/
def inM (n : Int) : Bool := decide (-17179869184 ≤ n) && decide (n ≤ 17179869184)
def sg (i : Nat) (x : Int) : Int := if i % 2 = 1 then -x else x
/-- The gaps after i steps: where the last value is, the sum of the shifts, and whether it was always in range. -/
structure Sh (q i : Nat) (g : List (List Int)) (a : Nat) (s : Int) (kn : Bool) : Prop where
  ok : Ok g 5 3
  lt : a < 5
  first : i = 0 → a = q ∧ g = new 5 3 ∧ s = 0
  next : 0 < i → 3 ≤ a
  small : -(i * 2147483648 : Int) ≤ s ∧ s ≤ i * 2147483648
  known : kn = true → -17179869184 ≤ s ∧ s ≤ 17179869184
  row : ∀ j, j < 3 → at_ g a j = if j = q ∧ kn = true then s else 1099511627776
theorem Sh.start (q : Nat) (hq : q < 3) : Sh q 0 (new 5 3) q 0 true := by
  refine ⟨new_ok 5 3, by omega, fun _ => ⟨rfl, rfl, rfl⟩, fun h => absurd h (by decide), by omega, fun _ => by omega, fun j hj => ?_⟩
  rcases q with _ | _ | _ | q <;> rcases j with _ | _ | _ | j <;> first | rfl | omega
theorem shift_plus {a : Nat} {c : Int} (ha : a < 5) (hc : -2147483648 ≤ c ∧ c ≤ 2147483648) : shift 5 (plus a c) = some ((a : Int), c) := by
  have h1 : isVar 5 (var a) = true := decide_eq_true ⟨rfl, by show (0 : Int) ≤ a; omega, by show (a : Int) < 5; omega⟩
  have h2 : isNum (num c) = true := decide_eq_true ⟨rfl, hc⟩
  show (if isVar 5 ((4, 0, 0) : Leaf) = true then _ else _) = _
  rw [if_neg (by decide)]
  show shift2 4 5 (var a) (num c) = _
  unfold shift2
  rw [if_pos ⟨⟨rfl, h1⟩, h2⟩]; rfl
theorem shift_minus {a : Nat} {c : Int} (ha : a < 5) (hc : -2147483648 ≤ c ∧ c ≤ 2147483648) : shift 5 (minus a c) = some ((a : Int), -c) := by
  have h1 : isVar 5 (var a) = true := decide_eq_true ⟨rfl, by show (0 : Int) ≤ a; omega, by show (a : Int) < 5; omega⟩
  have h2 : isNum (num c) = true := decide_eq_true ⟨rfl, hc⟩
  show (if isVar 5 ((5, 0, 0) : Leaf) = true then _ else _) = _
  rw [if_neg (by decide)]
  show shift2 5 5 (var a) (num c) = _
  unfold shift2
  rw [if_neg (fun h => absurd h.1.1 (by decide)), if_neg (fun h => absurd h.1.1 (by decide)), if_pos ⟨⟨rfl, h1⟩, h2⟩]; rfl
theorem Sh.step {q i a : Nat} {g : List (List Int)} {s : Int} {kn : Bool} (h : Sh q i g a s kn) (hi : i < 20) (b : Nat) (h3 : 3 ≤ b) (hb : b < 5) (c : Int) (hc : -2147483648 ≤ c ∧ c ≤ 2147483648) {x : X} (hx : shift 5 x = some ((a : Int), c)) :
    Sh q (i + 1) (set_ g b x true) b (s + c) (kn && inM (s + c)) := by
  have hs := h.small
  refine ⟨set_ok h.ok _ _ _, hb, fun e => absurd e (by omega), fun _ => h3, by omega, fun e => ?_, fun j hj => ?_⟩
  · simp only [Bool.and_eq_true, inM, decide_eq_true_eq] at e
    exact e.2
  · rw [set_at h.ok _ _ _ hb hj, if_pos rfl, h.ok.len]
    show shiftTo g (shift 5 x) true j = _
    rw [hx]
    show (if true = true then sum (at_ g (a : Int).toNat j) c else 1099511627776) = _
    rw [if_pos rfl, Int.toNat_natCast, h.row j hj]
    by_cases e : j = q ∧ kn = true
    · rw [if_pos e]
      have hk := h.known e.2
      unfold sum
      by_cases hr : inM (s + c) = true
      · have hr' := hr
        simp only [Bool.and_eq_true, inM, decide_eq_true_eq] at hr'
        rw [if_neg (by
          rintro (h1 | h1)
          · omega
          · rw [inR_of (.inr hr')] at h1; cases h1), if_pos ⟨e.1, by rw [e.2, hr]; rfl⟩]
      · have hn : inR (s + c) = false := by
          cases hh : inR (s + c) with
          | false => rfl
          | true =>
            have := of_decide_eq_true (show decide _ = true from hh)
            simp only [Bool.and_eq_true, inM, decide_eq_true_eq] at hr
            omega
        rw [if_pos (.inr hn), if_neg (fun e2 => by
          have := e2.2
          simp only [Bool.and_eq_true] at this
          exact hr this.2)]
    · rw [if_neg e]
      unfold sum
      rw [if_pos (.inl rfl), if_neg (fun e2 => e ⟨e2.1, by have := e2.2; simp only [Bool.and_eq_true] at this; exact this.1⟩)]
end Gp
open Go.Abs Go
def inputA (V P : Nat) (N L M : List Int) : A := .agg [.val (.int .u8 V), .val (.int .u8 P), rdI .i64 N, rdI .i32 L, rdI .u8 M]
def stepC (z : Gp.Step) : List A := [.val (.int .i64 z.op), .val (.int .i64 z.v), .val (.int .i64 z.w), .val (.int .i64 z.u), .val (.int .i64 z.c), .val (.int .i64 z.d), .val (.int .u8 z.f0), .val (.int .u8 z.f1), .val (.bool z.holds), .val (.bool z.w0), .val (.bool z.w1)]
theorem Gp.Ok.valid {g : List (List Int)} {n p : Nat} (a : Gp.Ok g n p) : Gp.valid g n p = true := by
  unfold Gp.valid
  rw [Bool.and_eq_true, List.all_eq_true]
  refine ⟨decide_eq_true (by rw [a.len]), fun r hr => ?_⟩
  obtain ⟨i, hi, rfl⟩ := List.getElem_of_mem hr
  have e : g[i] = g.getD i [] := by rw [List.getD_eq_getElem?_getD, List.getElem?_eq_getElem hi]; rfl
  rw [Bool.and_eq_true]
  refine ⟨decide_eq_true (by rw [e, a.row (by rw [a.len] at hi; exact hi)]), ?_⟩
  unfold Gp.rowOk
  rw [List.all_eq_true]
  intro z hz
  obtain ⟨j, hj, rfl⟩ := List.getElem_of_mem hz
  have := a.fine i j
  unfold Gp.at_ at this
  rw [← e, List.getD_eq_getElem?_getD, List.getElem?_eq_getElem hj] at this
  exact this
theorem tmod_lt {a b : Int} (ha : 0 ≤ a) (hb : 0 < b) : 0 ≤ a.tmod b ∧ a.tmod b < b := ⟨Int.tmod_nonneg _ ha, Int.tmod_lt_of_pos _ hb⟩
section
variable {P : Program}
theorem ints_of {t e : TypeId} {k : IntKind} {d : Dd} (hu : P.underlying t = some (.slice e)) (he : P.underlying e = some (.int k)) (h : Dd.Ty P t d) :
    ∃ xs : List Int, d.aw = rdI k xs ∧ d.cells = [rdI k xs] ∧ xs.length ≤ 9223372036854775807 ∧ ∀ x, x ∈ xs → (Lit.int k x).wf = true := by
  obtain ⟨xs, h1, h2, h3⟩ := h.ints_inv hu he
  obtain ⟨l, rfl, _, _⟩ := h.sl_inv hu
  refine ⟨xs, ?_, h1, h2, h3⟩
  simpa [Dd.cells, Dd.aw] using h1
theorem wf_getD {k : IntKind} {lo hi : Int} (hlo : k.min = lo) (hhi : k.max = hi) (h0 : lo ≤ 0) (h1 : 0 ≤ hi) {xs : List Int} (h : ∀ x, x ∈ xs → (Lit.int k x).wf = true) (i : Nat) : lo ≤ xs.getD i 0 ∧ xs.getD i 0 ≤ hi := by
  rw [List.getD_eq_getElem?_getD]
  cases hi' : xs[i]? with
  | none => exact ⟨h0, h1⟩
  | some x =>
    have := (Lit.wf_int_iff _ _).1 (h x (List.mem_of_getElem? hi'))
    rw [hlo, hhi] at this
    exact this
theorem i32_getD {xs : List Int} (h : ∀ x, x ∈ xs → (Lit.int .i32 x).wf = true) (i : Nat) : -2147483648 ≤ xs.getD i 0 ∧ xs.getD i 0 ≤ 2147483647 := wf_getD (by decide) (by decide) (by decide) (by decide) h i
theorem u8_getD {xs : List Int} (h : ∀ x, x ∈ xs → (Lit.int .u8 x).wf = true) (i : Nat) : 0 ≤ xs.getD i 0 ∧ xs.getD i 0 ≤ 255 := wf_getD (by decide) (by decide) (by decide) (by decide) h i
theorem u8N {z : Int} (h : (Lit.int .u8 z).wf = true) : ∃ n : Nat, z = n ∧ n < 256 := by
  have h' := (Lit.wf_int_iff _ _).1 h
  have e0 : IntKind.u8.min = 0 := by decide
  have e1 : IntKind.u8.max = 255 := by decide
  exact ⟨z.toNat, by omega, by omega⟩
end
theorem raw_of {d : Dd} (h : Dd.Ty Try.prog 24 d) : ∃ (V P : Nat) (N : List Int), d.aw = rawA V P N ∧ d.cells = [.val (.int .u8 V), .val (.int .u8 P), rdI .i64 N] ∧ V < 256 ∧ P < 256 ∧ N.length ≤ 9223372036854775807 := by
  obtain ⟨a, b, c, rfl, h1, h2, h3⟩ := h.st3 Try.underlying24
  obtain ⟨v, rfl, w1⟩ := h1.int_inv Try.underlying5
  obtain ⟨p, rfl, w2⟩ := h2.int_inv Try.underlying5
  obtain ⟨N, _, e, l, _⟩ := ints_of Try.underlying22 Try.underlying3 h3
  obtain ⟨V, rfl, hV⟩ := u8N w1
  obtain ⟨P, rfl, hP⟩ := u8N w2
  exact ⟨V, P, N, by simp [Dd.aw, Dd.cellsL, Dd.cells, e, rawA], by simp [Dd.cells, Dd.cellsL, e], hV, hP, l⟩
theorem input_of {d : Dd} (h : Dd.Ty Try.prog 28 d) : ∃ (V P : Nat) (N L M : List Int), d.aw = inputA V P N L M ∧ V < 256 ∧ P < 256 ∧ N.length ≤ 9223372036854775807 ∧ L.length ≤ 9223372036854775807 ∧ M.length ≤ 9223372036854775807 ∧
    (∀ i, -2147483648 ≤ L.getD i 0 ∧ L.getD i 0 ≤ 2147483647) ∧ (∀ i, 0 ≤ M.getD i 0 ∧ M.getD i 0 ≤ 255) := by
  obtain ⟨a, b, c, rfl, h1, h2, h3⟩ := h.st3 Try.underlying28
  obtain ⟨V, P, N, _, e1, hV, hP, l1⟩ := raw_of h1
  obtain ⟨L, _, e2, l2, w2⟩ := ints_of Try.underlying25 Try.underlying21 h2
  obtain ⟨M, _, e3, l3, w3⟩ := ints_of Try.underlying26 Try.underlying5 h3
  exact ⟨V, P, N, L, M, by simp [Dd.aw, Dd.cellsL, e1, e2, e3, inputA], hV, hP, l1, l2, l3, i32_getD w2, u8_getD w3⟩
theorem st9 {P : Program} {t : TypeId} {f0 f1 f2 f3 f4 f5 f6 f7 f8 : Field} {d : Dd} (hu : P.underlying t = some (.struct #[f0, f1, f2, f3, f4, f5, f6, f7, f8])) (h : Dd.Ty P t d) :
    ∃ a0 a1 a2 a3 a4 a5 a6 a7 a8, d = .agg [a0, a1, a2, a3, a4, a5, a6, a7, a8] ∧ Dd.Ty P f0.type a0 ∧ Dd.Ty P f1.type a1 ∧ Dd.Ty P f2.type a2 ∧ Dd.Ty P f3.type a3 ∧ Dd.Ty P f4.type a4 ∧ Dd.Ty P f5.type a5 ∧ Dd.Ty P f6.type a6 ∧ Dd.Ty P f7.type a7 ∧ Dd.Ty P f8.type a8 := by
  obtain ⟨l, rfl, h1, h2⟩ := h.st_inv hu
  match l, h1 with
  | [a0, a1, a2, a3, a4, a5, a6, a7, a8], _ => exact ⟨a0, a1, a2, a3, a4, a5, a6, a7, a8, rfl, h2 0 _ _ rfl rfl, h2 1 _ _ rfl rfl, h2 2 _ _ rfl rfl, h2 3 _ _ rfl rfl, h2 4 _ _ rfl rfl, h2 5 _ _ rfl rfl, h2 6 _ _ rfl rfl, h2 7 _ _ rfl rfl, h2 8 _ _ rfl rfl⟩
theorem arr2 {P : Program} {t e : TypeId} {d : Dd} (hu : P.underlying t = some (.array 2 e)) (h : Dd.Ty P t d) : ∃ a b, d = .agg [a, b] ∧ Dd.Ty P e a ∧ Dd.Ty P e b := by
  obtain ⟨l, rfl, h1, h2⟩ := h.arr_inv hu
  match l, h1 with
  | [a, b], _ => exact ⟨a, b, rfl, h2 a (by simp), h2 b (by simp)⟩
theorem step_of {d : Dd} (h : Dd.Ty Try.prog 32 d) : ∃ z : Gp.Step, d.aw = stepA z ∧ z.f0 < 256 ∧ z.f1 < 256 := by
  obtain ⟨a0, a1, a2, a3, a4, a5, a6, a7, a8, rfl, h0, h1, h2, h3, h4, h5, h6, h7, h8⟩ := st9 Try.underlying32 h
  obtain ⟨x0, rfl, _⟩ := h0.int_inv Try.underlying3
  obtain ⟨x1, rfl, _⟩ := h1.int_inv Try.underlying3
  obtain ⟨x2, rfl, _⟩ := h2.int_inv Try.underlying3
  obtain ⟨x3, rfl, _⟩ := h3.int_inv Try.underlying3
  obtain ⟨x4, rfl, _⟩ := h4.int_inv Try.underlying3
  obtain ⟨x5, rfl, _⟩ := h5.int_inv Try.underlying3
  obtain ⟨a, b, rfl, g0, g1⟩ := arr2 Try.underlying29 h6
  obtain ⟨y0, rfl, w0⟩ := g0.int_inv Try.underlying5
  obtain ⟨y1, rfl, w1⟩ := g1.int_inv Try.underlying5
  obtain ⟨y2, rfl⟩ := h7.bool_inv Try.underlying4
  obtain ⟨a, b, rfl, g2, g3⟩ := arr2 Try.underlying30 h8
  obtain ⟨y3, rfl⟩ := g2.bool_inv Try.underlying4
  obtain ⟨y4, rfl⟩ := g3.bool_inv Try.underlying4
  obtain ⟨n0, rfl, b0⟩ := u8N w0
  obtain ⟨n1, rfl, b1⟩ := u8N w1
  exact ⟨⟨x0, x1, x2, x3, x4, x5, n0, n1, y2, y3, y4⟩, rfl, b0, b1⟩
abbrev Says (F : FuncId) (vs : Array Value) (W : World) : Prop := Calls Try.prog F vs W fun e w' => e = .returned (.bool true) ∧ Below W.heap.size W w'
end Go.Proofs.Ytajlmkokfgbjdaa
