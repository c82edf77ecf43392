/- Numerals: what a text of digits is read as. No program. -/
import Derived.Lib.AtoiAllCases
import Derived.Lib.ItoaMem
import Derived.Lib.Bytealg
import Derived.Laws.Strings
import Derived.Test.YtifeioddiddnoaaGreatDoorSbB
set_option linter.unusedVariables false
set_option linter.unusedSimpArgs false
namespace Go.Proofs.YtifeioddiddnoaaGreatDoor
namespace Rt
open Go Go.Lib
theorem dg_val {d : Nat} (h : d < 10) : (UInt8.ofNat (48 + d)).toNat = 48 + d := by
  show (48 + d) % 256 = 48 + d
  omega
theorem dec_small {n : Nat} (h : n < 10) : decDigits n = [UInt8.ofNat (48 + n)] := by rw [decDigits, dif_pos h]
theorem dec_big {n : Nat} (h : ¬ n < 10) : decDigits n = decDigits (n / 10) ++ [UInt8.ofNat (48 + n % 10)] := by rw [decDigits, dif_neg h]
theorem dec_dig (n : Nat) : ∀ c, c ∈ decDigits n → 48 ≤ c.toNat ∧ c.toNat ≤ 57 := by
  induction n using Nat.strongRecOn with
  | _ n ih =>
    intro c hc
    by_cases h : n < 10
    · rw [dec_small h, List.mem_singleton] at hc
      rw [hc, dg_val h]; omega
    · rw [dec_big h] at hc
      rcases List.mem_append.1 hc with h1 | h1
      · exact ih (n / 10) (by omega) c h1
      · rw [List.mem_singleton.1 h1, dg_val (by omega)]; omega
theorem dec_ne (n : Nat) : decDigits n ≠ [] := by
  by_cases h : n < 10
  · rw [dec_small h]; simp
  · rw [dec_big h]; simp
theorem pu_snoc : ∀ (l : List UInt8) (acc a : Nat) (c : UInt8), parseUint10 acc l = .ok a → parseUint10 acc (l ++ [c]) = parseUint10 a [c]
  | [], acc, a, c, h => by
    simp only [parseUint10] at h
    injection h with h
    subst h
    rfl
  | b :: l, acc, a, c, h => by
    rw [List.cons_append]
    rw [parseUint10] at h ⊢
    split at h
    · rename_i hb
      rw [if_pos hb]
      split at h
      · cases h
      · rename_i h1
        rw [if_neg h1]
        split at h
        · cases h
        · rename_i h2
          rw [if_neg h2]
          exact pu_snoc l _ a c h
    · cases h
theorem pu_dec (n : Nat) (hn : n < 18446744073709551616) : parseUint10 0 (decDigits n) = .ok n := by
  induction n using Nat.strongRecOn with
  | _ n ih =>
    by_cases h : n < 10
    · rw [dec_small h, parseUint10, if_pos (by rw [dg_val h]; omega), if_neg (by omega), if_neg (by rw [dg_val h]; omega), parseUint10, dg_val h]
      congr 1; omega
    · rw [dec_big h, pu_snoc _ _ _ _ (ih (n / 10) (by omega) (by omega)), parseUint10]
      have e := dg_val (d := n % 10) (by omega)
      rw [if_pos (by rw [e]; omega), if_neg (by omega), if_neg (by rw [e]; omega), parseUint10, e]
      congr 1; omega
theorem dec_head (n : Nat) : ∃ c l, decDigits n = c :: l ∧ 48 ≤ c.toNat ∧ c.toNat ≤ 57 := by
  cases h : decDigits n with
  | nil => exact absurd h (dec_ne n)
  | cons c l => exact ⟨c, l, rfl, dec_dig n c (by rw [h]; simp)⟩
theorem atoi_itoa (n : Int) (h : -9223372036854775808 ≤ n ∧ n ≤ 9223372036854775807) : atoiAll (itoa n) = .ok n := by
  unfold itoa
  by_cases hn : n < 0
  · rw [if_pos hn, atoiAll_minus, parseMag, if_neg (dec_ne _), pu_dec _ (by omega)]
    show (if _ then _ else _) = _
    rw [if_neg (by omega)]
    congr 1; omega
  · obtain ⟨c, l, e, h1, h2⟩ := dec_head n.toNat
    rw [if_neg hn, e, atoiAll_plain c l (by omega) (by omega), ← e, parseMag, if_neg (dec_ne _), pu_dec _ (by omega)]
    show (if _ then _ else _) = _
    rw [if_neg (by omega)]
    congr 1; omega
theorem index_none (c : UInt8) : ∀ (l : List UInt8), (∀ b, b ∈ l → b ≠ c) → indexByte l c = -1
  | [], _ => rfl
  | b :: l, h => by
    have h1 : (b == c) = false := by simpa using h b (by simp)
    rw [indexByte, h1, index_none c l (fun x hx => h x (by simp [hx]))]; rfl
theorem index_at (c : UInt8) (m : List UInt8) : ∀ (l : List UInt8), (∀ b, b ∈ l → b ≠ c) → indexByte (l ++ c :: m) c = (l.length : Int)
  | [], _ => by simp [indexByte]
  | b :: l, h => by
    have h1 : (b == c) = false := by simpa using h b (by simp)
    have h2 := index_at c m l (fun x hx => h x (by simp [hx]))
    have h3 : (((l.length : Nat) : Int) == -1) = false := by simp
    rw [List.cons_append, indexByte, h1, h2, h3]
    simp
theorem itoa_mem (n : Int) : ∀ b, b ∈ itoa n → b.toNat = 45 ∨ (48 ≤ b.toNat ∧ b.toNat ≤ 57) := by
  intro b hb
  unfold itoa at hb
  split at hb
  · rcases List.mem_cons.1 hb with h | h
    · rw [h]; exact .inl rfl
    · exact .inr (dec_dig _ b h)
  · exact .inr (dec_dig _ b hb)
theorem itoa_ne47 (n : Int) : ∀ b, b ∈ itoa n → b ≠ 47 := by
  intro b hb e
  have := itoa_mem n b hb
  rw [e] at this
  have e2 : (47 : UInt8).toNat = 47 := rfl
  omega
/-- What digits mean, the first ahead. -/
def valL (n : Nat) (l : List UInt8) : Nat := l.foldl (fun n c => 10 * n + (c.toNat - 48)) n
theorem valL_nil (n : Nat) : valL n [] = n := rfl
theorem valL_cons (n : Nat) (c : UInt8) (l : List UInt8) : valL n (c :: l) = valL (10 * n + (c.toNat - 48)) l := by unfold valL; rw [List.foldl_cons]
theorem valL_append : ∀ (l m : List UInt8) (n : Nat), valL n (l ++ m) = valL (valL n l) m
  | [], m, n => rfl
  | c :: l, m, n => by rw [List.cons_append, valL_cons, valL_cons, valL_append l m]
theorem valL_dec (n : Nat) : valL 0 (decDigits n) = n := by
  induction n using Nat.strongRecOn with
  | _ n ih =>
    by_cases h : n < 10
    · rw [dec_small h, valL_cons, valL_nil, dg_val h]; omega
    · rw [dec_big h, valL_append, ih (n / 10) (by omega), valL_cons, valL_nil, dg_val (by omega)]; omega
theorem valL_ge : ∀ (l : List UInt8) (n : Nat), n ≤ valL n l
  | [], n => Nat.le_refl _
  | c :: l, n => by rw [valL_cons]; exact Nat.le_trans (by omega) (valL_ge l _)
/-- What the reference reads of digits: k rounds are left, i digits have been read. -/
def readL : Nat → List UInt8 → Nat → Nat → Nat → Nat × Nat
  | 0, _, n, i, _ => (n, i)
  | _ + 1, [], n, i, _ => (n, i)
  | k + 1, c :: r, n, i, sz => if 48 ≤ c.toNat ∧ c.toNat ≤ 57 then (if 461168601842738790 < n then (0, sz) else readL k r (10 * n + (c.toNat - 48)) (i + 1) sz) else (n, i)
theorem readL_digits : ∀ (ds rest : List UInt8) (k n i sz : Nat), (∀ c, c ∈ ds → 48 ≤ c.toNat ∧ c.toNat ≤ 57) → ds.length ≤ k → valL n ds ≤ 4611686018427387904 → (∀ c r, rest = c :: r → ¬ (48 ≤ c.toNat ∧ c.toNat ≤ 57)) →
    readL k (ds ++ rest) n i sz = (valL n ds, i + ds.length)
  | [], rest, 0, n, i, sz, _, _, _, _ => rfl
  | [], [], k + 1, n, i, sz, _, _, _, _ => rfl
  | [], c :: r, k + 1, n, i, sz, _, _, _, h4 => by
    rw [List.nil_append, readL, if_neg (h4 c r rfl)]; rfl
  | c :: ds, rest, 0, n, i, sz, _, h, _, _ => by simp at h
  | c :: ds, rest, k + 1, n, i, sz, h1, h2, h3, h4 => by
    rw [valL_cons] at h3
    have := valL_ge ds (10 * n + (c.toNat - 48))
    rw [List.cons_append, readL, if_pos (h1 c (by simp)), if_neg (by omega), readL_digits ds rest k _ _ _ (fun x hx => h1 x (by simp [hx])) (by simpa using h2) h3 h4, valL_cons, List.length_cons, Nat.add_assoc, Nat.add_comm 1]
theorem readL_bounds : ∀ (k : Nat) (l : List UInt8) (n i sz : Nat), n ≤ 4611686018427387909 → i + l.length ≤ sz → (readL k l n i sz).1 ≤ 4611686018427387909 ∧ (readL k l n i sz).2 ≤ sz
  | 0, _, n, i, sz, h, h2 => ⟨h, by show i ≤ sz; omega⟩
  | _ + 1, [], n, i, sz, h, h2 => ⟨h, by show i ≤ sz; omega⟩
  | k + 1, c :: r, n, i, sz, h, h2 => by
    rw [readL]
    split
    · split
      · exact ⟨Nat.zero_le _, Nat.le_refl _⟩
      · simp only [List.length_cons] at h2
        exact readL_bounds k r _ _ sz (by omega) (by omega)
    · exact ⟨h, by show i ≤ sz; simp only [List.length_cons] at h2; omega⟩
end Rt
end Go.Proofs.YtifeioddiddnoaaGreatDoor
namespace Go.Proofs.YtifeioddiddnoaaGreatDoor
open Go
abbrev BA := ByteArray
theorem splitK_sp : ∀ (s : List UInt8) (k : Nat), s.count 32 ≤ k → Lib.splitK [32] 0 k s = splitSp s
  | [], k, _ => by cases k <;> simp [Lib.splitK, splitSp, Lib.index]
  | c :: l, k, h => by
    by_cases hc : c = 32
    · subst hc
      rw [List.count_cons_self] at h
      obtain ⟨k, rfl⟩ : ∃ j, k = j + 1 := ⟨k - 1, by omega⟩
      have ih := splitK_sp l k (by omega)
      have hi : Lib.index (32 :: l) [32] = 0 := by simp [Lib.index]
      rw [Lib.splitK, hi]
      simp [splitSp, ih]
    · rw [List.count_cons_of_ne hc] at h
      have ih := splitK_sp l k h
      have hi : Lib.index (c :: l) [32] = if Lib.index l [32] == -1 then -1 else Lib.index l [32] + 1 := by
        have : List.isPrefixOf [32] (c :: l) = false := by simp [List.isPrefixOf, Ne.symm hc]
        rw [Lib.index, this]; simp
      rw [splitSp, if_neg hc]
      cases k with
      | zero =>
        rw [Lib.splitK] at ih ⊢
        rw [← ih]
      | succ k =>
        rw [Lib.splitK] at ih ⊢
        rw [hi]
        by_cases hm : Lib.index l [32] = -1
        · rw [hm] at ih ⊢
          simp only [BEq.rfl, if_true] at ih ⊢
          rw [← ih]
        · have hge := Lib.index_ge l [32]
          obtain ⟨j, hj⟩ : ∃ j : Nat, Lib.index l [32] = j := ⟨(Lib.index l [32]).toNat, by omega⟩
          have e1 : ((j : Int) == -1) = false := by first | (simp; done) | (simp; omega)
          have e2 : ((j : Int) + 1 == -1) = false := by first | (simp; done) | (simp; omega)
          rw [hj] at ih ⊢
          simp only [e1, e2, Bool.false_eq_true, if_false] at ih ⊢
          rw [← ih]
          simp only [Int.toNat_natCast, show ((j : Int) + 1).toNat = j + 1 by omega, Nat.add_zero, List.length_cons, List.length_nil, List.take_succ_cons, List.drop_succ_cons]
/-- The words of a text. -/
def wordsB (s : BA) : List BA := (splitSp s.data.toList).map fun l => ⟨l.toArray⟩
theorem splitB_words (s : BA) : Lib.splitB ⟨#[32]⟩ 0 (Lib.countB s ⟨#[32]⟩) s = wordsB s := by
  have h := Lib.splitB_data ⟨#[32]⟩ 0 (Lib.countB s ⟨#[32]⟩) s
  have e : Lib.splitK [32] 0 (Lib.countB s ⟨#[32]⟩) s.data.toList = splitSp s.data.toList := splitK_sp _ _ (by
    show _ ≤ Lib.count s.data.toList [32]
    rw [Lib.count_one]; exact Nat.le_refl _)
  have h : (Lib.splitB ⟨#[32]⟩ 0 (Lib.countB s ⟨#[32]⟩) s).map (·.data.toList) = splitSp s.data.toList := h.trans e
  unfold wordsB
  rw [← h, List.map_map]
  conv => lhs; rw [← List.map_id (Lib.splitB ⟨#[32]⟩ 0 (Lib.countB s ⟨#[32]⟩) s)]
  apply List.map_congr_left
  intro x _
  simp
def itB (n : Int) : BA := ⟨(Lib.itoa n).toArray⟩
def nvF (w : BA) : Int := match Lib.atoiAll w.data.toList with
  | .ok v => v
  | .range => Lib.atoiSat w.data.toList
  | .syntax => 0
def okF (w : BA) : Bool := match Lib.atoiAll w.data.toList with
  | .ok _ => true
  | _ => false
def gvF (w : BA) : Bool := okF w && decide (itB (nvF w) = w)
theorem gvF_itB (n : Int) (h : -9223372036854775808 ≤ n ∧ n ≤ 9223372036854775807) : gvF (itB n) = true ∧ nvF (itB n) = n := by
  have e : Lib.atoiAll (itB n).data.toList = .ok n := Rt.atoi_itoa n h
  have e1 : nvF (itB n) = n := by unfold nvF; rw [e]
  unfold gvF okF
  rw [e1, e]
  simp
theorem gvF_true {w : BA} (h : gvF w = true) : w = itB (nvF w) := by
  unfold gvF at h
  rw [Bool.and_eq_true] at h
  exact (of_decide_eq_true h.2).symm
theorem nvF_rng (w : BA) : -9223372036854775808 ≤ nvF w ∧ nvF w ≤ 9223372036854775807 := by
  unfold nvF
  split
  · rename_i v h; exact Lib.atoiAll_bounds h
  · exact Lib.atoiSat_bounds _
  · omega
def wB (nm : BA) (b : Bool) (ws : List BA) : Bool := b && decide (ws.head? = some nm)
def nB (b : Bool) (ws : List BA) : Bool := b && (match ws.head? with | none => false | some w => gvF w)
def nN (ws : List BA) : Int := match ws.head? with | none => 0 | some w => nvF w
theorem nN_rng (ws : List BA) : -9223372036854775808 ≤ nN ws ∧ nN ws ≤ 9223372036854775807 := by
  unfold nN; split
  · omega
  · exact nvF_rng _
/-- What is read: a word with this name, or a number. -/
inductive Tk where
  | name (w : BA)
  | num
def runB : List Tk → Bool → List BA → Bool
  | [], b, _ => b
  | .name w :: f, b, ws => runB f (wB w b ws) ws.tail
  | .num :: f, b, ws => runB f (nB b ws) ws.tail
def runN : List Tk → List BA → List Int
  | [], _ => []
  | .name _ :: f, ws => runN f ws.tail
  | .num :: f, ws => nN ws :: runN f ws.tail
def runW : List Tk → List BA → List BA
  | [], ws => ws
  | _ :: f, ws => runW f ws.tail
def rend : List Tk → List Int → List BA
  | [], _ => []
  | .name w :: f, ns => w :: rend f ns
  | .num :: f, n :: ns => itB n :: rend f ns
  | .num :: _, [] => []
theorem runB_false : ∀ (f : List Tk) (ws : List BA), runB f false ws = false
  | [], _ => rfl
  | .name w :: f, ws => by unfold runB wB; exact runB_false f _
  | .num :: f, ws => by unfold runB nB; exact runB_false f _
theorem runB_true : ∀ (f : List Tk) (ws : List BA), runB f true ws = true → ws = rend f (runN f ws) ++ runW f ws
  | [], _, _ => rfl
  | .name w :: f, ws, h => by
    unfold runB wB at h
    cases ws with
    | nil => simp [runB_false] at h
    | cons x t =>
      by_cases hx : x = w
      · subst hx
        simp only [List.head?_cons, decide_true, Bool.and_self, List.tail_cons] at h
        simp only [runN, runW, rend, List.tail_cons, List.cons_append]
        rw [← runB_true f t h]
      · simp [hx, runB_false] at h
  | .num :: f, ws, h => by
    unfold runB nB at h
    cases ws with
    | nil => simp [runB_false] at h
    | cons x t =>
      simp only [List.head?_cons, Bool.true_and, List.tail_cons] at h
      cases hg : gvF x with
      | false => rw [hg, runB_false] at h; cases h
      | true =>
        rw [hg] at h
        have e := gvF_true hg
        simp only [runN, runW, rend, nN, List.head?_cons, List.tail_cons, List.cons_append]
        rw [← e, ← runB_true f t h]
def nums : List Tk → Nat
  | [] => 0
  | .name _ :: f => nums f
  | .num :: f => nums f + 1
theorem runB_rend : ∀ (f : List Tk) (ns : List Int) (ws : List BA), ns.length = nums f → (∀ n ∈ ns, -9223372036854775808 ≤ n ∧ n ≤ 9223372036854775807) → runB f true (rend f ns ++ ws) = true ∧ runN f (rend f ns ++ ws) = ns ∧ runW f (rend f ns ++ ws) = ws
  | [], ns, ws, h, _ => by
    cases ns with
    | nil => exact ⟨rfl, rfl, rfl⟩
    | cons _ _ => simp [nums] at h
  | .name w :: f, ns, ws, h, hr => by
    have ih := runB_rend f ns ws h hr
    simpa [runB, runN, runW, rend, wB] using ih
  | .num :: f, ns, ws, h, hr => by
    cases ns with
    | nil => simp [nums] at h
    | cons n ns =>
      have ih := runB_rend f ns ws (by simpa [nums] using h) (fun m hm => hr m (by simp [hm]))
      have hn := gvF_itB n (hr n (by simp))
      simpa [runB, runN, runW, rend, nB, nN, hn] using ih
def fmtH : List Tk := [.name ⟨#[115, 117, 109, 109, 97, 114, 121]⟩, .num, .name ⟨#[114, 101, 115]⟩, .num, .num, .name ⟨#[109, 111, 100]⟩, .num, .num, .name ⟨#[109, 97, 115, 107]⟩, .num, .name ⟨#[116, 104, 114, 111, 119, 115]⟩, .num, .name ⟨#[108, 111, 99, 107, 115]⟩, .num, .name ⟨#[108, 111, 97, 100, 115]⟩, .num, .name ⟨#[99, 111, 115, 116]⟩, .num]
def fmtP : List Tk := [.name ⟨#[112, 97, 105, 114]⟩, .num, .num]
def hdNs (s : Sy) : List Int := [s.id, s.res.lo, s.res.hi, s.res.m, s.res.r, s.res.mask, s.throws, s.locks, s.loads, s.cost]
def hdWs (s : Sy) : List BA := rend fmtH (hdNs s)
def prWs (l : List Pr) : List BA := l.flatMap fun p => rend fmtP [p.a, p.b]
theorem joinSp_cons (w : Wd8) : ∀ ws : List Wd8, joinSp (w :: ws) = w ++ ws.flatMap (fun x => 32 :: x)
  | [] => by simp [joinSp]
  | v :: ws => by rw [joinSp, joinSp_cons v ws]; simp
theorem text_join (s : Sy) : textB s = joinSp ((hdWs s ++ prWs s.pairs).map (·.data.toList)) := by
  have hp : ∀ l : List Pr, (prWs l).flatMap (fun x => 32 :: x.data.toList) = prT l := by
    intro l
    induction l with
    | nil => rfl
    | cons p l ih => simp only [prWs, prT, List.flatMap_cons, List.flatMap_append] at ih ⊢; rw [ih]; simp [rend, fmtP, putW, itB]
  unfold textB
  rw [← hp]
  simp only [hdWs, hdNs, fmtH, rend, List.cons_append, List.nil_append, List.map_cons, joinSp_cons, List.flatMap_cons, List.flatMap_map]
  simp [hdT, putW, itB]
theorem no_space (s : Sy) : ∀ w, w ∈ (hdWs s ++ prWs s.pairs).map (·.data.toList) → ∀ c, c ∈ w → c ≠ 32 := by
  have hi : ∀ n : Int, ∀ c, c ∈ (itB n).data.toList → c ≠ 32 := by
    intro n c hc h
    subst h
    have hc : (32 : UInt8) ∈ Lib.itoa n := by simpa [itB] using hc
    rcases Rt.itoa_mem n 32 hc with h | h
    · exact absurd h (by decide)
    · exact absurd h (by decide)
  intro w hw c hc
  rw [List.mem_map] at hw
  obtain ⟨x, hx, rfl⟩ := hw
  rw [List.mem_append] at hx
  rcases hx with hx | hx
  · simp only [hdWs, hdNs, fmtH, rend, List.mem_cons, List.not_mem_nil, or_false] at hx
    rcases hx with rfl | rfl | rfl | rfl | rfl | rfl | rfl | rfl | rfl | rfl | rfl | rfl | rfl | rfl | rfl | rfl | rfl | rfl
    all_goals first
      | exact hi _ c hc
      | (rintro rfl; revert hc; decide)
  · simp only [prWs, List.mem_flatMap, fmtP, rend, List.mem_cons, List.not_mem_nil, or_false] at hx
    obtain ⟨p, _, rfl | rfl | rfl⟩ := hx
    · rintro rfl; revert hc; decide
    · exact hi _ c hc
    · exact hi _ c hc
theorem text_words (s : Sy) : wordsB ⟨(textB s).toArray⟩ = hdWs s ++ prWs s.pairs := by
  unfold wordsB
  show (splitSp (textB s).toArray.toList).map _ = _
  rw [List.toList_toArray, text_join, split_join _ (by simp [hdWs, fmtH, rend]) (no_space s), List.map_map]
  conv => rhs; rw [← List.map_id (hdWs s ++ prWs s.pairs)]
  apply List.map_congr_left
  intro x _
  simp
theorem words_inj {a b : BA} (h : wordsB a = wordsB b) : a = b := by
  unfold wordsB at h
  have h2 : splitSp a.data.toList = splitSp b.data.toList := by
    have := congrArg (List.map (fun x : BA => x.data.toList)) h
    simpa [List.map_map, Function.comp_def] using this
  have h3 := congrArg joinSp h2
  rw [join_split, join_split] at h3
  exact ByteArray.ext (Array.toList_inj.1 h3)
theorem hdWs_len (s : Sy) : (hdWs s).length = 18 := rfl
theorem itB_inj {a b : Int} (ha : -9223372036854775808 ≤ a ∧ a ≤ 9223372036854775807) (hb : -9223372036854775808 ≤ b ∧ b ≤ 9223372036854775807) (h : itB a = itB b) : a = b := by
  have h1 := (gvF_itB a ha).2
  rw [h, (gvF_itB b hb).2] at h1
  exact h1.symm
end Go.Proofs.YtifeioddiddnoaaGreatDoor
