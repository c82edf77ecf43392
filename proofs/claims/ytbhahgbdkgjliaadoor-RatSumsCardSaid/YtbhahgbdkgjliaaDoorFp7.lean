/- Sums of fractions with small denominators. No program. -/
import Derived.Test.YtbhahgbdkgjliaaDoorFp6
set_option linter.unusedVariables false
set_option linter.unusedSimpArgs false
namespace Go.Proofs.YtbhahgbdkgjliaaDoor
namespace Rt
/-- A number of 27720ths, at most k times 32768. -/
def Sm (k : Nat) (q : Rat) : Prop := ∃ z : Int, q = Rat.divInt z 27720 ∧ z.natAbs ≤ k * 908328960
def sumQ : List Rat → Rat
  | [] => 0
  | x :: l => x + sumQ l
theorem sm_fit {k : Nat} {q : Rat} (h : Sm k q) (hk : k ≤ 1000) : Fit q := by
  obtain ⟨z, rfl, hz⟩ := h
  have e1 : (Rat.divInt z 27720).num.natAbs ≤ z.natAbs := by rw [new_num z 27720 (by decide), val_abs]; exact Nat.div_le_self _ _
  have e2 : (Rat.divInt z 27720).den ≤ (27720 : Int).natAbs := by rw [new_den z 27720 (by decide)]; exact Nat.div_le_self _ _
  have e3 : k * 908328960 ≤ 1000 * 908328960 := Nat.mul_le_mul_right _ hk
  have e4 : (27720 : Int).natAbs = 27720 := rfl
  unfold Fit M
  omega
theorem sm_zero (k : Nat) : Sm k 0 := ⟨0, by rw [Rat.zero_divInt], by simp⟩
theorem sm_add {j k : Nat} {a b : Rat} (ha : Sm j a) (hb : Sm k b) : Sm (j + k) (a + b) := by
  obtain ⟨x, rfl, hx⟩ := ha
  obtain ⟨y, rfl, hy⟩ := hb
  refine ⟨x + y, ?_, ?_⟩
  · rw [Rat.divInt_eq_div, Rat.divInt_eq_div, Rat.divInt_eq_div, Rat.intCast_add, Rat.div_def, Rat.div_def, Rat.div_def, Rat.add_mul]
  · rw [Nat.add_mul]; omega
theorem sm_new (n d : Int) (hn : n.natAbs ≤ 32768) (hd : 1 ≤ d ∧ d ≤ 12) : Sm 1 (Rat.divInt n d) := by
  have hdv : d ∣ 27720 := by
    obtain ⟨h1, h2⟩ := hd
    have : d = 1 ∨ d = 2 ∨ d = 3 ∨ d = 4 ∨ d = 5 ∨ d = 6 ∨ d = 7 ∨ d = 8 ∨ d = 9 ∨ d = 10 ∨ d = 11 ∨ d = 12 := by omega
    rcases this with h | h | h | h | h | h | h | h | h | h | h | h <;> subst h <;> decide
  obtain ⟨c, hc⟩ := hdv
  have c0 : c ≠ 0 := fun e => by rw [e] at hc; omega
  have cb : c.natAbs ≤ 27720 := by
    have h1 := Int.natAbs_mul d c
    rw [← hc] at h1
    have h2 : 1 * c.natAbs ≤ d.natAbs * c.natAbs := Nat.mul_le_mul_right _ (by omega)
    have h3 : (27720 : Int).natAbs = 27720 := rfl
    omega
  refine ⟨n * c, ?_, ?_⟩
  · rw [hc, Rat.divInt_mul_right c0]
  · rw [Int.natAbs_mul]
    have := Nat.mul_le_mul hn cb
    omega
theorem sm_sum : ∀ (l : List Rat), (∀ x, x ∈ l → Sm 1 x) → Sm l.length (sumQ l)
  | [], _ => sm_zero 0
  | x :: l, h => by
    have := sm_add (h x (by simp)) (sm_sum l (fun y hy => h y (by simp [hy])))
    rw [Nat.add_comm] at this
    exact this
theorem sumF_eq : ∀ (l : List Rat) (s : Rat) (k : Nat), Sm k s → (∀ x, x ∈ l → Sm 1 x) → k + l.length ≤ 1000 → sumF s l = ok (s + sumQ l)
  | [], s, k, _, _, _ => by rw [sumF, sumQ, Rat.add_zero]
  | x :: l, s, k, hs, hl, hk => by
    rw [List.length_cons] at hk
    have h1 := sm_add hs (hl x (by simp))
    rw [sumF, if_pos (sm_fit h1 (by omega)), sumF_eq l _ (k + 1) h1 (fun y hy => hl y (by simp [hy])) (by omega), sumQ, Rat.add_assoc]
theorem sumF0 (l : List Rat) (hl : ∀ x, x ∈ l → Sm 1 x) (hk : l.length ≤ 1000) : sumF 0 l = ok (sumQ l) := by
  rw [sumF_eq l 0 0 (sm_zero 0) hl (by omega), Rat.zero_add]
theorem sumQ_append : ∀ (l m : List Rat), sumQ (l ++ m) = sumQ l + sumQ m
  | [], m => by rw [List.nil_append, sumQ, Rat.zero_add]
  | x :: l, m => by rw [List.cons_append, sumQ, sumQ, sumQ_append l m, Rat.add_assoc]
theorem sumQ_reverse : ∀ (l : List Rat), sumQ l.reverse = sumQ l
  | [] => rfl
  | x :: l => by rw [List.reverse_cons, sumQ_append, sumQ_reverse l, sumQ, sumQ, sumQ, Rat.add_zero, Rat.add_comm]
theorem sumQ_split (l : List Rat) (i : Nat) : sumQ (l.take i) + sumQ (l.drop i) = sumQ l := by rw [← sumQ_append, List.take_append_drop]
theorem sumQ_same (x : Rat) : ∀ (n : Nat), sumQ (List.replicate n x) = x * ((n : Int) : Rat)
  | 0 => by rw [List.replicate_zero, sumQ]; exact (Rat.mul_zero x).symm
  | n + 1 => by
    rw [List.replicate_succ, sumQ, sumQ_same x n, Int.natCast_add, Rat.intCast_add, Rat.mul_add]
    rw [show (((1 : Nat) : Int) : Rat) = 1 from rfl, Rat.mul_one, Rat.add_comm]
end Rt
end Go.Proofs.YtbhahgbdkgjliaaDoor
