/- A valid fraction of any two numbers. No conditions. -/
import Derived.Test.YtbhahgbdkgjliaaGreatDoorR11
set_option linter.unusedVariables false
set_option linter.unusedSimpArgs false
namespace Go.Proofs.YtbhahgbdkgjliaaGreatDoor
open Go.Abs Go Go.RowKit
namespace Rt
def half0 (d : Int) : Int := if d.tdiv 2 = 0 then 1 else d.tdiv 2
def madeF : Nat → Int → Int → Rat
  | 0, _, _ => 0
  | k + 1, n, d => if (nw n d).e = 0 then Rat.divInt n d else madeF k (n.tdiv 2) (half0 d)
def meas (n d : Int) : Nat := n.natAbs + d.natAbs + (if d = 0 then 3 else 0)
theorem nw_ok {n d : Int} (h : (nw n d).e = 0) : d ≠ 0 ∧ Fit (Rat.divInt n d) ∧ nw n d = ok (Rat.divInt n d) := by
  unfold nw at h ⊢
  by_cases hd : d = 0
  · rw [if_pos hd] at h; exact absurd h (by decide)
  · rw [if_neg hd] at h ⊢
    unfold res at h ⊢
    by_cases hf : Fit (Rat.divInt n d)
    · rw [if_pos hf]; exact ⟨hd, hf, rfl⟩
    · rw [if_neg hf] at h; exact absurd h (by decide)
theorem meas_less {n d : Int} (h : ¬ (nw n d).e = 0) : meas (n.tdiv 2) (half0 d) < meas n d := by
  have l1 := tdiv2_le n
  have l2 := tdiv2_le d
  by_cases hd : d = 0
  · have e : half0 d = 1 := by rw [hd]; rfl
    unfold meas
    rw [e, if_pos hd, if_neg (by decide)]
    omega
  · have hbig : M < n.natAbs ∨ M < d.natAbs := by
      by_cases hf : Fit (Rat.divInt n d)
      · exact absurd (show (nw n d).e = 0 by unfold nw res; rw [if_neg hd, if_pos hf]; rfl) h
      · have e1 : (Rat.divInt n d).num.natAbs ≤ n.natAbs := by rw [new_num n d hd, val_abs]; exact Nat.div_le_self _ _
        have e2 : (Rat.divInt n d).den ≤ d.natAbs := by rw [new_den n d hd]; exact Nat.div_le_self _ _
        unfold Fit at hf
        omega
    have e3 : half0 d ≠ 0 := by unfold half0; split <;> omega
    have e4 : (half0 d).natAbs ≤ d.natAbs ∧ (M < d.natAbs → (half0 d).natAbs < d.natAbs) := by
      unfold half0 M
      split
      · show (1 : Int).natAbs ≤ _ ∧ _
        have : d.natAbs / 2 = 0 := by omega
        constructor
        · show 1 ≤ d.natAbs; omega
        · intro _; omega
      · omega
    unfold meas M at *
    rw [if_neg e3, if_neg hd]
    omega
theorem madeF_fit : ∀ (k : Nat) (n d : Int), meas n d < k → Fit (madeF k n d)
  | 0, n, d, h => by omega
  | k + 1, n, d, h => by
    unfold madeF
    by_cases he : (nw n d).e = 0
    · rw [if_pos he]; exact (nw_ok he).2.1
    · rw [if_neg he]; exact madeF_fit k _ _ (by have := meas_less he; omega)
end Rt
set_option maxHeartbeats 8000000 in
theorem made_ex (n d : Int) (hn : -9223372036854775808 ≤ n ∧ n ≤ 9223372036854775807) (hd : -9223372036854775808 ≤ d ∧ d ≤ 9223372036854775807) :
    ∃ q, Rt.Fit q ∧ FC Tryz.prog gi 9 [i64 n, i64 d] [] (frQ q) [] NoP := by
  obtain ⟨Q, hQ⟩ : ∃ Q, Q = Rt.madeF (Rt.meas n d + 1) n d := ⟨_, rfl⟩
  refine ⟨Q, by rw [hQ]; exact Rt.madeF_fit _ _ _ (Nat.lt_succ_self _), ?_⟩
  have c0 := newin_fc n d hn hd
  refine FC.of_AW tok Tryz.func9 (by kernel_rfl) rfl Tryz.ntmps9 [] rfl rfl rfl ?_; intro w0 X0 Y f0 hI0 hX0
  (repeat (first | refine RG.skip rfl rfl rfl ?_ | refine RG.val tok rfl rfl rfl trivial rfl (iv_i64 (by omega)) ?_ | refine RG.val tok rfl rfl rfl trivial rfl (iv_u64 (by omega)) ?_ | refine RG.val tok rfl rfl rfl trivial rfl rfl ?_ | refine RG.val tok rfl rfl rfl (by omega) rfl rfl ?_ | refine RG.idx tok rfl rfl rfl rfl rfl rfl (Go.Abs.ints_at (by omega)) ⟨by omega, by omega⟩ rfl ?_ | refine RG.idx tok rfl rfl rfl rfl rfl rfl (Go.Abs.rows_at (by omega)) ⟨by omega, by omega⟩ rfl ?_ | refine RG.eqS eok rfl rfl rfl rfl rfl rfl rfl rfl rfl rfl rfl ?_ | refine RG.eqA eok rfl rfl rfl rfl rfl rfl rfl rfl rfl rfl rfl rfl ?_ | refine RG.load tok rfl rfl rfl rfl rfl rfl ?_ | refine RG.new tok rfl rfl rfl trivial rfl rfl ?_ | refine RG.store tok rfl rfl rfl rfl rfl rfl rfl rfl ?_ | refine RG.done rfl ?_ | refine RG.doneD (by kernel_rfl) rfl (by kernel_rfl) ?_ | refine AW.seq ?_ | refine AW.region ?_ | refine AW.skip ?_ | refine AW.block ?_ | refine AW.exit ?_ | refine AW.condT rfl ?_ | refine AW.condF rfl ?_))
  refine RG.call rfl rfl rfl rfl (c0) [] rfl rfl rfl rfl (.nil _) (.nil _) (fun _ h => False.elim h) rfl (A.ren_free _ _ rfl) rfl ?_
  (repeat (first | refine RG.skip rfl rfl rfl ?_ | refine RG.val tok rfl rfl rfl trivial rfl (iv_i64 (by omega)) ?_ | refine RG.val tok rfl rfl rfl trivial rfl (iv_u64 (by omega)) ?_ | refine RG.val tok rfl rfl rfl trivial rfl rfl ?_ | refine RG.val tok rfl rfl rfl (by omega) rfl rfl ?_ | refine RG.idx tok rfl rfl rfl rfl rfl rfl (Go.Abs.ints_at (by omega)) ⟨by omega, by omega⟩ rfl ?_ | refine RG.idx tok rfl rfl rfl rfl rfl rfl (Go.Abs.rows_at (by omega)) ⟨by omega, by omega⟩ rfl ?_ | refine RG.eqS eok rfl rfl rfl rfl rfl rfl rfl rfl rfl rfl rfl ?_ | refine RG.eqA eok rfl rfl rfl rfl rfl rfl rfl rfl rfl rfl rfl rfl ?_ | refine RG.load tok rfl rfl rfl rfl rfl rfl ?_ | refine RG.new tok rfl rfl rfl trivial rfl rfl ?_ | refine RG.store tok rfl rfl rfl rfl rfl rfl rfl rfl ?_ | refine RG.done rfl ?_ | refine RG.doneD (by kernel_rfl) rfl (by kernel_rfl) ?_ | refine AW.region ?_ | refine AW.skip ?_ | refine AW.block ?_ | refine AW.exit ?_ | refine AW.condT rfl ?_ | refine AW.condF rfl ?_))
  refine AW.seqJ (fun _ : Unit => ⟨put 4 (some (.ptr 0 [] 0)) (put 5 (some (.ptr 1 [] 0)) noE), hput 0 (.one [i64 0, i64 0]) (hput 1 (.one [i64 Q.num, i64 (Q.den : Int), i64 0]) noH), 2⟩) (fun _ => True) ?_ ?_
  · refine AW.block ?_
    refine AW.loopS (fun p : Nat × Int × Int => ⟨put 0 (some (i64 p.2.1)) (put 1 (some (i64 p.2.2)) (put 4 (some (.ptr 0 [] 0)) (put 5 (some (.ptr 1 [] 0)) noE))), hput 0 (.one [i64 0, i64 0]) (hput 1 (.one [i64 (Rt.nw p.2.1 p.2.2).n, i64 (Rt.nw p.2.1 p.2.2).d, i64 (Rt.nw p.2.1 p.2.2).e]) noH), 2⟩)
      (fun p => (Rt.meas p.2.1 p.2.2 < p.1 ∧ Rt.madeF p.1 p.2.1 p.2.2 = Q) ∧ (-9223372036854775808 ≤ p.2.1 ∧ p.2.1 ≤ 9223372036854775807) ∧ (-9223372036854775808 ≤ p.2.2 ∧ p.2.2 ≤ 9223372036854775807)) (fun p => p.1) (Rt.meas n d + 1, n, d) ⟨⟨Nat.lt_succ_self _, hQ.symm⟩, hn, hd⟩
      (Sub.of (SubE.put rfl (SubE.put rfl (SubE.put rfl (SubE.put rfl (SubE.no _))))) (SubH.put rfl (SubH.put rfl (SubH.no _))) rfl) ?_
    rintro ⟨k, a, b⟩ ⟨⟨g1, g2⟩, g3, g4⟩
    dsimp only at g1 g2 g3 g4
    obtain ⟨j, rfl⟩ : ∃ j, k = j + 1 := ⟨k - 1, by omega⟩
    rw [Rt.madeF] at g2
    have l1 := tdiv2_le a
    have l2 := tdiv2_le b
    (repeat (first | refine RG.skip rfl rfl rfl ?_ | refine RG.val tok rfl rfl rfl trivial rfl (iv_i64 (by omega)) ?_ | refine RG.val tok rfl rfl rfl trivial rfl (iv_u64 (by omega)) ?_ | refine RG.val tok rfl rfl rfl trivial rfl rfl ?_ | refine RG.val tok rfl rfl rfl (by omega) rfl rfl ?_ | refine RG.idx tok rfl rfl rfl rfl rfl rfl (Go.Abs.ints_at (by omega)) ⟨by omega, by omega⟩ rfl ?_ | refine RG.idx tok rfl rfl rfl rfl rfl rfl (Go.Abs.rows_at (by omega)) ⟨by omega, by omega⟩ rfl ?_ | refine RG.eqS eok rfl rfl rfl rfl rfl rfl rfl rfl rfl rfl rfl ?_ | refine RG.eqA eok rfl rfl rfl rfl rfl rfl rfl rfl rfl rfl rfl rfl ?_ | refine RG.load tok rfl rfl rfl rfl rfl rfl ?_ | refine RG.new tok rfl rfl rfl trivial rfl rfl ?_ | refine RG.store tok rfl rfl rfl rfl rfl rfl rfl rfl ?_ | refine RG.done rfl ?_ | refine RG.doneD (by kernel_rfl) rfl (by kernel_rfl) ?_ | refine AW.seq ?_ | refine AW.region ?_ | refine AW.skip ?_ | refine AW.block ?_ | refine AW.exit ?_ | refine AW.condT rfl ?_ | refine AW.condF rfl ?_))
    refine AW.condD rfl (fun he => ?_) (fun he => ?_)
    · have he' : ¬ (Rt.nw a b).e = 0 := he
      rw [if_neg he'] at g2
      have hm := Rt.meas_less he'
      have e1 : IntKind.i64.wrap (a.tdiv 2) = a.tdiv 2 := wrap_i64 (by omega)
      have e2 : IntKind.i64.wrap (b.tdiv 2) = b.tdiv 2 := wrap_i64 (by omega)
      refine AW.skip ?_
      refine AW.block ?_
      refine AW.seq ?_
      refine AW.region ?_
      (first | refine RG.skip rfl rfl rfl ?_ | refine RG.val tok rfl rfl rfl trivial rfl (iv_i64 (by omega)) ?_ | refine RG.val tok rfl rfl rfl trivial rfl (iv_u64 (by omega)) ?_ | refine RG.val tok rfl rfl rfl trivial rfl rfl ?_ | refine RG.val tok rfl rfl rfl (by omega) rfl rfl ?_ | refine RG.idx tok rfl rfl rfl rfl rfl rfl (Go.Abs.ints_at (by omega)) ⟨by omega, by omega⟩ rfl ?_ | refine RG.idx tok rfl rfl rfl rfl rfl rfl (Go.Abs.rows_at (by omega)) ⟨by omega, by omega⟩ rfl ?_ | refine RG.eqS eok rfl rfl rfl rfl rfl rfl rfl rfl rfl rfl rfl ?_ | refine RG.eqA eok rfl rfl rfl rfl rfl rfl rfl rfl rfl rfl rfl rfl ?_ | refine RG.load tok rfl rfl rfl rfl rfl rfl ?_ | refine RG.new tok rfl rfl rfl trivial rfl rfl ?_ | refine RG.store tok rfl rfl rfl rfl rfl rfl rfl rfl ?_)
      refine RG.val tok rfl rfl rfl (show (2 : Int) ≠ 0 by decide) rfl (iv_i64 (n := a.tdiv 2) (by omega)) ?_
      (repeat (first | refine RG.skip rfl rfl rfl ?_ | refine RG.val tok rfl rfl rfl trivial rfl (iv_i64 (by omega)) ?_ | refine RG.val tok rfl rfl rfl trivial rfl (iv_u64 (by omega)) ?_ | refine RG.val tok rfl rfl rfl trivial rfl rfl ?_ | refine RG.val tok rfl rfl rfl (by omega) rfl rfl ?_ | refine RG.idx tok rfl rfl rfl rfl rfl rfl (Go.Abs.ints_at (by omega)) ⟨by omega, by omega⟩ rfl ?_ | refine RG.idx tok rfl rfl rfl rfl rfl rfl (Go.Abs.rows_at (by omega)) ⟨by omega, by omega⟩ rfl ?_ | refine RG.eqS eok rfl rfl rfl rfl rfl rfl rfl rfl rfl rfl rfl ?_ | refine RG.eqA eok rfl rfl rfl rfl rfl rfl rfl rfl rfl rfl rfl rfl ?_ | refine RG.load tok rfl rfl rfl rfl rfl rfl ?_ | refine RG.new tok rfl rfl rfl trivial rfl rfl ?_ | refine RG.store tok rfl rfl rfl rfl rfl rfl rfl rfl ?_ | refine RG.done rfl ?_ | refine RG.doneD (by kernel_rfl) rfl (by kernel_rfl) ?_ | refine AW.region ?_ | refine AW.skip ?_ | refine AW.block ?_ | refine AW.exit ?_ | refine AW.condT rfl ?_ | refine AW.condF rfl ?_))
      refine AW.seq ?_
      refine AW.region ?_
      (first | refine RG.skip rfl rfl rfl ?_ | refine RG.val tok rfl rfl rfl trivial rfl (iv_i64 (by omega)) ?_ | refine RG.val tok rfl rfl rfl trivial rfl (iv_u64 (by omega)) ?_ | refine RG.val tok rfl rfl rfl trivial rfl rfl ?_ | refine RG.val tok rfl rfl rfl (by omega) rfl rfl ?_ | refine RG.idx tok rfl rfl rfl rfl rfl rfl (Go.Abs.ints_at (by omega)) ⟨by omega, by omega⟩ rfl ?_ | refine RG.idx tok rfl rfl rfl rfl rfl rfl (Go.Abs.rows_at (by omega)) ⟨by omega, by omega⟩ rfl ?_ | refine RG.eqS eok rfl rfl rfl rfl rfl rfl rfl rfl rfl rfl rfl ?_ | refine RG.eqA eok rfl rfl rfl rfl rfl rfl rfl rfl rfl rfl rfl rfl ?_ | refine RG.load tok rfl rfl rfl rfl rfl rfl ?_ | refine RG.new tok rfl rfl rfl trivial rfl rfl ?_ | refine RG.store tok rfl rfl rfl rfl rfl rfl rfl rfl ?_)
      refine RG.val tok rfl rfl rfl (show (2 : Int) ≠ 0 by decide) rfl (iv_i64 (n := b.tdiv 2) (by omega)) ?_
      (repeat (first | refine RG.skip rfl rfl rfl ?_ | refine RG.val tok rfl rfl rfl trivial rfl (iv_i64 (by omega)) ?_ | refine RG.val tok rfl rfl rfl trivial rfl (iv_u64 (by omega)) ?_ | refine RG.val tok rfl rfl rfl trivial rfl rfl ?_ | refine RG.val tok rfl rfl rfl (by omega) rfl rfl ?_ | refine RG.idx tok rfl rfl rfl rfl rfl rfl (Go.Abs.ints_at (by omega)) ⟨by omega, by omega⟩ rfl ?_ | refine RG.idx tok rfl rfl rfl rfl rfl rfl (Go.Abs.rows_at (by omega)) ⟨by omega, by omega⟩ rfl ?_ | refine RG.eqS eok rfl rfl rfl rfl rfl rfl rfl rfl rfl rfl rfl ?_ | refine RG.eqA eok rfl rfl rfl rfl rfl rfl rfl rfl rfl rfl rfl rfl ?_ | refine RG.load tok rfl rfl rfl rfl rfl rfl ?_ | refine RG.new tok rfl rfl rfl trivial rfl rfl ?_ | refine RG.store tok rfl rfl rfl rfl rfl rfl rfl rfl ?_ | refine RG.done rfl ?_ | refine RG.doneD (by kernel_rfl) rfl (by kernel_rfl) ?_ | refine AW.seq ?_ | refine AW.region ?_ | refine AW.skip ?_ | refine AW.block ?_ | refine AW.exit ?_ | refine AW.condT rfl ?_ | refine AW.condF rfl ?_))
      refine AW.condD rfl (fun hb => ?_) (fun hb => ?_)
      · have hb' : b.tdiv 2 = 0 := hb
        have eh : Rt.half0 b = 1 := by unfold Rt.half0; rw [if_pos hb']
        rw [eh] at g2 hm
        have c1 := newin_fc (a.tdiv 2) 1 (by omega) (by omega)
        (repeat (first | refine RG.skip rfl rfl rfl ?_ | refine RG.val tok rfl rfl rfl trivial rfl (iv_i64 (by omega)) ?_ | refine RG.val tok rfl rfl rfl trivial rfl (iv_u64 (by omega)) ?_ | refine RG.val tok rfl rfl rfl trivial rfl rfl ?_ | refine RG.val tok rfl rfl rfl (by omega) rfl rfl ?_ | refine RG.idx tok rfl rfl rfl rfl rfl rfl (Go.Abs.ints_at (by omega)) ⟨by omega, by omega⟩ rfl ?_ | refine RG.idx tok rfl rfl rfl rfl rfl rfl (Go.Abs.rows_at (by omega)) ⟨by omega, by omega⟩ rfl ?_ | refine RG.eqS eok rfl rfl rfl rfl rfl rfl rfl rfl rfl rfl rfl ?_ | refine RG.eqA eok rfl rfl rfl rfl rfl rfl rfl rfl rfl rfl rfl rfl ?_ | refine RG.load tok rfl rfl rfl rfl rfl rfl ?_ | refine RG.new tok rfl rfl rfl trivial rfl rfl ?_ | refine RG.store tok rfl rfl rfl rfl rfl rfl rfl rfl ?_ | refine RG.done rfl ?_ | refine RG.doneD (by kernel_rfl) rfl (by kernel_rfl) ?_ | refine AW.seq ?_ | refine AW.region ?_ | refine AW.skip ?_ | refine AW.block ?_ | refine AW.exit ?_ | refine AW.condT rfl ?_ | refine AW.condF rfl ?_))
        refine RG.call rfl rfl rfl rfl (c1) [] rfl rfl rfl rfl (.nil _) (.nil _) (fun _ h => False.elim h) rfl (A.ren_free _ _ rfl) rfl ?_
        (repeat (first | refine RG.skip rfl rfl rfl ?_ | refine RG.val tok rfl rfl rfl trivial rfl (iv_i64 (by omega)) ?_ | refine RG.val tok rfl rfl rfl trivial rfl (iv_u64 (by omega)) ?_ | refine RG.val tok rfl rfl rfl trivial rfl rfl ?_ | refine RG.val tok rfl rfl rfl (by omega) rfl rfl ?_ | refine RG.idx tok rfl rfl rfl rfl rfl rfl (Go.Abs.ints_at (by omega)) ⟨by omega, by omega⟩ rfl ?_ | refine RG.idx tok rfl rfl rfl rfl rfl rfl (Go.Abs.rows_at (by omega)) ⟨by omega, by omega⟩ rfl ?_ | refine RG.eqS eok rfl rfl rfl rfl rfl rfl rfl rfl rfl rfl rfl ?_ | refine RG.eqA eok rfl rfl rfl rfl rfl rfl rfl rfl rfl rfl rfl rfl ?_ | refine RG.load tok rfl rfl rfl rfl rfl rfl ?_ | refine RG.new tok rfl rfl rfl trivial rfl rfl ?_ | refine RG.store tok rfl rfl rfl rfl rfl rfl rfl rfl ?_ | refine RG.done rfl ?_ | refine RG.doneD (by kernel_rfl) rfl (by kernel_rfl) ?_ | refine AW.seq ?_ | refine AW.region ?_ | refine AW.skip ?_ | refine AW.block ?_ | refine AW.exit ?_ | refine AW.condT rfl ?_ | refine AW.condF rfl ?_))
        exact ⟨(j, a.tdiv 2, 1), ⟨⟨by dsimp only; omega, g2⟩, by dsimp only; omega⟩, Nat.lt_succ_self j, Sub.of (SubE.put rfl (SubE.put rfl (SubE.put rfl (SubE.put rfl (SubE.no _))))) (SubH.put rfl (SubH.put rfl (SubH.no _))) rfl⟩
      · have hb' : ¬ b.tdiv 2 = 0 := hb
        have eh : Rt.half0 b = b.tdiv 2 := by unfold Rt.half0; rw [if_neg hb']
        rw [eh] at g2 hm
        have c1 := newin_fc (a.tdiv 2) (b.tdiv 2) (by omega) (by omega)
        (repeat (first | refine RG.skip rfl rfl rfl ?_ | refine RG.val tok rfl rfl rfl trivial rfl (iv_i64 (by omega)) ?_ | refine RG.val tok rfl rfl rfl trivial rfl (iv_u64 (by omega)) ?_ | refine RG.val tok rfl rfl rfl trivial rfl rfl ?_ | refine RG.val tok rfl rfl rfl (by omega) rfl rfl ?_ | refine RG.idx tok rfl rfl rfl rfl rfl rfl (Go.Abs.ints_at (by omega)) ⟨by omega, by omega⟩ rfl ?_ | refine RG.idx tok rfl rfl rfl rfl rfl rfl (Go.Abs.rows_at (by omega)) ⟨by omega, by omega⟩ rfl ?_ | refine RG.eqS eok rfl rfl rfl rfl rfl rfl rfl rfl rfl rfl rfl ?_ | refine RG.eqA eok rfl rfl rfl rfl rfl rfl rfl rfl rfl rfl rfl rfl ?_ | refine RG.load tok rfl rfl rfl rfl rfl rfl ?_ | refine RG.new tok rfl rfl rfl trivial rfl rfl ?_ | refine RG.store tok rfl rfl rfl rfl rfl rfl rfl rfl ?_ | refine RG.done rfl ?_ | refine RG.doneD (by kernel_rfl) rfl (by kernel_rfl) ?_ | refine AW.seq ?_ | refine AW.region ?_ | refine AW.skip ?_ | refine AW.block ?_ | refine AW.exit ?_ | refine AW.condT rfl ?_ | refine AW.condF rfl ?_))
        refine RG.call rfl rfl rfl rfl (c1) [] rfl rfl rfl rfl (.nil _) (.nil _) (fun _ h => False.elim h) rfl (A.ren_free _ _ rfl) rfl ?_
        (repeat (first | refine RG.skip rfl rfl rfl ?_ | refine RG.val tok rfl rfl rfl trivial rfl (iv_i64 (by omega)) ?_ | refine RG.val tok rfl rfl rfl trivial rfl (iv_u64 (by omega)) ?_ | refine RG.val tok rfl rfl rfl trivial rfl rfl ?_ | refine RG.val tok rfl rfl rfl (by omega) rfl rfl ?_ | refine RG.idx tok rfl rfl rfl rfl rfl rfl (Go.Abs.ints_at (by omega)) ⟨by omega, by omega⟩ rfl ?_ | refine RG.idx tok rfl rfl rfl rfl rfl rfl (Go.Abs.rows_at (by omega)) ⟨by omega, by omega⟩ rfl ?_ | refine RG.eqS eok rfl rfl rfl rfl rfl rfl rfl rfl rfl rfl rfl ?_ | refine RG.eqA eok rfl rfl rfl rfl rfl rfl rfl rfl rfl rfl rfl rfl ?_ | refine RG.load tok rfl rfl rfl rfl rfl rfl ?_ | refine RG.new tok rfl rfl rfl trivial rfl rfl ?_ | refine RG.store tok rfl rfl rfl rfl rfl rfl rfl rfl ?_ | refine RG.done rfl ?_ | refine RG.doneD (by kernel_rfl) rfl (by kernel_rfl) ?_ | refine AW.seq ?_ | refine AW.region ?_ | refine AW.skip ?_ | refine AW.block ?_ | refine AW.exit ?_ | refine AW.condT rfl ?_ | refine AW.condF rfl ?_))
        exact ⟨(j, a.tdiv 2, b.tdiv 2), ⟨⟨by dsimp only; omega, g2⟩, by dsimp only; omega⟩, Nat.lt_succ_self j, Sub.of (SubE.put rfl (SubE.put rfl (SubE.put rfl (SubE.put rfl (SubE.no _))))) (SubH.put rfl (SubH.put rfl (SubH.no _))) rfl⟩
    · have he' : (Rt.nw a b).e = 0 := by
        by_cases h : (Rt.nw a b).e = 0
        · exact h
        · exact absurd h he
      rw [if_pos he'] at g2
      obtain ⟨_, _, hk⟩ := Rt.nw_ok he'
      rw [g2] at hk
      rw [hk]
      (repeat (first | refine RG.skip rfl rfl rfl ?_ | refine RG.val tok rfl rfl rfl trivial rfl (iv_i64 (by omega)) ?_ | refine RG.val tok rfl rfl rfl trivial rfl (iv_u64 (by omega)) ?_ | refine RG.val tok rfl rfl rfl trivial rfl rfl ?_ | refine RG.val tok rfl rfl rfl (by omega) rfl rfl ?_ | refine RG.idx tok rfl rfl rfl rfl rfl rfl (Go.Abs.ints_at (by omega)) ⟨by omega, by omega⟩ rfl ?_ | refine RG.idx tok rfl rfl rfl rfl rfl rfl (Go.Abs.rows_at (by omega)) ⟨by omega, by omega⟩ rfl ?_ | refine RG.eqS eok rfl rfl rfl rfl rfl rfl rfl rfl rfl rfl rfl ?_ | refine RG.eqA eok rfl rfl rfl rfl rfl rfl rfl rfl rfl rfl rfl rfl ?_ | refine RG.load tok rfl rfl rfl rfl rfl rfl ?_ | refine RG.new tok rfl rfl rfl trivial rfl rfl ?_ | refine RG.store tok rfl rfl rfl rfl rfl rfl rfl rfl ?_ | refine RG.done rfl ?_ | refine RG.doneD (by kernel_rfl) rfl (by kernel_rfl) ?_ | refine AW.seq ?_ | refine AW.region ?_ | refine AW.skip ?_ | refine AW.block ?_ | refine AW.exit ?_ | refine AW.condT rfl ?_ | refine AW.condF rfl ?_))
      exact ⟨(), trivial, Sub.of (SubE.put rfl (SubE.put rfl (SubE.no _))) (SubH.put rfl (SubH.put rfl (SubH.no _))) rfl⟩
  intro _ _
  (repeat (first | refine RG.skip rfl rfl rfl ?_ | refine RG.val tok rfl rfl rfl trivial rfl (iv_i64 (by omega)) ?_ | refine RG.val tok rfl rfl rfl trivial rfl (iv_u64 (by omega)) ?_ | refine RG.val tok rfl rfl rfl trivial rfl rfl ?_ | refine RG.val tok rfl rfl rfl (by omega) rfl rfl ?_ | refine RG.idx tok rfl rfl rfl rfl rfl rfl (Go.Abs.ints_at (by omega)) ⟨by omega, by omega⟩ rfl ?_ | refine RG.idx tok rfl rfl rfl rfl rfl rfl (Go.Abs.rows_at (by omega)) ⟨by omega, by omega⟩ rfl ?_ | refine RG.eqS eok rfl rfl rfl rfl rfl rfl rfl rfl rfl rfl rfl ?_ | refine RG.eqA eok rfl rfl rfl rfl rfl rfl rfl rfl rfl rfl rfl rfl ?_ | refine RG.load tok rfl rfl rfl rfl rfl rfl ?_ | refine RG.new tok rfl rfl rfl trivial rfl rfl ?_ | refine RG.store tok rfl rfl rfl rfl rfl rfl rfl rfl ?_ | refine RG.done rfl ?_ | refine RG.doneD (by kernel_rfl) rfl (by kernel_rfl) ?_ | refine AW.seq ?_ | refine AW.region ?_ | refine AW.skip ?_ | refine AW.block ?_ | refine AW.exit ?_ | refine AW.ret ?_ | refine AW.condT rfl ?_ | refine AW.condF rfl ?_))
  exact ⟨⟨_, rfl, rfl⟩, rfl, .nil _⟩
end Go.Proofs.YtbhahgbdkgjliaaGreatDoor
