/- GapAssumes. No conditions. -/
import Derived.Test.YtajlmkokfgbjdaaFp4
set_option linter.unusedVariables false
set_option linter.unusedSimpArgs false
namespace Go.Proofs.Ytajlmkokfgbjdaa
open Go.Abs Go Go.RowKit
theorem op3 (v : Int) : (2 + (bits .and .i64 v 255).tmod 3 = 2 ∨ 2 + (bits .and .i64 v 255).tmod 3 = 3) ∨ 2 + (bits .and .i64 v 255).tmod 3 = 4 := by
  have h := Gp.bits_and255 v
  rw [Int.tmod_eq_emod_of_nonneg h.1]
  omega
set_option maxHeartbeats 16000000 in
theorem gapAssumes_fc (V P : Nat) (N L M : List Int) (z : Gp.Step) (b0 : z.f0 < 256) (b1 : z.f1 < 256) (hV : V < 256) (hP : P < 256) (l0 : N.length ≤ 9223372036854775807) (lL : L.length ≤ 9223372036854775807) (lm : M.length ≤ 9223372036854775807)
    (hL : ∀ i, -2147483648 ≤ L.getD i 0 ∧ L.getD i 0 ≤ 2147483647) (hm : ∀ i, 0 ≤ M.getD i 0 ∧ M.getD i 0 ≤ 255) :
    FC Try.prog 4 [inputA V P N L M, stepA z] [] (.val (.bool true)) [] NoP := by
  have m0 := made_fc V P N hV hP l0
  have o0 := Gp.made_ok V P N
  have n0 := Gp.nn_pos V
  have n1 := Gp.nn_le V
  have p1 := Gp.pp_le V P
  have pn := Gp.pp_nn V P
  generalize Gp.made V P N = g0 at m0 o0
  generalize Gp.nn V = n at o0 n0 n1 pn
  generalize Gp.pp V P = p at o0 p1 pn
  have sg0 := o0.small n0 (by omega) (by omega)
  have lg0 := o0.len
  have cv := values_fc g0 L (by omega) lL hL
  have bv := Gp.values_bounds (m := g0.length) hL
  have lv : (Gp.values g0.length L).length = g0.length := Gp.values_length _ _
  generalize Gp.values g0.length L = v at cv bv lv
  have ct := tight_fc g0 p v M sg0 o0.rect (by omega) (by omega) (by omega) lv bv lm hm
  have ok := Gp.tight_ok o0 bv hm
  have hk := Gp.tight_has o0 bv hm
  generalize Gp.tight g0 p v M = g at ct ok hk
  have sg := ok.small n0 (by omega) (by omega)
  have lg := ok.len
  have lvn : v.length = n := by omega
  have cc := clipped_fc z g.length (by omega) (by omega)
  have w1 := Gp.clip_bounds z.w (n := g.length) (by omega)
  have w2 := Gp.clip_bounds z.u (n := g.length) (by omega)
  have ez : ∃ y, y = Gp.clipped z g.length := ⟨_, rfl⟩
  obtain ⟨y, ey⟩ := ez
  have y0 : y.f0 < 256 := by rw [ey]; exact b0
  have y1 : y.f1 < 256 := by rw [ey]; exact b1
  rw [← ey] at cc
  clear ey b0 b1
  obtain ⟨yop, yv, yw, yu, yc, yd, j0, j1, yh, yw0, yw1⟩ := y
  dsimp only at y0 y1
  have sa := side_fc j0 yw yc y0
  have sb := side_fc j1 yu yd y1
  have op := op3 yop
  generalize hop : 2 + (bits .and .i64 yop 255).tmod 3 = oq at op
  have oq3 := or_assoc.1 op
  have hh := holds_fc _ oq3 j0 j1 yw yu yc yd v (by omega)
  have wa := whole_fc j0 yw yc v (by omega) bv
  have wb := whole_fc j1 yu yd v (by omega) bv
  have ca := assume_fc g (Gp.side j0 yw yc) (Gp.side j1 yu yd) oq (Gp.holds oq (Gp.evalX v (Gp.side j0 yw yc)) (Gp.evalX v (Gp.side j1 yu yd))) (Gp.whole v (Gp.side j0 yw yc)) (Gp.whole v (Gp.side j1 yu yd)) p sg ok.rect ok.fine
  obtain ⟨q1, q2, q3⟩ := Gp.assume_law ok lvn bv hk oq oq3 (Gp.side j0 yw yc) (Gp.side j1 yu yd)
  generalize hh0 : Gp.holds oq (Gp.evalX v (Gp.side j0 yw yc)) (Gp.evalX v (Gp.side j1 yu yd)) = ho at hh ca q1 q2 q3
  generalize Gp.assume_ g oq ho (Gp.side j0 yw yc) (Gp.side j1 yu yd) (Gp.whole v (Gp.side j0 yw yc)) (Gp.whole v (Gp.side j1 yu yd)) = h at ca q1 q2 q3
  have sh := q3.small n0 (by omega) (by omega)
  have hasH := has_fc h v sh (by rw [q3.len, lvn]; exact Nat.le_refl _) (fun i hi => by rw [q3.row (by rw [q3.len] at hi; exact hi), lvn]; exact pn) bv
  have leqH := leq_fc h g sh (q3.covers ok)
  rw [q1] at hasH
  rw [q2] at leqH
  have e52 : some (A.val (.int .i64 (IntKind.i64.wrap (2 + (bits .and .i64 yop 255).tmod 3)))) = some (A.val (.int .i64 oq)) := by
    rw [hop, wrap_i64 (by omega)]
  clear q1 q2 w1 w2 hk hop hh0
  refine FC.of_AW tok Try.func4 (by kernel_rfl) rfl Try.ntmps4 [] rfl rfl rfl ?_; intro w0 X0 Y f0
  (repeat (first | refine RG.skip rfl rfl rfl ?_ | refine RG.val tok rfl rfl rfl trivial rfl (iv_i64 (by omega)) ?_ | refine RG.val tok rfl rfl rfl trivial rfl rfl ?_ | refine RG.val tok rfl rfl rfl (by omega) rfl rfl ?_ | refine RG.idx tok rfl rfl rfl rfl rfl rfl (Go.Abs.ints_at (by omega)) ⟨by omega, by omega⟩ rfl ?_ | refine RG.idx tok rfl rfl rfl rfl rfl rfl (Go.Abs.rows_at (by omega)) ⟨by omega, by omega⟩ rfl ?_ | refine RG.load tok rfl rfl rfl rfl rfl rfl ?_ | refine RG.new tok rfl rfl rfl trivial rfl rfl ?_ | refine RG.store tok rfl rfl rfl rfl rfl rfl rfl rfl ?_ | refine RG.done rfl ?_ | refine RG.doneD (by kernel_rfl) rfl (by kernel_rfl) ?_ | refine AW.seq ?_ | refine AW.region ?_ | refine AW.skip ?_ | refine AW.block ?_ | refine AW.exit ?_ | refine AW.condT rfl ?_ | refine AW.condF rfl ?_))
  refine RG.call rfl rfl rfl rfl (examples_fc) [] rfl rfl rfl rfl (.nil _) (.nil _) (fun _ h => False.elim h) rfl (A.ren_free _ _ rfl) rfl ?_
  (repeat (first | refine RG.skip rfl rfl rfl ?_ | refine RG.val tok rfl rfl rfl trivial rfl (iv_i64 (by omega)) ?_ | refine RG.val tok rfl rfl rfl trivial rfl rfl ?_ | refine RG.val tok rfl rfl rfl (by omega) rfl rfl ?_ | refine RG.idx tok rfl rfl rfl rfl rfl rfl (Go.Abs.ints_at (by omega)) ⟨by omega, by omega⟩ rfl ?_ | refine RG.idx tok rfl rfl rfl rfl rfl rfl (Go.Abs.rows_at (by omega)) ⟨by omega, by omega⟩ rfl ?_ | refine RG.load tok rfl rfl rfl rfl rfl rfl ?_ | refine RG.new tok rfl rfl rfl trivial rfl rfl ?_ | refine RG.store tok rfl rfl rfl rfl rfl rfl rfl rfl ?_ | refine RG.done rfl ?_ | refine RG.doneD (by kernel_rfl) rfl (by kernel_rfl) ?_ | refine AW.seq ?_ | refine AW.region ?_ | refine AW.skip ?_ | refine AW.block ?_ | refine AW.exit ?_ | refine AW.condT rfl ?_ | refine AW.condF rfl ?_))
  refine RG.call rfl rfl rfl rfl (m0) [] rfl rfl rfl rfl (.nil _) (.nil _) (fun _ h => False.elim h) rfl (A.ren_free _ _ rfl) rfl ?_
  (repeat (first | refine RG.skip rfl rfl rfl ?_ | refine RG.val tok rfl rfl rfl trivial rfl (iv_i64 (by omega)) ?_ | refine RG.val tok rfl rfl rfl trivial rfl rfl ?_ | refine RG.val tok rfl rfl rfl (by omega) rfl rfl ?_ | refine RG.idx tok rfl rfl rfl rfl rfl rfl (Go.Abs.ints_at (by omega)) ⟨by omega, by omega⟩ rfl ?_ | refine RG.idx tok rfl rfl rfl rfl rfl rfl (Go.Abs.rows_at (by omega)) ⟨by omega, by omega⟩ rfl ?_ | refine RG.load tok rfl rfl rfl rfl rfl rfl ?_ | refine RG.new tok rfl rfl rfl trivial rfl rfl ?_ | refine RG.store tok rfl rfl rfl rfl rfl rfl rfl rfl ?_ | refine RG.done rfl ?_ | refine RG.doneD (by kernel_rfl) rfl (by kernel_rfl) ?_ | refine AW.seq ?_ | refine AW.region ?_ | refine AW.skip ?_ | refine AW.block ?_ | refine AW.exit ?_ | refine AW.condT rfl ?_ | refine AW.condF rfl ?_))
  refine RG.call rfl rfl rfl rfl (cv) [] rfl rfl rfl rfl (.nil _) (.nil _) (fun _ h => False.elim h) rfl (A.ren_free _ _ rfl) rfl ?_
  (repeat (first | refine RG.skip rfl rfl rfl ?_ | refine RG.val tok rfl rfl rfl trivial rfl (iv_i64 (by omega)) ?_ | refine RG.val tok rfl rfl rfl trivial rfl rfl ?_ | refine RG.val tok rfl rfl rfl (by omega) rfl rfl ?_ | refine RG.idx tok rfl rfl rfl rfl rfl rfl (Go.Abs.ints_at (by omega)) ⟨by omega, by omega⟩ rfl ?_ | refine RG.idx tok rfl rfl rfl rfl rfl rfl (Go.Abs.rows_at (by omega)) ⟨by omega, by omega⟩ rfl ?_ | refine RG.load tok rfl rfl rfl rfl rfl rfl ?_ | refine RG.new tok rfl rfl rfl trivial rfl rfl ?_ | refine RG.store tok rfl rfl rfl rfl rfl rfl rfl rfl ?_ | refine RG.done rfl ?_ | refine RG.doneD (by kernel_rfl) rfl (by kernel_rfl) ?_ | refine AW.seq ?_ | refine AW.region ?_ | refine AW.skip ?_ | refine AW.block ?_ | refine AW.exit ?_ | refine AW.condT rfl ?_ | refine AW.condF rfl ?_))
  refine RG.call rfl rfl rfl rfl (ct) [] rfl rfl rfl rfl (.nil _) (.nil _) (fun _ h => False.elim h) rfl (A.ren_free _ _ rfl) rfl ?_
  (repeat (first | refine RG.skip rfl rfl rfl ?_ | refine RG.val tok rfl rfl rfl trivial rfl (iv_i64 (by omega)) ?_ | refine RG.val tok rfl rfl rfl trivial rfl rfl ?_ | refine RG.val tok rfl rfl rfl (by omega) rfl rfl ?_ | refine RG.idx tok rfl rfl rfl rfl rfl rfl (Go.Abs.ints_at (by omega)) ⟨by omega, by omega⟩ rfl ?_ | refine RG.idx tok rfl rfl rfl rfl rfl rfl (Go.Abs.rows_at (by omega)) ⟨by omega, by omega⟩ rfl ?_ | refine RG.load tok rfl rfl rfl rfl rfl rfl ?_ | refine RG.new tok rfl rfl rfl trivial rfl rfl ?_ | refine RG.store tok rfl rfl rfl rfl rfl rfl rfl rfl ?_ | refine RG.done rfl ?_ | refine RG.doneD (by kernel_rfl) rfl (by kernel_rfl) ?_ | refine AW.seq ?_ | refine AW.region ?_ | refine AW.skip ?_ | refine AW.block ?_ | refine AW.exit ?_ | refine AW.condT rfl ?_ | refine AW.condF rfl ?_))
  refine RG.call rfl rfl rfl rfl (cc) [] rfl rfl rfl rfl (.nil _) (.nil _) (fun _ h => False.elim h) rfl (A.ren_free _ _ rfl) rfl ?_
  (repeat (first | refine RG.skip rfl rfl rfl ?_ | refine RG.val tok rfl rfl rfl trivial rfl (iv_i64 (by omega)) ?_ | refine RG.val tok rfl rfl rfl trivial rfl rfl ?_ | refine RG.val tok rfl rfl rfl (by omega) rfl rfl ?_ | refine RG.idx tok rfl rfl rfl rfl rfl rfl (Go.Abs.ints_at (by omega)) ⟨by omega, by omega⟩ rfl ?_ | refine RG.idx tok rfl rfl rfl rfl rfl rfl (Go.Abs.rows_at (by omega)) ⟨by omega, by omega⟩ rfl ?_ | refine RG.load tok rfl rfl rfl rfl rfl rfl ?_ | refine RG.new tok rfl rfl rfl trivial rfl rfl ?_ | refine RG.store tok rfl rfl rfl rfl rfl rfl rfl rfl ?_ | refine RG.done rfl ?_ | refine RG.doneD (by kernel_rfl) rfl (by kernel_rfl) ?_ | refine AW.seq ?_ | refine AW.region ?_ | refine AW.skip ?_ | refine AW.block ?_ | refine AW.exit ?_ | refine AW.condT rfl ?_ | refine AW.condF rfl ?_))
  refine RG.call rfl rfl rfl rfl (sa) [] rfl rfl rfl rfl (.nil _) (.nil _) (fun _ h => False.elim h) rfl (A.ren_free _ _ rfl) rfl ?_
  (repeat (first | refine RG.skip rfl rfl rfl ?_ | refine RG.val tok rfl rfl rfl trivial rfl (iv_i64 (by omega)) ?_ | refine RG.val tok rfl rfl rfl trivial rfl rfl ?_ | refine RG.val tok rfl rfl rfl (by omega) rfl rfl ?_ | refine RG.idx tok rfl rfl rfl rfl rfl rfl (Go.Abs.ints_at (by omega)) ⟨by omega, by omega⟩ rfl ?_ | refine RG.idx tok rfl rfl rfl rfl rfl rfl (Go.Abs.rows_at (by omega)) ⟨by omega, by omega⟩ rfl ?_ | refine RG.load tok rfl rfl rfl rfl rfl rfl ?_ | refine RG.new tok rfl rfl rfl trivial rfl rfl ?_ | refine RG.store tok rfl rfl rfl rfl rfl rfl rfl rfl ?_ | refine RG.done rfl ?_ | refine RG.doneD (by kernel_rfl) rfl (by kernel_rfl) ?_ | refine AW.seq ?_ | refine AW.region ?_ | refine AW.skip ?_ | refine AW.block ?_ | refine AW.exit ?_ | refine AW.condT rfl ?_ | refine AW.condF rfl ?_))
  refine RG.call rfl rfl rfl rfl (sb) [] rfl rfl rfl rfl (.nil _) (.nil _) (fun _ h => False.elim h) rfl (A.ren_free _ _ rfl) rfl ?_
  (repeat (first | refine RG.skip rfl rfl rfl ?_ | refine RG.val tok rfl rfl rfl trivial rfl (iv_i64 (by omega)) ?_ | refine RG.val tok rfl rfl rfl trivial rfl rfl ?_ | refine RG.val tok rfl rfl rfl (by omega) rfl rfl ?_ | refine RG.idx tok rfl rfl rfl rfl rfl rfl (Go.Abs.ints_at (by omega)) ⟨by omega, by omega⟩ rfl ?_ | refine RG.idx tok rfl rfl rfl rfl rfl rfl (Go.Abs.rows_at (by omega)) ⟨by omega, by omega⟩ rfl ?_ | refine RG.load tok rfl rfl rfl rfl rfl rfl ?_ | refine RG.new tok rfl rfl rfl trivial rfl rfl ?_ | refine RG.store tok rfl rfl rfl rfl rfl rfl rfl rfl ?_ | refine RG.done rfl ?_ | refine RG.doneD (by kernel_rfl) rfl (by kernel_rfl) ?_ | refine AW.region ?_ | refine AW.skip ?_ | refine AW.block ?_ | refine AW.exit ?_ | refine AW.condT rfl ?_ | refine AW.condF rfl ?_))
  refine AW.seq ?_
  refine AW.region ?_
  (first | refine RG.skip rfl rfl rfl ?_ | refine RG.val tok rfl rfl rfl trivial rfl (iv_i64 (by omega)) ?_ | refine RG.val tok rfl rfl rfl trivial rfl rfl ?_ | refine RG.val tok rfl rfl rfl (by omega) rfl rfl ?_ | refine RG.idx tok rfl rfl rfl rfl rfl rfl (Go.Abs.ints_at (by omega)) ⟨by omega, by omega⟩ rfl ?_ | refine RG.idx tok rfl rfl rfl rfl rfl rfl (Go.Abs.rows_at (by omega)) ⟨by omega, by omega⟩ rfl ?_ | refine RG.load tok rfl rfl rfl rfl rfl rfl ?_ | refine RG.new tok rfl rfl rfl trivial rfl rfl ?_ | refine RG.store tok rfl rfl rfl rfl rfl rfl rfl rfl ?_)
  (first | refine RG.skip rfl rfl rfl ?_ | refine RG.val tok rfl rfl rfl trivial rfl (iv_i64 (by omega)) ?_ | refine RG.val tok rfl rfl rfl trivial rfl rfl ?_ | refine RG.val tok rfl rfl rfl (by omega) rfl rfl ?_ | refine RG.idx tok rfl rfl rfl rfl rfl rfl (Go.Abs.ints_at (by omega)) ⟨by omega, by omega⟩ rfl ?_ | refine RG.idx tok rfl rfl rfl rfl rfl rfl (Go.Abs.rows_at (by omega)) ⟨by omega, by omega⟩ rfl ?_ | refine RG.load tok rfl rfl rfl rfl rfl rfl ?_ | refine RG.new tok rfl rfl rfl trivial rfl rfl ?_ | refine RG.store tok rfl rfl rfl rfl rfl rfl rfl rfl ?_)
  refine RG.val tok rfl rfl rfl trivial rfl rfl ?_
  (first | refine RG.skip rfl rfl rfl ?_ | refine RG.val tok rfl rfl rfl trivial rfl (iv_i64 (by omega)) ?_ | refine RG.val tok rfl rfl rfl trivial rfl rfl ?_ | refine RG.val tok rfl rfl rfl (by omega) rfl rfl ?_ | refine RG.idx tok rfl rfl rfl rfl rfl rfl (Go.Abs.ints_at (by omega)) ⟨by omega, by omega⟩ rfl ?_ | refine RG.idx tok rfl rfl rfl rfl rfl rfl (Go.Abs.rows_at (by omega)) ⟨by omega, by omega⟩ rfl ?_ | refine RG.load tok rfl rfl rfl rfl rfl rfl ?_ | refine RG.new tok rfl rfl rfl trivial rfl rfl ?_ | refine RG.store tok rfl rfl rfl rfl rfl rfl rfl rfl ?_)
  refine RG.val tok rfl rfl rfl trivial rfl e52 ?_
  (repeat (first | refine RG.skip rfl rfl rfl ?_ | refine RG.val tok rfl rfl rfl trivial rfl (iv_i64 (by omega)) ?_ | refine RG.val tok rfl rfl rfl trivial rfl rfl ?_ | refine RG.val tok rfl rfl rfl (by omega) rfl rfl ?_ | refine RG.idx tok rfl rfl rfl rfl rfl rfl (Go.Abs.ints_at (by omega)) ⟨by omega, by omega⟩ rfl ?_ | refine RG.idx tok rfl rfl rfl rfl rfl rfl (Go.Abs.rows_at (by omega)) ⟨by omega, by omega⟩ rfl ?_ | refine RG.load tok rfl rfl rfl rfl rfl rfl ?_ | refine RG.new tok rfl rfl rfl trivial rfl rfl ?_ | refine RG.store tok rfl rfl rfl rfl rfl rfl rfl rfl ?_ | refine RG.done rfl ?_ | refine RG.doneD (by kernel_rfl) rfl (by kernel_rfl) ?_ | refine AW.region ?_ | refine AW.skip ?_ | refine AW.block ?_ | refine AW.exit ?_ | refine AW.condT rfl ?_ | refine AW.condF rfl ?_))
  refine AW.seq ?_; (repeat (first | refine RG.skip rfl rfl rfl ?_ | refine RG.val tok rfl rfl rfl trivial rfl (iv_i64 (by omega)) ?_ | refine RG.val tok rfl rfl rfl trivial rfl rfl ?_ | refine RG.val tok rfl rfl rfl (by omega) rfl rfl ?_ | refine RG.idx tok rfl rfl rfl rfl rfl rfl (Go.Abs.ints_at (by omega)) ⟨by omega, by omega⟩ rfl ?_ | refine RG.idx tok rfl rfl rfl rfl rfl rfl (Go.Abs.rows_at (by omega)) ⟨by omega, by omega⟩ rfl ?_ | refine RG.load tok rfl rfl rfl rfl rfl rfl ?_ | refine RG.new tok rfl rfl rfl trivial rfl rfl ?_ | refine RG.store tok rfl rfl rfl rfl rfl rfl rfl rfl ?_ | refine RG.done rfl ?_ | refine RG.doneD (by kernel_rfl) rfl (by kernel_rfl) ?_ | refine AW.region ?_ | refine AW.skip ?_ | refine AW.block ?_ | refine AW.exit ?_ | refine AW.condT rfl ?_ | refine AW.condF rfl ?_))
  refine AW.sub (Sub.frzH (ks := [4]) 5 rfl (by decide) (.cons (Frz.refl _) (.cons (Frz.sl (l := xCells (Gp.side j0 yw yc) ++ xCells (Gp.side j1 yu yd)) rfl (by decide) rfl rfl) (.cons Frz.nil .nil)))) ?_
  (repeat (first | refine RG.call rfl rfl rfl rfl (hh) [] rfl rfl rfl rfl (.nil _) (.nil _) (fun _ h => False.elim h) rfl (A.ren_free _ _ rfl) rfl ?_ | refine RG.call rfl rfl rfl rfl (wa) [] rfl rfl rfl rfl (.nil _) (.nil _) (fun _ h => False.elim h) rfl (A.ren_free _ _ rfl) rfl ?_ | refine RG.call rfl rfl rfl rfl (wb) [] rfl rfl rfl rfl (.nil _) (.nil _) (fun _ h => False.elim h) rfl (A.ren_free _ _ rfl) rfl ?_ | refine RG.call rfl rfl rfl rfl (ca) [] rfl rfl rfl rfl (.nil _) (.nil _) (fun _ h => False.elim h) rfl (A.ren_free _ _ rfl) rfl ?_ | refine RG.skip rfl rfl rfl ?_ | refine RG.val tok rfl rfl rfl trivial rfl (iv_i64 (by omega)) ?_ | refine RG.val tok rfl rfl rfl trivial rfl rfl ?_ | refine RG.val tok rfl rfl rfl (by omega) rfl rfl ?_ | refine RG.idx tok rfl rfl rfl rfl rfl rfl (Go.Abs.ints_at (by omega)) ⟨by omega, by omega⟩ rfl ?_ | refine RG.idx tok rfl rfl rfl rfl rfl rfl (Go.Abs.rows_at (by omega)) ⟨by omega, by omega⟩ rfl ?_ | refine RG.load tok rfl rfl rfl rfl rfl rfl ?_ | refine RG.new tok rfl rfl rfl trivial rfl rfl ?_ | refine RG.store tok rfl rfl rfl rfl rfl rfl rfl rfl ?_ | refine RG.done rfl ?_ | refine RG.doneD (by kernel_rfl) rfl (by kernel_rfl) ?_ | refine AW.seq ?_ | refine AW.region ?_ | refine AW.skip ?_ | refine AW.block ?_ | refine AW.exit ?_ | refine AW.condT rfl ?_ | refine AW.condF rfl ?_))
  (repeat (first | refine RG.call rfl rfl rfl rfl (hasH) [] rfl rfl rfl rfl (.nil _) (.nil _) (fun _ h => False.elim h) rfl (A.ren_free _ _ rfl) rfl ?_ | refine RG.call rfl rfl rfl rfl (leqH) [] rfl rfl rfl rfl (.nil _) (.nil _) (fun _ h => False.elim h) rfl (A.ren_free _ _ rfl) rfl ?_ | refine RG.skip rfl rfl rfl ?_ | refine RG.val tok rfl rfl rfl trivial rfl (iv_i64 (by omega)) ?_ | refine RG.val tok rfl rfl rfl trivial rfl rfl ?_ | refine RG.val tok rfl rfl rfl (by omega) rfl rfl ?_ | refine RG.idx tok rfl rfl rfl rfl rfl rfl (Go.Abs.ints_at (by omega)) ⟨by omega, by omega⟩ rfl ?_ | refine RG.idx tok rfl rfl rfl rfl rfl rfl (Go.Abs.rows_at (by omega)) ⟨by omega, by omega⟩ rfl ?_ | refine RG.load tok rfl rfl rfl rfl rfl rfl ?_ | refine RG.new tok rfl rfl rfl trivial rfl rfl ?_ | refine RG.store tok rfl rfl rfl rfl rfl rfl rfl rfl ?_ | refine RG.done rfl ?_ | refine RG.doneD (by kernel_rfl) rfl (by kernel_rfl) ?_ | refine AW.seq ?_ | refine AW.region ?_ | refine AW.skip ?_ | refine AW.block ?_ | refine AW.exit ?_ | refine AW.ret ?_ | refine AW.condT rfl ?_ | refine AW.condF rfl ?_))
  exact ⟨⟨_, rfl, rfl⟩, rfl, .nil _⟩
theorem gapAssumes_true (d0 : Dd) (v0 : Value) (d1 : Dd) (v1 : Value) (W : World) (h0 : Dd.Ty Try.prog 28 d0) (r0 : V noPl (fun _ => False) W d0.aw v0) (h1 : Dd.Ty Try.prog 32 d1) (r1 : V noPl (fun _ => False) W d1.aw v1) :
    Says 4 #[v0, v1] W := by
  obtain ⟨V0, P0, N, L, M, e0, hV, hP, lN, lL, lM, bL, bM⟩ := input_of h0
  obtain ⟨z, e1, b0, b1⟩ := step_of h1
  rw [e0] at r0; rw [e1] at r1
  exact FC.calls (gapAssumes_fc V0 P0 N L M z b0 b1 hV hP lN lL lM bL bM) (vs := [v0, v1]) (.cons r0 (.cons r1 .nil))
end Go.Proofs.Ytajlmkokfgbjdaa
