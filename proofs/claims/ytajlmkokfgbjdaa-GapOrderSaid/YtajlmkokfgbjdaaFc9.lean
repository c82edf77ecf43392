/- GapOrder. No conditions. -/
import Derived.Test.YtajlmkokfgbjdaaFp4
set_option linter.unusedVariables false
set_option linter.unusedSimpArgs false
namespace Go.Proofs.Ytajlmkokfgbjdaa
open Go.Abs Go Go.RowKit
set_option maxHeartbeats 16000000 in
theorem gapOrder_fc (V P V1 P1 : Nat) (N L M N1 more : List Int) (hV : V < 256) (hP : P < 256) (l0 : N.length ≤ 9223372036854775807) (l1 : N1.length ≤ 9223372036854775807) (lL : L.length ≤ 9223372036854775807) (lm : more.length ≤ 9223372036854775807)
    (hL : ∀ i, -2147483648 ≤ L.getD i 0 ∧ L.getD i 0 ≤ 2147483647) (hm : ∀ i, 0 ≤ more.getD i 0 ∧ more.getD i 0 ≤ 255) :
    FC Try.prog 6 [inputA V P N L M, rawA V1 P1 N1, rdI .u8 more] [] (.val (.bool true)) [] NoP := by
  have m0 := made_fc V P N hV hP l0
  have m1 := made_fc V P N1 hV hP l1
  have o0 := Gp.made_ok V P N
  have o1 := Gp.made_ok V P N1
  have n0 := Gp.nn_pos V
  have n1 := Gp.nn_le V
  have p1 := Gp.pp_le V P
  have pn := Gp.pp_nn V P
  generalize Gp.made V P N = g at m0 o0
  generalize Gp.made V P N1 = h at m1 o1
  generalize Gp.nn V = n at o0 o1 n0 n1 pn
  generalize Gp.pp V P = p at o0 o1 p1 pn
  have sg := o0.small n0 (by omega) (by omega)
  have sh := o1.small n0 (by omega) (by omega)
  have lg := o0.len
  have cv := values_fc g L (by omega) lL hL
  have bv := Gp.values_bounds (m := g.length) hL
  have lv : (Gp.values g.length L).length = g.length := Gp.values_length _ _
  generalize Gp.values g.length L = v at cv bv lv
  have ct := tight_fc g p v more sg o0.rect (by omega) (by omega) (by omega) lv bv lm hm
  have ok := Gp.tight_ok o0 bv hm
  have qk := Gp.tight_has o0 bv hm
  generalize Gp.tight g p v more = k at ct ok qk
  have sk := ok.small n0 (by omega) (by omega)
  have cj := join_fc g h p sg o0.rect (by rw [o0.len, o1.len]) o1.rect
  have cj2 := join_fc h g p sh o1.rect (by rw [o0.len, o1.len]) o0.rect
  rw [← Gp.join_comm o0 o1] at cj2
  have cj3 := join_fc g g p sg o0.rect rfl o0.rect
  rw [Gp.join_self o0] at cj3
  have cj4 := join_fc k g p sk ok.rect (by rw [o0.len, ok.len]) o0.rect
  have oj := o0.join o1
  have q1 := Gp.leq_join_l o0 o1
  have q2 := Gp.leq_join_r o0 o1
  have q3 := Gp.join_leq o0 o1
  have q4 : Gp.leq g k = true → Gp.leq (Gp.join g h) k = Gp.leq h k := fun e => Gp.join_least o0 o1 e
  have q5 : Gp.has g v = true → Gp.has (Gp.join g h) v = true := Gp.has_leq o0 oj q1
  generalize Gp.join g h = j at cj cj2 oj q1 q2 q3 q4 q5
  have sj := oj.small n0 (by omega) (by omega)
  have oe := ok.join o0
  have q6 : Gp.has (Gp.join k g) v = true := Gp.has_leq ok oe (Gp.leq_join_l ok o0) qk
  generalize Gp.join k g = e at cj4 oe q6
  have se := oe.small n0 (by omega) (by omega)
  have hasC : ∀ x, Gp.Ok x n p → Small x → FC Try.prog 14 [rdM .i64 x, rdI .i64 v] [] (.val (.bool (Gp.has x v))) [] NoP := fun x ox sx =>
    has_fc x v sx (by rw [ox.len, lv, lg]; exact Nat.le_refl _) (fun i hi => by rw [ox.row (by rw [ox.len] at hi; exact hi), lv, lg]; exact pn) bv
  have leqC : ∀ x y, Gp.Ok x n p → Gp.Ok y n p → Small x → FC Try.prog 22 [rdM .i64 x, rdM .i64 y] [] (.val (.bool (Gp.leq x y))) [] NoP := fun x y ox oy sx => leq_fc x y sx (ox.covers oy)
  have a1 := leqC g g o0 o0 sg
  rw [Gp.leq_refl o0] at a1
  have a2 := leqC g j o0 oj sg
  rw [q1] at a2
  have a3 := leqC h j o1 oj sh
  rw [q2] at a3
  have a4 := same_fc j j sj sj
  rw [decide_eq_true rfl] at a4
  have a5 := same_fc g g sg sg
  rw [decide_eq_true rfl] at a5
  have a6 := leqC g h o0 o1 sg
  have a7 := same_fc j h sj sh
  rw [← q3] at a7
  have a8 := leqC h g o1 o0 sh
  have a9 := same_fc g h sg sh
  have b1 := leqC g k o0 ok sg
  have b2 := leqC h k o1 ok sh
  have b3 := leqC j k oj ok sj
  have b4 := hasC k ok sk
  rw [qk] at b4
  have b5 := hasC e oe se
  rw [q6] at b5
  have b6 := hasC g o0 sg
  have b7 := hasC j oj sj
  have b8 := leqC k g ok o0 sk
  have t1 : Gp.leq g h = true → Gp.leq h k = true → Gp.leq g k = true := fun e1 e2 => Gp.leq_trans o0 e1 o1 e2
  have t2 : Gp.leq g h = true → Gp.leq h g = true → g = h := Gp.leq_antisymm o0 o1
  have t3 : Gp.leq k g = true → Gp.has g v = true := fun e1 => Gp.has_leq ok o0 e1 qk
  clear q1 q2 q3 qk q6 hasC leqC
  generalize Gp.leq g h = gh at a6 a7 t1 t2
  generalize Gp.leq h g = hg at a8 t2
  generalize Gp.leq g k = gk at b1 q4 t1
  generalize Gp.leq h k = hk at b2 q4 t1
  generalize Gp.leq j k = jk at b3 q4
  generalize Gp.has g v = gv at b6 q5 t3
  generalize Gp.has j v = jv at b7 q5
  generalize Gp.leq k g = kg at b8 t3
  refine FC.of_AW tok Try.func6 (by kernel_rfl) rfl Try.ntmps6 [] rfl rfl rfl ?_; intro w0 X0 Y f0
  (repeat (first | refine RG.skip rfl rfl rfl ?_ | refine RG.val tok rfl rfl rfl trivial rfl (iv_i64 (by omega)) ?_ | refine RG.val tok rfl rfl rfl trivial rfl (iv_u64 (by omega)) ?_ | refine RG.val tok rfl rfl rfl trivial rfl rfl ?_ | refine RG.val tok rfl rfl rfl (by omega) rfl rfl ?_ | refine RG.idx tok rfl rfl rfl rfl rfl rfl (Go.Abs.ints_at (by omega)) ⟨by omega, by omega⟩ rfl ?_ | refine RG.idx tok rfl rfl rfl rfl rfl rfl (Go.Abs.rows_at (by omega)) ⟨by omega, by omega⟩ rfl ?_ | refine RG.load tok rfl rfl rfl rfl rfl rfl ?_ | refine RG.new tok rfl rfl rfl trivial rfl rfl ?_ | refine RG.store tok rfl rfl rfl rfl rfl rfl rfl rfl ?_ | refine RG.done rfl ?_ | refine RG.doneD (by kernel_rfl) rfl (by kernel_rfl) ?_ | refine AW.seq ?_ | refine AW.region ?_ | refine AW.skip ?_ | refine AW.block ?_ | refine AW.exit ?_ | refine AW.condT rfl ?_ | refine AW.condF rfl ?_))
  refine RG.call rfl rfl rfl rfl (examples_fc) [] rfl rfl rfl rfl (.nil _) (.nil _) (fun _ h => False.elim h) rfl (A.ren_free _ _ rfl) rfl ?_
  (repeat (first | refine RG.skip rfl rfl rfl ?_ | refine RG.val tok rfl rfl rfl trivial rfl (iv_i64 (by omega)) ?_ | refine RG.val tok rfl rfl rfl trivial rfl (iv_u64 (by omega)) ?_ | refine RG.val tok rfl rfl rfl trivial rfl rfl ?_ | refine RG.val tok rfl rfl rfl (by omega) rfl rfl ?_ | refine RG.idx tok rfl rfl rfl rfl rfl rfl (Go.Abs.ints_at (by omega)) ⟨by omega, by omega⟩ rfl ?_ | refine RG.idx tok rfl rfl rfl rfl rfl rfl (Go.Abs.rows_at (by omega)) ⟨by omega, by omega⟩ rfl ?_ | refine RG.load tok rfl rfl rfl rfl rfl rfl ?_ | refine RG.new tok rfl rfl rfl trivial rfl rfl ?_ | refine RG.store tok rfl rfl rfl rfl rfl rfl rfl rfl ?_ | refine RG.done rfl ?_ | refine RG.doneD (by kernel_rfl) rfl (by kernel_rfl) ?_ | refine AW.seq ?_ | refine AW.region ?_ | refine AW.skip ?_ | refine AW.block ?_ | refine AW.exit ?_ | refine AW.condT rfl ?_ | refine AW.condF rfl ?_))
  refine RG.call rfl rfl rfl rfl (m0) [] rfl rfl rfl rfl (.nil _) (.nil _) (fun _ h => False.elim h) rfl (A.ren_free _ _ rfl) rfl ?_
  (repeat (first | refine RG.skip rfl rfl rfl ?_ | refine RG.val tok rfl rfl rfl trivial rfl (iv_i64 (by omega)) ?_ | refine RG.val tok rfl rfl rfl trivial rfl (iv_u64 (by omega)) ?_ | refine RG.val tok rfl rfl rfl trivial rfl rfl ?_ | refine RG.val tok rfl rfl rfl (by omega) rfl rfl ?_ | refine RG.idx tok rfl rfl rfl rfl rfl rfl (Go.Abs.ints_at (by omega)) ⟨by omega, by omega⟩ rfl ?_ | refine RG.idx tok rfl rfl rfl rfl rfl rfl (Go.Abs.rows_at (by omega)) ⟨by omega, by omega⟩ rfl ?_ | refine RG.load tok rfl rfl rfl rfl rfl rfl ?_ | refine RG.new tok rfl rfl rfl trivial rfl rfl ?_ | refine RG.store tok rfl rfl rfl rfl rfl rfl rfl rfl ?_ | refine RG.done rfl ?_ | refine RG.doneD (by kernel_rfl) rfl (by kernel_rfl) ?_ | refine AW.seq ?_ | refine AW.region ?_ | refine AW.skip ?_ | refine AW.block ?_ | refine AW.exit ?_ | refine AW.condT rfl ?_ | refine AW.condF rfl ?_))
  refine RG.call rfl rfl rfl rfl (m1) [] rfl rfl rfl rfl (.nil _) (.nil _) (fun _ h => False.elim h) rfl (A.ren_free _ _ rfl) rfl ?_
  (repeat (first | refine RG.skip rfl rfl rfl ?_ | refine RG.val tok rfl rfl rfl trivial rfl (iv_i64 (by omega)) ?_ | refine RG.val tok rfl rfl rfl trivial rfl (iv_u64 (by omega)) ?_ | refine RG.val tok rfl rfl rfl trivial rfl rfl ?_ | refine RG.val tok rfl rfl rfl (by omega) rfl rfl ?_ | refine RG.idx tok rfl rfl rfl rfl rfl rfl (Go.Abs.ints_at (by omega)) ⟨by omega, by omega⟩ rfl ?_ | refine RG.idx tok rfl rfl rfl rfl rfl rfl (Go.Abs.rows_at (by omega)) ⟨by omega, by omega⟩ rfl ?_ | refine RG.load tok rfl rfl rfl rfl rfl rfl ?_ | refine RG.new tok rfl rfl rfl trivial rfl rfl ?_ | refine RG.store tok rfl rfl rfl rfl rfl rfl rfl rfl ?_ | refine RG.done rfl ?_ | refine RG.doneD (by kernel_rfl) rfl (by kernel_rfl) ?_ | refine AW.seq ?_ | refine AW.region ?_ | refine AW.skip ?_ | refine AW.block ?_ | refine AW.exit ?_ | refine AW.condT rfl ?_ | refine AW.condF rfl ?_))
  refine RG.call rfl rfl rfl rfl (cv) [] rfl rfl rfl rfl (.nil _) (.nil _) (fun _ h => False.elim h) rfl (A.ren_free _ _ rfl) rfl ?_
  (repeat (first | refine RG.skip rfl rfl rfl ?_ | refine RG.val tok rfl rfl rfl trivial rfl (iv_i64 (by omega)) ?_ | refine RG.val tok rfl rfl rfl trivial rfl (iv_u64 (by omega)) ?_ | refine RG.val tok rfl rfl rfl trivial rfl rfl ?_ | refine RG.val tok rfl rfl rfl (by omega) rfl rfl ?_ | refine RG.idx tok rfl rfl rfl rfl rfl rfl (Go.Abs.ints_at (by omega)) ⟨by omega, by omega⟩ rfl ?_ | refine RG.idx tok rfl rfl rfl rfl rfl rfl (Go.Abs.rows_at (by omega)) ⟨by omega, by omega⟩ rfl ?_ | refine RG.load tok rfl rfl rfl rfl rfl rfl ?_ | refine RG.new tok rfl rfl rfl trivial rfl rfl ?_ | refine RG.store tok rfl rfl rfl rfl rfl rfl rfl rfl ?_ | refine RG.done rfl ?_ | refine RG.doneD (by kernel_rfl) rfl (by kernel_rfl) ?_ | refine AW.seq ?_ | refine AW.region ?_ | refine AW.skip ?_ | refine AW.block ?_ | refine AW.exit ?_ | refine AW.condT rfl ?_ | refine AW.condF rfl ?_))
  refine RG.call rfl rfl rfl rfl (ct) [] rfl rfl rfl rfl (.nil _) (.nil _) (fun _ h => False.elim h) rfl (A.ren_free _ _ rfl) rfl ?_
  (repeat (first | refine RG.skip rfl rfl rfl ?_ | refine RG.val tok rfl rfl rfl trivial rfl (iv_i64 (by omega)) ?_ | refine RG.val tok rfl rfl rfl trivial rfl (iv_u64 (by omega)) ?_ | refine RG.val tok rfl rfl rfl trivial rfl rfl ?_ | refine RG.val tok rfl rfl rfl (by omega) rfl rfl ?_ | refine RG.idx tok rfl rfl rfl rfl rfl rfl (Go.Abs.ints_at (by omega)) ⟨by omega, by omega⟩ rfl ?_ | refine RG.idx tok rfl rfl rfl rfl rfl rfl (Go.Abs.rows_at (by omega)) ⟨by omega, by omega⟩ rfl ?_ | refine RG.load tok rfl rfl rfl rfl rfl rfl ?_ | refine RG.new tok rfl rfl rfl trivial rfl rfl ?_ | refine RG.store tok rfl rfl rfl rfl rfl rfl rfl rfl ?_ | refine RG.done rfl ?_ | refine RG.doneD (by kernel_rfl) rfl (by kernel_rfl) ?_ | refine AW.seq ?_ | refine AW.region ?_ | refine AW.skip ?_ | refine AW.block ?_ | refine AW.exit ?_ | refine AW.condT rfl ?_ | refine AW.condF rfl ?_))
  refine RG.call rfl rfl rfl rfl (cj) [] rfl rfl rfl rfl (.nil _) (.nil _) (fun _ h => False.elim h) rfl (A.ren_free _ _ rfl) rfl ?_
  (repeat (first | refine RG.skip rfl rfl rfl ?_ | refine RG.val tok rfl rfl rfl trivial rfl (iv_i64 (by omega)) ?_ | refine RG.val tok rfl rfl rfl trivial rfl (iv_u64 (by omega)) ?_ | refine RG.val tok rfl rfl rfl trivial rfl rfl ?_ | refine RG.val tok rfl rfl rfl (by omega) rfl rfl ?_ | refine RG.idx tok rfl rfl rfl rfl rfl rfl (Go.Abs.ints_at (by omega)) ⟨by omega, by omega⟩ rfl ?_ | refine RG.idx tok rfl rfl rfl rfl rfl rfl (Go.Abs.rows_at (by omega)) ⟨by omega, by omega⟩ rfl ?_ | refine RG.load tok rfl rfl rfl rfl rfl rfl ?_ | refine RG.new tok rfl rfl rfl trivial rfl rfl ?_ | refine RG.store tok rfl rfl rfl rfl rfl rfl rfl rfl ?_ | refine RG.done rfl ?_ | refine RG.doneD (by kernel_rfl) rfl (by kernel_rfl) ?_ | refine AW.region ?_ | refine AW.skip ?_ | refine AW.block ?_ | refine AW.exit ?_ | refine AW.condT rfl ?_ | refine AW.condF rfl ?_))
  refine AW.seq ?_
  refine AW.seqB 80 (fun t => t = false) ?_ (fun t ht => ?_)
  · (repeat (first | refine RG.call rfl rfl rfl rfl (a1) [] rfl rfl rfl rfl (.nil _) (.nil _) (fun _ h => False.elim h) rfl (A.ren_free _ _ rfl) rfl ?_ | refine RG.call rfl rfl rfl rfl (a2) [] rfl rfl rfl rfl (.nil _) (.nil _) (fun _ h => False.elim h) rfl (A.ren_free _ _ rfl) rfl ?_ | refine RG.call rfl rfl rfl rfl (a3) [] rfl rfl rfl rfl (.nil _) (.nil _) (fun _ h => False.elim h) rfl (A.ren_free _ _ rfl) rfl ?_ | refine RG.call rfl rfl rfl rfl (cj2) [] rfl rfl rfl rfl (.nil _) (.nil _) (fun _ h => False.elim h) rfl (A.ren_free _ _ rfl) rfl ?_ | refine RG.call rfl rfl rfl rfl (a4) [] rfl rfl rfl rfl (.nil _) (.nil _) (fun _ h => False.elim h) rfl (A.ren_free _ _ rfl) rfl ?_ | refine RG.call rfl rfl rfl rfl (cj3) [] rfl rfl rfl rfl (.nil _) (.nil _) (fun _ h => False.elim h) rfl (A.ren_free _ _ rfl) rfl ?_ | refine RG.call rfl rfl rfl rfl (a5) [] rfl rfl rfl rfl (.nil _) (.nil _) (fun _ h => False.elim h) rfl (A.ren_free _ _ rfl) rfl ?_ | refine RG.call rfl rfl rfl rfl (a6) [] rfl rfl rfl rfl (.nil _) (.nil _) (fun _ h => False.elim h) rfl (A.ren_free _ _ rfl) rfl ?_ | refine RG.call rfl rfl rfl rfl (a7) [] rfl rfl rfl rfl (.nil _) (.nil _) (fun _ h => False.elim h) rfl (A.ren_free _ _ rfl) rfl ?_ | refine RG.skip rfl rfl rfl ?_ | refine RG.val tok rfl rfl rfl trivial rfl (iv_i64 (by omega)) ?_ | refine RG.val tok rfl rfl rfl trivial rfl (iv_u64 (by omega)) ?_ | refine RG.val tok rfl rfl rfl trivial rfl rfl ?_ | refine RG.val tok rfl rfl rfl (by omega) rfl rfl ?_ | refine RG.idx tok rfl rfl rfl rfl rfl rfl (Go.Abs.ints_at (by omega)) ⟨by omega, by omega⟩ rfl ?_ | refine RG.idx tok rfl rfl rfl rfl rfl rfl (Go.Abs.rows_at (by omega)) ⟨by omega, by omega⟩ rfl ?_ | refine RG.load tok rfl rfl rfl rfl rfl rfl ?_ | refine RG.new tok rfl rfl rfl trivial rfl rfl ?_ | refine RG.store tok rfl rfl rfl rfl rfl rfl rfl rfl ?_ | refine RG.done rfl ?_ | refine RG.doneD (by kernel_rfl) rfl (by kernel_rfl) ?_ | refine AW.seq ?_ | refine AW.region ?_ | refine AW.skip ?_ | refine AW.block ?_ | refine AW.exit ?_ | refine AW.condT rfl ?_ | refine AW.condF rfl ?_))
    exact ⟨_, by simp, Sub.of (SubE.put rfl (by repeat (first | with_reducible exact SubE.refl _ | refine SubE.over rfl ?_))) (by first | exact SubH.refl _ | (refine SubH.same rfl ?_; exact SubH.refl _) | (refine SubH.same rfl ?_; refine SubH.same rfl ?_; exact SubH.refl _)) rfl⟩
  subst ht
  refine AW.condF rfl ?_
  refine AW.skip ?_
  refine AW.seq ?_
  refine AW.seqB 124 (fun t => t = false) ?_ (fun t ht => ?_)
  · have a9' : gh = true → hg = true → FC Try.prog 27 [rdM .i64 g, rdM .i64 h] [] (.val (.bool true)) [] NoP := fun e1 e2 => by rw [decide_eq_true (t2 e1 e2)] at a9; exact a9
    have b3' : gk = true → FC Try.prog 22 [rdM .i64 j, rdM .i64 k] [] (.val (.bool hk)) [] NoP := fun e1 => by rw [q4 e1] at b3; exact b3
    clear a9 b3 q4 t2 q5 t3
    cases gh <;> cases hg <;> cases gk <;> cases hk <;> first
      | exact absurd (t1 rfl rfl) (by decide)
      | ((repeat (first | refine RG.call rfl rfl rfl rfl (a6) [] rfl rfl rfl rfl (.nil _) (.nil _) (fun _ h => False.elim h) rfl (A.ren_free _ _ rfl) rfl ?_ | refine RG.call rfl rfl rfl rfl (a8) [] rfl rfl rfl rfl (.nil _) (.nil _) (fun _ h => False.elim h) rfl (A.ren_free _ _ rfl) rfl ?_ | refine RG.call rfl rfl rfl rfl ((a9' rfl rfl)) [] rfl rfl rfl rfl (.nil _) (.nil _) (fun _ h => False.elim h) rfl (A.ren_free _ _ rfl) rfl ?_ | refine RG.call rfl rfl rfl rfl (b1) [] rfl rfl rfl rfl (.nil _) (.nil _) (fun _ h => False.elim h) rfl (A.ren_free _ _ rfl) rfl ?_ | refine RG.call rfl rfl rfl rfl (b2) [] rfl rfl rfl rfl (.nil _) (.nil _) (fun _ h => False.elim h) rfl (A.ren_free _ _ rfl) rfl ?_ | refine RG.call rfl rfl rfl rfl ((b3' rfl)) [] rfl rfl rfl rfl (.nil _) (.nil _) (fun _ h => False.elim h) rfl (A.ren_free _ _ rfl) rfl ?_ | refine RG.skip rfl rfl rfl ?_ | refine RG.val tok rfl rfl rfl trivial rfl (iv_i64 (by omega)) ?_ | refine RG.val tok rfl rfl rfl trivial rfl (iv_u64 (by omega)) ?_ | refine RG.val tok rfl rfl rfl trivial rfl rfl ?_ | refine RG.val tok rfl rfl rfl (by omega) rfl rfl ?_ | refine RG.idx tok rfl rfl rfl rfl rfl rfl (Go.Abs.ints_at (by omega)) ⟨by omega, by omega⟩ rfl ?_ | refine RG.idx tok rfl rfl rfl rfl rfl rfl (Go.Abs.rows_at (by omega)) ⟨by omega, by omega⟩ rfl ?_ | refine RG.load tok rfl rfl rfl rfl rfl rfl ?_ | refine RG.new tok rfl rfl rfl trivial rfl rfl ?_ | refine RG.store tok rfl rfl rfl rfl rfl rfl rfl rfl ?_ | refine RG.done rfl ?_ | refine RG.doneD (by kernel_rfl) rfl (by kernel_rfl) ?_ | refine AW.seq ?_ | refine AW.region ?_ | refine AW.skip ?_ | refine AW.block ?_ | refine AW.exit ?_ | refine AW.condT rfl ?_ | refine AW.condF rfl ?_)); exact ⟨_, rfl, Sub.of (SubE.put rfl (by repeat (first | with_reducible exact SubE.refl _ | refine SubE.over rfl ?_))) (by first | exact SubH.refl _ | (refine SubH.same rfl ?_; exact SubH.refl _) | (refine SubH.same rfl ?_; refine SubH.same rfl ?_; exact SubH.refl _)) rfl⟩)
  subst ht
  refine AW.condF rfl ?_
  refine AW.skip ?_
  have b7' : gv = true → FC Try.prog 14 [rdM .i64 j, rdI .i64 v] [] (.val (.bool true)) [] NoP := fun e1 => by rw [q5 e1] at b7; exact b7
  cases gv <;> cases kg <;> first
    | exact absurd (t3 rfl) (by decide)
    | ((repeat (first | refine RG.call rfl rfl rfl rfl (b4) [] rfl rfl rfl rfl (.nil _) (.nil _) (fun _ h => False.elim h) rfl (A.ren_free _ _ rfl) rfl ?_ | refine RG.call rfl rfl rfl rfl (cj4) [] rfl rfl rfl rfl (.nil _) (.nil _) (fun _ h => False.elim h) rfl (A.ren_free _ _ rfl) rfl ?_ | refine RG.call rfl rfl rfl rfl (b5) [] rfl rfl rfl rfl (.nil _) (.nil _) (fun _ h => False.elim h) rfl (A.ren_free _ _ rfl) rfl ?_ | refine RG.call rfl rfl rfl rfl (b6) [] rfl rfl rfl rfl (.nil _) (.nil _) (fun _ h => False.elim h) rfl (A.ren_free _ _ rfl) rfl ?_ | refine RG.call rfl rfl rfl rfl ((b7' rfl)) [] rfl rfl rfl rfl (.nil _) (.nil _) (fun _ h => False.elim h) rfl (A.ren_free _ _ rfl) rfl ?_ | refine RG.call rfl rfl rfl rfl (b8) [] rfl rfl rfl rfl (.nil _) (.nil _) (fun _ h => False.elim h) rfl (A.ren_free _ _ rfl) rfl ?_ | refine RG.skip rfl rfl rfl ?_ | refine RG.val tok rfl rfl rfl trivial rfl (iv_i64 (by omega)) ?_ | refine RG.val tok rfl rfl rfl trivial rfl (iv_u64 (by omega)) ?_ | refine RG.val tok rfl rfl rfl trivial rfl rfl ?_ | refine RG.val tok rfl rfl rfl (by omega) rfl rfl ?_ | refine RG.idx tok rfl rfl rfl rfl rfl rfl (Go.Abs.ints_at (by omega)) ⟨by omega, by omega⟩ rfl ?_ | refine RG.idx tok rfl rfl rfl rfl rfl rfl (Go.Abs.rows_at (by omega)) ⟨by omega, by omega⟩ rfl ?_ | refine RG.load tok rfl rfl rfl rfl rfl rfl ?_ | refine RG.new tok rfl rfl rfl trivial rfl rfl ?_ | refine RG.store tok rfl rfl rfl rfl rfl rfl rfl rfl ?_ | refine RG.done rfl ?_ | refine RG.doneD (by kernel_rfl) rfl (by kernel_rfl) ?_ | refine AW.seq ?_ | refine AW.region ?_ | refine AW.skip ?_ | refine AW.block ?_ | refine AW.exit ?_ | refine AW.ret ?_ | refine AW.condT rfl ?_ | refine AW.condF rfl ?_)); exact ⟨⟨_, rfl, rfl⟩, rfl, .nil _⟩)
end Go.Proofs.Ytajlmkokfgbjdaa
