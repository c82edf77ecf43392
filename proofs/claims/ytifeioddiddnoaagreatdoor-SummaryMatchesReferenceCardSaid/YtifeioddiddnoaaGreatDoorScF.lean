/- The greatest summary. No conditions. -/
import Derived.Test.YtifeioddiddnoaaGreatDoorScE
import Derived.Test.YtifeioddiddnoaaGreatDoorScEp
import Derived.Test.YtifeioddiddnoaaGreatDoorAbsE
set_option linter.unusedVariables false
set_option linter.unusedSimpArgs false
namespace Go.Proofs.YtifeioddiddnoaaGreatDoor
open Go.Abs Go Go.RowKit
set_option maxRecDepth 20000
def topS (id : Int) : Sy := ⟨id, nf (trAll 255), 4294967294, 7, 0, prAll, 1099511627776⟩
def zSum : Sy := ⟨0, ⟨0, 0, 0, 0, 0⟩, 0, 0, 0, [], 0⟩
set_option maxHeartbeats 4000000 in
theorem topN_fc (p : Pg) (hp : p.dc = dcM) (hn : p.heads.length ≤ 1000) (id : Int) (hi : headF p.heads id = none) : FC Tryz.prog ge 39 [.agg (pgC p), i64 id] [] (.tup [.agg zSum.cl, i64 4]) [] NoP := by
  obtain ⟨ha, hb, hc, n1, n2, l1, l2, cH⟩ := headW_fc p hp id hn
  rw [hi] at cH
  simp only [Option.isSome_none] at cH
  refine FC.of_AW tok Tryz.func39 (by kernel_rfl) rfl Tryz.ntmps39 [] rfl rfl rfl ?_; intro w0 X0 Y f0 hI0 hX0
  (repeat (first | refine RG.call rfl rfl rfl rfl (cH) [] rfl rfl rfl rfl (.nil _) (.nil _) (fun _ h => False.elim h) rfl (A.ren_free _ _ rfl) rfl ?_ | refine K4 ?_ | refine L1 ?_ | refine L2 ?_ | refine L3 ?_ | refine RG.d ?_ | refine S1 ?_ | refine S2 ?_ | refine S7 ?_))
  refine AW.sub (Sub.frzH (ks := []) (c' := zSum.cl) 1 rfl List.not_mem_nil (by repeat (first | exact Frzs.nil | refine Frzs.cons (Frz.wk (Frz.refl _) Wk.nil) ?_ | refine Frzs.cons (Frz.refl _) ?_))) ?_
  refine S6 ?_
  exact ⟨⟨_, rfl, rfl⟩, rfl, .nil _⟩
set_option maxHeartbeats 8000000 in
theorem top_fc (p : Pg) (hp : p.dc = dcM) (hn : p.heads.length ≤ 1000) (id : Int) (hi : (headF p.heads id).isSome = true) : FC Tryz.prog ge 39 [.agg (pgC p), i64 id] [] (.tup [.agg (topS id).cl, i64 0]) [] NoP := by
  obtain ⟨ha, hb, hc, n1, n2, l1, l2, cH⟩ := headW_fc p hp id hn
  rw [hi] at cH
  have cA := sall_fc 255
  unfold topS
  obtain ⟨J, hJ⟩ : ∃ J, J = nf (trAll 255) := ⟨_, rfl⟩
  rw [← hJ] at cA ⊢
  obtain ⟨J1, J2, J3, J4, J5⟩ := J
  simp only [Ab.cl, Sy.cl] at cA ⊢
  refine FC.of_AW tok Tryz.func39 (by kernel_rfl) rfl Tryz.ntmps39 [] rfl rfl rfl ?_; intro w0 X0 Y f0 hI0 hX0
  (repeat (first | refine RG.call rfl rfl rfl rfl (cH) [] rfl rfl rfl rfl (.nil _) (.nil _) (fun _ h => False.elim h) rfl (A.ren_free _ _ rfl) rfl ?_ | refine RG.call rfl rfl rfl rfl (cA) [] rfl rfl rfl rfl (.nil _) (.nil _) (fun _ h => False.elim h) rfl (A.ren_free _ _ rfl) rfl ?_ | refine K4 ?_ | refine K5 ?_ | refine L1 ?_ | refine L2 ?_ | refine L3 ?_ | refine RG.d ?_ | refine RG.dd ?_ | refine S1 ?_ | refine S2 ?_ | refine S3 ?_ | refine S4 ?_ | refine S8 ?_))
  (repeat (first | refine RG.append tok rfl rfl rfl rfl rfl rfl rfl rfl rfl rfl rfl (by decide) rfl (by decide) (by decide) rfl rfl ?_ | refine K2 ?_ | refine K4 ?_ | refine L1 ?_ | refine L2 ?_ | refine L3 ?_ | refine RG.d ?_ | refine S1 ?_ | refine S2 ?_ | refine AW.rounds 5 ?_ | refine S3 ?_ | refine S4 ?_ | refine S5 ?_ | refine S7 ?_ | refine S8 ?_))
  refine AW.sub (Sub.frzH (ks := [15]) (c' := [i64 id, i64 J1, i64 J2, i64 J3, i64 J4, i64 J5, i64 4294967294, i64 7, i64 0, rdP prAll, i64 1099511627776]) 1 rfl (by decide) (by repeat (first | exact Frzs.nil | refine Frzs.cons (Frz.refl _) ?_ | refine Frzs.cons (Frz.sl (c := flC Pr.cl prAll) (l := flC Pr.cl prAll) rfl (.head _) rfl rfl) ?_))) ?_
  refine S6 ?_
  exact ⟨⟨_, rfl, rfl⟩, rfl, .nil _⟩
end Go.Proofs.YtifeioddiddnoaaGreatDoor
