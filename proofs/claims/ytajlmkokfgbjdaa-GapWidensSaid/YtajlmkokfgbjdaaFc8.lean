/- GapWidens for every input that came in. No conditions. -/
import Derived.Test.YtajlmkokfgbjdaaFc7
import Derived.Test.YtajlmkokfgbjdaaFf1
namespace Go.Proofs.Ytajlmkokfgbjdaa
open Go.Abs Go Go.RowKit
theorem gapWidens_true (V0 P0 : Nat) (N0 : List Int) (v0 : Value) (V1 P1 : Nat) (N1 : List Int) (v1 : Value) (V2 P2 : Nat) (N2 : List Int) (v2 : Value) (W : World)
    (a0 : V0 < 256) (b0 : P0 < 256) (l0 : N0.length ≤ 9223372036854775807) (r0 : V noPl (fun _ => False) W (rawA V0 P0 N0) v0)
    (_ : V1 < 256) (_ : P1 < 256) (l1 : N1.length ≤ 9223372036854775807) (r1 : V noPl (fun _ => False) W (rawA V1 P1 N1) v1)
    (_ : V2 < 256) (_ : P2 < 256) (l2 : N2.length ≤ 9223372036854775807) (r2 : V noPl (fun _ => False) W (rawA V2 P2 N2) v2) :
    Calls Try.prog 7 #[v0, v1, v2] W fun e w' => e = .returned (.bool true) ∧ Below W.heap.size W w' :=
  FC.calls (gapWidens_fc V0 P0 V1 P1 V2 P2 N0 N1 N2 a0 b0 l0 l1 l2) (vs := [v0, v1, v2]) (.cons r0 (.cons r1 (.cons r2 .nil)))
end Go.Proofs.Ytajlmkokfgbjdaa
