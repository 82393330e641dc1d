import Derived.Test.YtinpgejkkfpckaaShapeAccountParts
namespace Go.Proofs.Ytinpgejkkfpckaa.Pure
open Go.RowKit Go.Proofs.Ytinpgejkkfpckaa.Pr Go.Proofs.YtinpgejkkfpckaaW.PrintWords Go.Proofs.YtinpgejkkfpckaaW.PrintLast Go.Proofs.YtinpgejkkfpckaaO
theorem AccountParts : ∀ (l0 : List (S36)) (a1 : Int) (a2 : Int) (a3 : Int) (a4 : Int), (l0.length * 80 ≤ 140737488351232 ∧ l0.length ≤ 9223372036854775807 ∧ ∀ y ∈ l0, opW36 y) → (Lit.int .i64 a1).wf = true → (Lit.int .i64 a2).wf = true → (Lit.int .i64 a3).wf = true → (Lit.int .i64 a4).wf = true → musterlaw27_AccountParts.f l0 a1 a2 a3 a4 = some true := fun _ _ _ _ _ _ _ _ _ _ => rfl
end Go.Proofs.Ytinpgejkkfpckaa.Pure
