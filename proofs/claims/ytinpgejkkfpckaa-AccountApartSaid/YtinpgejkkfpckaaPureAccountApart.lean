import Derived.Test.YtinpgejkkfpckaaShapeAccountApart
namespace Go.Proofs.Ytinpgejkkfpckaa.Pure
open Go.RowKit Go.Proofs.Ytinpgejkkfpckaa.Pr Go.Proofs.YtinpgejkkfpckaaW.PrintWords Go.Proofs.YtinpgejkkfpckaaW.PrintLast Go.Proofs.YtinpgejkkfpckaaO
theorem AccountApart : ∀ (l0 : List (S36)) (x1 : S36), (l0.length * 80 ≤ 140737488351232 ∧ l0.length ≤ 9223372036854775807 ∧ ∀ y ∈ l0, opW36 y) → opW36 x1 → musterlaw27_AccountApart.f l0 x1.f0 x1.f1 x1.f2 x1.f3 x1.f4 x1.f5 x1.f6 x1.f7 = some true := fun _ _ _ _ => rfl
end Go.Proofs.Ytinpgejkkfpckaa.Pure
