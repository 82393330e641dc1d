import Derived.Test.YtinpgejkkfpckaaShapeAccountOnce
namespace Go.Proofs.Ytinpgejkkfpckaa.Pure
open Go.RowKit Go.Proofs.Ytinpgejkkfpckaa.Pr Go.Proofs.YtinpgejkkfpckaaW.PrintWords Go.Proofs.YtinpgejkkfpckaaW.PrintLast Go.Proofs.YtinpgejkkfpckaaO
theorem AccountOnce : ∀ (l0 : List Int) (l1 : List Int) (l2 : List Int), (l0.length * 8 ≤ 140737488351232 ∧ l0.length ≤ 9223372036854775807 ∧ ∀ y ∈ l0, (Lit.int .i64 y).wf = true) → (l1.length * 8 ≤ 140737488351232 ∧ l1.length ≤ 9223372036854775807 ∧ ∀ y ∈ l1, (Lit.int .i64 y).wf = true) → (l2.length * 8 ≤ 140737488351232 ∧ l2.length ≤ 9223372036854775807 ∧ ∀ y ∈ l2, (Lit.int .i64 y).wf = true) → musterlaw27_AccountOnce.f l0 l1 l2 = some true := fun _ _ _ _ _ _ => rfl
end Go.Proofs.Ytinpgejkkfpckaa.Pure
