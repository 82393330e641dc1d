/-
  AccountPlays: the walk tells 'true' whatever comes in.
-/
import Derived.Test.YtinpgejkkfpckaaShapeAccountPlays
namespace Go.Proofs.Ytinpgejkkfpckaa.Pure
open Go.RowKit Go.Proofs.Ytinpgejkkfpckaa.Pr Go.Proofs.YtinpgejkkfpckaaW.PrintWords Go.Proofs.YtinpgejkkfpckaaW.PrintLast Go.Proofs.YtinpgejkkfpckaaO
theorem AccountPlays : ∀ (l0 : List (S36)) (a1 : ByteArray) (a2 : Int) (a3 : Int), (l0.length * 80 ≤ 140737488351232 ∧ l0.length ≤ 9223372036854775807 ∧ ∀ y ∈ l0, opW36 y) → a1.size ≤ 140737488351232 → (Lit.int .i64 a2).wf = true → (Lit.int .i64 a3).wf = true → musterlaw27_AccountPlays.f l0 a1 a2 a3 = some true := fun _ _ _ _ _ _ _ _ => rfl
end Go.Proofs.Ytinpgejkkfpckaa.Pure
