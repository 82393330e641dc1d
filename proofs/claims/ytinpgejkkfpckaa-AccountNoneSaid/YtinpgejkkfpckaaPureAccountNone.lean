/-
  AccountNone: the walk tells 'true' whatever comes in.
-/
import Derived.Test.YtinpgejkkfpckaaShapeAccountNone
namespace Go.Proofs.Ytinpgejkkfpckaa.Pure
open Go.RowKit Go.Proofs.Ytinpgejkkfpckaa.Pr Go.Proofs.YtinpgejkkfpckaaW.PrintWords Go.Proofs.YtinpgejkkfpckaaW.PrintLast Go.Proofs.YtinpgejkkfpckaaO
theorem AccountNone : ∀ (x0 : S36) (a1 : ByteArray) (a2 : Int) (a3 : Int), opW36 x0 → a1.size ≤ 140737488351232 → (Lit.int .i64 a2).wf = true → (Lit.int .i64 a3).wf = true → musterlaw27_AccountNone.f x0.f0 x0.f1 x0.f2 x0.f3 x0.f4 x0.f5 x0.f6 x0.f7 a1 a2 a3 = some true := fun _ _ _ _ _ _ _ _ => rfl
end Go.Proofs.Ytinpgejkkfpckaa.Pure
