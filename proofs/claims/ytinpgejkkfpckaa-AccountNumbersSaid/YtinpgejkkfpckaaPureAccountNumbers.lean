import Derived.Test.YtinpgejkkfpckaaShapeAccountNumbers
namespace Go.Proofs.Ytinpgejkkfpckaa.Pure
open Go.RowKit Go.Proofs.Ytinpgejkkfpckaa.Pr Go.Proofs.YtinpgejkkfpckaaW.PrintWords Go.Proofs.YtinpgejkkfpckaaW.PrintLast Go.Proofs.YtinpgejkkfpckaaO
theorem AccountNumbers : musterlaw27_AccountNumbers.f  = some true := rfl
end Go.Proofs.Ytinpgejkkfpckaa.Pure
