-- Out of the kit's print.sh; what the claim does not use is left out (wip/tools/thin.py).
import Derived.Test.YtinpgejkkfpckaaWInv
import Derived.Test.YtinpgejkkfpckaaWFootNe
namespace Go.Proofs.YtinpgejkkfpckaaW.PrintWords
open Go.RowKit
end Go.Proofs.YtinpgejkkfpckaaW.PrintWords
namespace Go.Proofs.YtinpgejkkfpckaaW.PrintLast
section
variable {ops : Array Oper} {a : Act} {o og : Oper} {g : Nat} {t : Tmp} {u : Bool}
end
end Go.Proofs.YtinpgejkkfpckaaW.PrintLast
