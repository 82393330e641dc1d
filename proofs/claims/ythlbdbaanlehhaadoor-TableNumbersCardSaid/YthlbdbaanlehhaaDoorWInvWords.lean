-- Out of the kit's print.sh; what the claim does not use is left out (wip/tools/thin.py).
import Derived.Test.YthlbdbaanlehhaaDoorWInv
import Derived.Test.YthlbdbaanlehhaaDoorWFootNe
namespace Go.Proofs.YthlbdbaanlehhaaDoorW.PrintWords
open Go.RowKit
end Go.Proofs.YthlbdbaanlehhaaDoorW.PrintWords
namespace Go.Proofs.YthlbdbaanlehhaaDoorW.PrintLast
section
variable {ops : Array Oper} {a : Act} {o og : Oper} {g : Nat} {t : Tmp} {u : Bool}
end
end Go.Proofs.YthlbdbaanlehhaaDoorW.PrintLast
