-- Out of the kit's print.sh; what the claim does not use is left out (wip/tools/thin.py).
import Derived.Test.YtafnjlgdjhegaaaWInv
import Derived.Test.YtafnjlgdjhegaaaWFootNe
namespace Go.Proofs.YtafnjlgdjhegaaaW.PrintWords
open Go.RowKit
end Go.Proofs.YtafnjlgdjhegaaaW.PrintWords
namespace Go.Proofs.YtafnjlgdjhegaaaW.PrintLast
section
variable {ops : Array Oper} {a : Act} {o og : Oper} {g : Nat} {t : Tmp} {u : Bool}
end
end Go.Proofs.YtafnjlgdjhegaaaW.PrintLast
