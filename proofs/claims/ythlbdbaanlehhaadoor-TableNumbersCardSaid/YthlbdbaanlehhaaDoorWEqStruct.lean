-- Out of the kit's print.sh; what the claim does not use is left out (wip/tools/thin.py).
import Derived.Test.YthlbdbaanlehhaaDoorWWords
import Derived.Laws.StructEq
/-! ### 53. '==' of structs as_ one Bool -/
namespace Go.Proofs.YthlbdbaanlehhaaDoorW.PrintWords
open Go.RowKit
section
variable {P : Program} {d : Nat} {xs ys : Array Value} {f : Field} {fs : List Field} {a b : Value} {r s : Bool} {w : World}
end
end Go.Proofs.YthlbdbaanlehhaaDoorW.PrintWords
