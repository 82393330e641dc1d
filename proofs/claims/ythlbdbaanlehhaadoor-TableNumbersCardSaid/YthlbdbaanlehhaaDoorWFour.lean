-- Out of the kit's print.sh; what the claim does not use is left out (wip/tools/thin.py).
import Derived.Test.YthlbdbaanlehhaaDoorWTab
/-! ### 56. Four, five, six operations that may come up next, in any order -/
namespace Go.Proofs.YthlbdbaanlehhaaDoorW.PrintLast
section
variable {P : Program} {ops : Array Oper} {Q : Exit → Act → World → Prop} {md : Region.Mode} {S : World → Prop} {ds : List Nat} {T : Bool × List (List Nat × List Nat)}
end
end Go.Proofs.YthlbdbaanlehhaaDoorW.PrintLast
