-- Out of the kit's print.sh; what the claim does not use is left out (wip/tools/thin.py).
import Derived.Test.YthlbdbaanlehhaaDoorWN
/-! ### 52. A row that stays read whatever happens to a block (a set of blocks) doesn't lie there -/
namespace Go.Proofs.YthlbdbaanlehhaaDoorW.PrintWords
open Go.RowKit
namespace Kd
section
variable {α : Type} {d : Kd α} {W : World} {g n : Nat} {S ok : Nat → Prop} {A : Option Addr} {ad : Addr} {xs : List α}
end
end Kd
end Go.Proofs.YthlbdbaanlehhaaDoorW.PrintWords
