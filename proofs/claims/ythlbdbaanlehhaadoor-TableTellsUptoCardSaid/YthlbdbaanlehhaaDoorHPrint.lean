/-
  nodeset.Print is not asked here: nothing is said of it.
-/
import Derived.Test.YthlbdbaanlehhaaDoorPr0
namespace Go.Proofs.YthlbdbaanlehhaaDoor.Pr
open Go.RowKit Go.Proofs.YthlbdbaanlehhaaDoorW.PrintWords Go.Proofs.YthlbdbaanlehhaaDoorW.PrintLast Go.Proofs.YthlbdbaanlehhaaDoorW.PrintMore
set_option linter.unusedVariables false
set_option linter.unusedSimpArgs false
def nodeset_Print.f (a0 : Int) : Option ByteArray := none
theorem nodeset_Print.calls (a0 : Int) (r : ByteArray) (w : World) (h : nodeset_Print.f a0 = some r) : Calls Tryd.prog 29 #[.int .u32 a0] w fun e w' => e = .returned (.string r) ∧ Below w.heap.size w w' := by
  cases h
end Go.Proofs.YthlbdbaanlehhaaDoor.Pr
