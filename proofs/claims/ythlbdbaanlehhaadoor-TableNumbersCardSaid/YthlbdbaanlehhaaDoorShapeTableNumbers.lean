/-
  What is known of the arguments of muster/musterlaw31.TableNumbers that can be read. Written by this session's program wip/tools/pr.py.
-/
import Derived.Test.YthlbdbaanlehhaaDoorHNumbers
import Derived.Test.YthlbdbaanlehhaaDoorO
namespace Go.Proofs.YthlbdbaanlehhaaDoor.Pure
open Go.RowKit Go.Proofs.YthlbdbaanlehhaaDoor.Pr Go.Proofs.YthlbdbaanlehhaaDoorW.PrintWords Go.Proofs.YthlbdbaanlehhaaDoorW.PrintLast Go.Proofs.YthlbdbaanlehhaaDoorO

end Go.Proofs.YthlbdbaanlehhaaDoor.Pure
