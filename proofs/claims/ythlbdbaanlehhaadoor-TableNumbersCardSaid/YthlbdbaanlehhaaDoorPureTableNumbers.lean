/-
  What the walk of TableNumbers asks is nothing: the statement has no arguments.
-/
import Derived.Test.YthlbdbaanlehhaaDoorShapeTableNumbers
namespace Go.Proofs.YthlbdbaanlehhaaDoor.Pure
open Go.RowKit Go.Proofs.YthlbdbaanlehhaaDoor.Pr
theorem TableNumbers : musterlaw31_TableNumbers.f = some true := rfl
end Go.Proofs.YthlbdbaanlehhaaDoor.Pure
