import Derived.Test.YtafnjlgdjhegaaaShapeSessionNumbers
namespace Go.Proofs.Ytafnjlgdjhegaaa.Pure
open Go.RowKit Go.Proofs.Ytafnjlgdjhegaaa.Pr Go.Proofs.YtafnjlgdjhegaaaW.PrintWords Go.Proofs.YtafnjlgdjhegaaaW.PrintLast Go.Proofs.YtafnjlgdjhegaaaO
theorem SessionNumbers : musterlaw09_SessionNumbers.f  = some true := rfl
end Go.Proofs.Ytafnjlgdjhegaaa.Pure
