/-
  What is known of the arguments of muster/musterlaw09.SessionNumbers that can be read. Written by this session's program wip/tools/pr.py.
-/
import Derived.Test.YtafnjlgdjhegaaaHNums
import Derived.Test.YtafnjlgdjhegaaaO
namespace Go.Proofs.Ytafnjlgdjhegaaa.Pure
open Go.RowKit Go.Proofs.Ytafnjlgdjhegaaa.Pr Go.Proofs.YtafnjlgdjhegaaaW.PrintWords Go.Proofs.YtafnjlgdjhegaaaW.PrintLast Go.Proofs.YtafnjlgdjhegaaaO

end Go.Proofs.Ytafnjlgdjhegaaa.Pure
