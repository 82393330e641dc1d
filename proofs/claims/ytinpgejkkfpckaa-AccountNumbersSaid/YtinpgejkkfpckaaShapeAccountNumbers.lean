/-
  What is known of the arguments of muster/musterlaw27.AccountNumbers that can be read. Written by this session's program wip/tools/pr.py.
-/
import Derived.Test.YtinpgejkkfpckaaHNumbers
import Derived.Test.YtinpgejkkfpckaaO
namespace Go.Proofs.Ytinpgejkkfpckaa.Pure
open Go.RowKit Go.Proofs.Ytinpgejkkfpckaa.Pr Go.Proofs.YtinpgejkkfpckaaW.PrintWords Go.Proofs.YtinpgejkkfpckaaW.PrintLast Go.Proofs.YtinpgejkkfpckaaO

end Go.Proofs.Ytinpgejkkfpckaa.Pure
