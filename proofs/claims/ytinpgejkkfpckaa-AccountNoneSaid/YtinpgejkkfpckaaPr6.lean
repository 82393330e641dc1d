-- Written by this session's program wip/tools/pr.py out of the translation (with the kit's print.py). Not trusted: Lean checks it.
import Derived.Test.YtinpgejkkfpckaaPr0
import Derived.Test.YtinpgejkkfpckaaHNone
namespace Go.Proofs.Ytinpgejkkfpckaa.Pr
open Go.RowKit Go.Proofs.YtinpgejkkfpckaaW.PrintWords Go.Proofs.YtinpgejkkfpckaaW.PrintLast Go.Proofs.YtinpgejkkfpckaaW.PrintMore
attribute [local go_sem] max2_int min2_int max_two min_two max_three min_three max_four min_four   -- for this text's walks alone
set_option linter.unusedVariables false
set_option linter.unusedSimpArgs false

/-! ### musterlaw27_AccountNone: function 9, by hand -/
-- HANDMODULE Derived.Test.YtinpgejkkfpckaaHNone
-- HANDNAMES musterlaw27_AccountNone.f musterlaw27_AccountNone.calls musterlaw27_AccountNone.mono 

end Go.Proofs.Ytinpgejkkfpckaa.Pr
