-- Written by this session's program wip/tools/pr.py out of the translation (with the kit's print.py). Not trusted: Lean checks it.
import Derived.Test.YteipoopdnimiaaaPr0
import Derived.Test.YteipoopdnimiaaaHPlace
namespace Go.Proofs.Yteipoopdnimiaaa.Pr
open Go.RowKit Go.Proofs.YteipoopdnimiaaaW.PrintWords Go.Proofs.YteipoopdnimiaaaW.PrintLast Go.Proofs.YteipoopdnimiaaaW.PrintMore
attribute [local go_sem] max2_int min2_int max_two min_two max_three min_three max_four min_four   -- for this text's walks alone
set_option linter.unusedVariables false
set_option linter.unusedSimpArgs false

/-! ### steps_place: function 22, by hand -/
-- HANDMODULE Derived.Test.YteipoopdnimiaaaHPlace
-- HANDNAMES steps_place.f steps_place.calls steps_place.mono 

end Go.Proofs.Yteipoopdnimiaaa.Pr
