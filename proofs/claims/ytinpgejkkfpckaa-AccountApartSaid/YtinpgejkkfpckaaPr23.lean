-- Written by this session's program wip/tools/pr.py out of the translation (with the kit's print.py). Not trusted: Lean checks it.
import Derived.Test.YtinpgejkkfpckaaPr0
namespace Go.Proofs.Ytinpgejkkfpckaa.Pr
open Go.RowKit Go.Proofs.YtinpgejkkfpckaaW.PrintWords Go.Proofs.YtinpgejkkfpckaaW.PrintLast Go.Proofs.YtinpgejkkfpckaaW.PrintMore
attribute [local go_sem] max2_int min2_int max_two min_two max_three min_three max_four min_four   -- for this text's walks alone
set_option linter.unusedVariables false
set_option linter.unusedSimpArgs false

/-! ### musterlow_mark: function 43 -/
def musterlow_mark.f (a0 : Int) (a1 : Int) : Option (Int) := some (wrap64 ((wrap64 (1000003 * (wrap64 (a0 + 7)))) + a1))
set_option maxHeartbeats 8000000 in
set_option maxRecDepth 100000 in
theorem musterlow_mark.calls (a0 : Int) (a1 : Int) (r : Int) (w : World) (h : musterlow_mark.f a0 a1 = some r) :
    Calls Try.prog 43 #[.int .i64 a0, .int .i64 a1] w fun e w' => e = .returned (.int .i64 r) ∧ Drawn0 w w' := by
  have H : (some (wrap64 ((wrap64 (1000003 * (wrap64 (a0 + 7)))) + a1))) = some r := h
  clear h
  obtain rfl := Option.some.inj H
  go_enter Try.func43, Try.ntmps43
  go_wp2
  go_ret
  exact ⟨by first | rfl | (simp; done) | (simp [*]; done), by repeat (first | exact Drawn0.refl _ | apply Drawn0.step)⟩

-- NOT PRINTED: function 29 (musterlow_ApartNumbers)

end Go.Proofs.Ytinpgejkkfpckaa.Pr
