/-
  account.Right, by hand: a chain of bounds.
-/
import Derived.Test.YtinpgejkkfpckaaPr0
import Derived.Test.YtinpgejkkfpckaaG
namespace Go.Proofs.Ytinpgejkkfpckaa.Pr
open Go.RowKit Go.Proofs.YtinpgejkkfpckaaW.PrintWords Go.Proofs.YtinpgejkkfpckaaW.PrintLast Go.Proofs.YtinpgejkkfpckaaW.PrintMore Go.Proofs.YtinpgejkkfpckaaG
set_option linter.unusedVariables false
set_option linter.unusedSimpArgs false
theorem undef_no {b : Bool} (h : some undef = some (Value.bool b)) : False := by
  injection h with h
  cases h
/-- The first eleven bounds. -/
def fitP (a b c : Int) (d e : ByteArray) (f g : Int) : Prop := a ≥ 1 ∧ a ≤ 1073741824 ∧ b ≥ 1 ∧ b ≤ 3 ∧ c ≥ 0 ∧ c ≤ 1099511627776 ∧ (d.size : Int) ≤ 16 ∧ (e.size : Int) ≤ 16 ∧ f ≥ 0 ∧ f ≤ 32 ∧ g ≥ 0 ∧ g ≤ 64
instance (a b c : Int) (d e : ByteArray) (f g : Int) : Decidable (fitP a b c d e f g) := by unfold fitP; infer_instance
def rightP (a b c : Int) (d e : ByteArray) (f g h : Int) : Bool := decide (fitP a b c d e f g) && (if b = 3 then decide (h ≥ 3) && decide (h ≤ 8) else decide (h = 0))
def account_Right.f (a0_0 a0_1 a0_2 : Int) (a0_3 a0_4 : ByteArray) (a0_5 a0_6 a0_7 : Int) : Option Bool := some (rightP a0_0 a0_1 a0_2 a0_3 a0_4 a0_5 a0_6 a0_7)
theorem right_no {a b c : Int} {d e : ByteArray} {f g h : Int} (hf : ¬ fitP a b c d e f g) : rightP a b c d e f g h = false := by unfold rightP; rw [decide_eq_false hf, Bool.false_and]
theorem right_yes {a b c : Int} {d e : ByteArray} {f g h : Int} (hf : fitP a b c d e f g) : rightP a b c d e f g h = (if b = 3 then decide (h ≥ 3) && decide (h ≤ 8) else decide (h = 0)) := by unfold rightP; rw [decide_eq_true hf, Bool.true_and]
end Go.Proofs.Ytinpgejkkfpckaa.Pr
