/-
  account.Right, by hand: a chain of bounds.
-/
import Derived.Test.YtinpgejkkfpckaaPr0
import Derived.Test.YtinpgejkkfpckaaHRightH
import Derived.Test.YtinpgejkkfpckaaHRightL
import Derived.Test.YtinpgejkkfpckaaG
namespace Go.Proofs.Ytinpgejkkfpckaa.Pr
open Go.RowKit Go.Proofs.YtinpgejkkfpckaaW.PrintWords Go.Proofs.YtinpgejkkfpckaaW.PrintLast Go.Proofs.YtinpgejkkfpckaaW.PrintMore Go.Proofs.YtinpgejkkfpckaaG
set_option linter.unusedVariables false
set_option linter.unusedSimpArgs false
theorem account_right_any (a b c : Int) (d e : ByteArray) (f g h : Int) (w : World) :
    Calls Try.prog 21 #[.agg #[.int .i64 a, .int .u8 b, .int .i64 c, .string d, .string e, .int .i64 f, .int .i64 g, .int .u8 h]] w fun x w' => x = .returned (.bool (rightP a b c d e f g h)) ∧ Below w.heap.size w w' := by
  by_cases n1 : a ≥ 1 ∧ a ≤ 1073741824 ∧ b ≥ 1 ∧ b ≤ 3 ∧ c ≥ 0 ∧ c ≤ 1099511627776
  · obtain ⟨c1, c2, c3, c4, c5, c6⟩ := n1
    by_cases n2 : (d.size : Int) ≤ 16 ∧ (e.size : Int) ≤ 16 ∧ f ≥ 0 ∧ f ≤ 32 ∧ g ≥ 0 ∧ g ≤ 64
    · obtain ⟨c7, c8, c9, c10, c11, c12⟩ := n2
      by_cases h3 : h ≥ 3
      · exact aright_hi2 _ _ _ _ _ _ _ _ w h3 c1 c2 c3 c4 c5 c6 c7 c8 c9 c10 c11 c12
      · exact aright_lo2 _ _ _ _ _ _ _ _ w h3 c1 c2 c3 c4 c5 c6 c7 c8 c9 c10 c11 c12
    · by_cases h3 : h ≥ 3
      · exact aright_hi1 _ _ _ _ _ _ _ _ w h3 c1 c2 c3 c4 c5 c6 n2
      · exact aright_lo1 _ _ _ _ _ _ _ _ w h3 c1 c2 c3 c4 c5 c6 n2
  · by_cases h3 : h ≥ 3
    · exact aright_hi0 _ _ _ _ _ _ _ _ w h3 n1
    · exact aright_lo0 _ _ _ _ _ _ _ _ w h3 n1
theorem account_Right.calls (a0_0 a0_1 a0_2 : Int) (a0_3 a0_4 : ByteArray) (a0_5 a0_6 a0_7 : Int) (r : Bool) (w : World) (h : account_Right.f a0_0 a0_1 a0_2 a0_3 a0_4 a0_5 a0_6 a0_7 = some r) :
    Calls Try.prog 21 #[.agg #[.int .i64 a0_0, .int .u8 a0_1, .int .i64 a0_2, .string a0_3, .string a0_4, .int .i64 a0_5, .int .i64 a0_6, .int .u8 a0_7]] w fun e w' => e = .returned (.bool r) ∧ Below w.heap.size w w' := by
  cases h
  exact account_right_any _ _ _ _ _ _ _ _ w
end Go.Proofs.Ytinpgejkkfpckaa.Pr
