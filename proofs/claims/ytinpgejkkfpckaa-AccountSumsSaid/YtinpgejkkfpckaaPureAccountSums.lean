/-
  AccountSums, in plain lists: the program's sum and the document's are the same sum.
-/
import Derived.Test.YtinpgejkkfpckaaShapeAccountSums
import Derived.Test.YtinpgejkkfpckaaQ2
namespace Go.Proofs.Ytinpgejkkfpckaa.Pure
open Go.RowKit Go.Proofs.Ytinpgejkkfpckaa.Pr Go.Proofs.YtinpgejkkfpckaaW.PrintWords Go.Proofs.YtinpgejkkfpckaaW.PrintLast Go.Proofs.YtinpgejkkfpckaaO
theorem wf_i64 {x : Int} (h : (Lit.int .i64 x).wf = true) : i64 x := by
  have h2 : (decide ((-9223372036854775808 : Int) ≤ x) && decide (x ≤ 9223372036854775807)) = true := h
  simp only [Bool.and_eq_true, decide_eq_true_eq] at h2
  exact h2
theorem AccountSums : ∀ (l0 : List Int), (l0.length * 8 ≤ 140737488351232 ∧ l0.length ≤ 9223372036854775807 ∧ ∀ y ∈ l0, (Lit.int .i64 y).wf = true) → ∃ k, musterlaw27_AccountSums.f k l0 = some true := by
  rintro l ⟨h1, h2, h3⟩
  have hx : ∀ x ∈ l, i64 x := fun x hx => wf_i64 (h3 x hx)
  refine ⟨l.length + 1, ?_⟩
  unfold musterlaw27_AccountSums.f musterlow_CopyNumbers.f
  rw [if_pos (by simp; omega)]
  simp only [Option.bind_some, List.nil_append, sum_spec l (by omega) hx (l.length + 1) (by omega), ref_sum_spec l (by omega) hx (l.length + 1) (by omega), same_spec l (by omega) (l.length + 1) (by omega), musterlaw27_awake.f]
  simp
end Go.Proofs.Ytinpgejkkfpckaa.Pure
