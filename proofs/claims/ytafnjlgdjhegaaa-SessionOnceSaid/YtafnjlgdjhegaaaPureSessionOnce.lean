import Derived.Test.YtafnjlgdjhegaaaShapeSessionOnce
namespace Go.Proofs.Ytafnjlgdjhegaaa.Pure
open Go.RowKit Go.Proofs.Ytafnjlgdjhegaaa.Pr Go.Proofs.YtafnjlgdjhegaaaW.PrintWords Go.Proofs.YtafnjlgdjhegaaaW.PrintLast Go.Proofs.YtafnjlgdjhegaaaO
theorem SessionOnce : ∀ (l0 : List Int), (l0.length * 8 ≤ 140737488351232 ∧ l0.length ≤ 9223372036854775807 ∧ ∀ y ∈ l0, (Lit.int .i64 y).wf = true) → musterlaw09_SessionOnce.f l0 = some true := by
  intro l0 h
  unfold musterlaw09_SessionOnce.f
  rw [if_pos (List.all_eq_true.2 h.2.2)]
end Go.Proofs.Ytafnjlgdjhegaaa.Pure
