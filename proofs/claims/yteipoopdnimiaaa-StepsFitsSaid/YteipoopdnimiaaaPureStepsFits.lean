/-
  The pure statement of musterlaw11.StepsFits.
-/
import Derived.Test.YteipoopdnimiaaaShapeStepsFits
import Derived.Test.YteipoopdnimiaaaQ3
import Derived.Test.YteipoopdnimiaaaQA
namespace Go.Proofs.Yteipoopdnimiaaa.Pure
open Go.RowKit Go.Proofs.Yteipoopdnimiaaa.Pr Go.Proofs.YteipoopdnimiaaaW.PrintWords Go.Proofs.YteipoopdnimiaaaW.PrintLast Go.Proofs.YteipoopdnimiaaaO Go.Proofs.Yteipoopdnimiaaa.Q
theorem StepsFits : ∀ (l0 : List (S34)) (x1 : S24) (x2 : S24), (l0.length * 16 ≤ 140737488351232 ∧ l0.length ≤ 9223372036854775807 ∧ ∀ y ∈ l0, opW34 y) → opW24 x1 → opW24 x2 → ∃ k, musterlaw11_StepsFits.f k l0 x1.f0 x1.f1 x1.f2 x2.f0 x2.f1 x2.f2 = some true := by
  intro l x1 x2 ⟨hl, _, _⟩ _ _
  refine Ev.rounds ?_
  obtain ⟨r, h1, h2⟩ := Fit_ev l x1.f0 x2.f0 x1.f2
  unfold musterlaw11_StepsFits.f
  refine Ev.bind (copy_ev l hl) (Ev.bind h1 (Ev.bind h2 ?_))
  simp only [if_true]
  exact Ev.bind awake_ev (Ev.now _)
end Go.Proofs.Yteipoopdnimiaaa.Pure
