/-
  The pure statement of musterlaw11.StepsEarliest.
-/
import Derived.Test.YteipoopdnimiaaaShapeStepsEarliest
import Derived.Test.YteipoopdnimiaaaQ4
namespace Go.Proofs.Yteipoopdnimiaaa.Pure
open Go.RowKit Go.Proofs.Yteipoopdnimiaaa.Pr Go.Proofs.YteipoopdnimiaaaW.PrintWords Go.Proofs.YteipoopdnimiaaaW.PrintLast Go.Proofs.YteipoopdnimiaaaO Go.Proofs.Yteipoopdnimiaaa.Q
theorem StepsEarliest : ∀ (l0 : List (S34)) (x1 : S24) (x2 : S24), (l0.length * 16 ≤ 140737488351232 ∧ l0.length ≤ 9223372036854775807 ∧ ∀ y ∈ l0, opW34 y) → opW24 x1 → opW24 x2 → ∃ k, musterlaw11_StepsEarliest.f k l0 x1.f0 x1.f1 x1.f2 x2.f0 x2.f1 x2.f2 = some true :=
  fun l x1 x2 _ _ _ => Ev.rounds (earliest_ev l x1.f0 x1.f1 x1.f2 x2.f0 x2.f1 x2.f2)
end Go.Proofs.Yteipoopdnimiaaa.Pure
