/-
  The chapter's examples, reckoned.
-/
import Derived.Test.YteipoopdnimiaaaPr8
namespace Go.Proofs.Yteipoopdnimiaaa.Q
open Go.RowKit Go.Proofs.Yteipoopdnimiaaa.Pr Go.Proofs.YteipoopdnimiaaaW.PrintWords Go.Proofs.YteipoopdnimiaaaW.PrintLast
set_option linter.unusedVariables false
set_option linter.unusedSimpArgs false
set_option maxRecDepth 100000 in
theorem awake_at : musterlaw11_awake.f 40 = some true := by decide +kernel
theorem awake_ev : Ev (fun k => musterlaw11_awake.f k) true := Ev.of (musterlaw11_awake.mono) awake_at
end Go.Proofs.Yteipoopdnimiaaa.Q
