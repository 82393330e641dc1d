import Derived.Test.YtafnjlgdjhegaaaShapeSessionAsks
namespace Go.Proofs.Ytafnjlgdjhegaaa.Pure
open Go.RowKit Go.Proofs.Ytafnjlgdjhegaaa.Pr Go.Proofs.YtafnjlgdjhegaaaW.PrintWords Go.Proofs.YtafnjlgdjhegaaaW.PrintLast Go.Proofs.YtafnjlgdjhegaaaO
theorem wf_D {x : Int} (h : (Lit.int .i64 x).wf = true) : i64D x = true := h
theorem SessionAsks : ∀ (a0 : Int) (x1 : S50) (l2 : List Int) (a3 : Int), (Lit.int .i64 a0).wf = true → opW50 x1 → (l2.length * 1 ≤ 140737488351232 ∧ l2.length ≤ 9223372036854775807 ∧ ∀ y ∈ l2, (Lit.int .u8 y).wf = true) → (Lit.int .i64 a3).wf = true → musterlaw09_SessionAsks.f a0 x1.f0 x1.f1 x1.f2 x1.f3 l2 a3 = some true := by
  intro a0 x1 l2 a3 h0 h1 h2 h3
  obtain ⟨_, _, h12, h13, _, h14⟩ := h1
  unfold musterlaw09_SessionAsks.f smallB
  rw [if_pos]
  rw [wf_D h12, wf_D h3, Bool.and_true, Bool.and_true]
  simp only [Bool.and_eq_true, decide_eq_true_eq, List.all_eq_true]
  refine ⟨⟨by omega, fun x hx => ?_⟩, by have := h2.1; omega⟩
  obtain ⟨_, h5, _⟩ := h14 x hx
  omega
end Go.Proofs.Ytafnjlgdjhegaaa.Pure
