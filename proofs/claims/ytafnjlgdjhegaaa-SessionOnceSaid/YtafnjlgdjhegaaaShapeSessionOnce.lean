/-
  What is known of the arguments of muster/musterlaw09.SessionOnce that can be read. Written by this session's program wip/tools/pr.py.
-/
import Derived.Test.YtafnjlgdjhegaaaHOnce
import Derived.Test.YtafnjlgdjhegaaaO
namespace Go.Proofs.Ytafnjlgdjhegaaa.Pure
open Go.RowKit Go.Proofs.Ytafnjlgdjhegaaa.Pr Go.Proofs.YtafnjlgdjhegaaaW.PrintWords Go.Proofs.YtafnjlgdjhegaaaW.PrintLast Go.Proofs.YtafnjlgdjhegaaaO
theorem opn37 : Opn Try.prog 37 (Kd.slice 3 (Kd.int .i64)) (fun l => (l.length * 8 ≤ 140737488351232 ∧ l.length ≤ 9223372036854775807 ∧ ∀ y ∈ l, (Lit.int .i64 y).wf = true)) :=
  Opn.slice (B := 8) Try.underlying37 (by kernel_rfl) (by kernel_rfl) (Opn.int Try.underlying3)
end Go.Proofs.Ytafnjlgdjhegaaa.Pure
