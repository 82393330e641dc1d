/-
  What is known of the arguments of muster/musterlaw27.AccountOnce that can be read. Written by this session's program wip/tools/pr.py.
-/
import Derived.Test.YtinpgejkkfpckaaHOnce
import Derived.Test.YtinpgejkkfpckaaO
namespace Go.Proofs.Ytinpgejkkfpckaa.Pure
open Go.RowKit Go.Proofs.Ytinpgejkkfpckaa.Pr Go.Proofs.YtinpgejkkfpckaaW.PrintWords Go.Proofs.YtinpgejkkfpckaaW.PrintLast Go.Proofs.YtinpgejkkfpckaaO
theorem opn45 : Opn Try.prog 45 (Kd.slice 3 (Kd.int .i64)) (fun l => (l.length * 8 ≤ 140737488351232 ∧ l.length ≤ 9223372036854775807 ∧ ∀ y ∈ l, (Lit.int .i64 y).wf = true)) :=
  Opn.slice (B := 8) Try.underlying45 (by kernel_rfl) (by kernel_rfl) (Opn.int Try.underlying3)
end Go.Proofs.Ytinpgejkkfpckaa.Pure
