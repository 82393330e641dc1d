/-
  What is known of the arguments of muster/musterlaw27.AccountParts that can be read. Written by this session's program wip/tools/pr.py.
-/
import Derived.Test.YtinpgejkkfpckaaHParts
import Derived.Test.YtinpgejkkfpckaaO
namespace Go.Proofs.Ytinpgejkkfpckaa.Pure
open Go.RowKit Go.Proofs.Ytinpgejkkfpckaa.Pr Go.Proofs.YtinpgejkkfpckaaW.PrintWords Go.Proofs.YtinpgejkkfpckaaW.PrintLast Go.Proofs.YtinpgejkkfpckaaO
def opW36 (x : S36) : Prop := (Lit.int .i64 x.f0).wf = true ∧ (Lit.int .u8 x.f1).wf = true ∧ (Lit.int .i64 x.f2).wf = true ∧ x.f3.size ≤ 140737488351232 ∧ x.f4.size ≤ 140737488351232 ∧ (Lit.int .i64 x.f5).wf = true ∧ (Lit.int .i64 x.f6).wf = true ∧ (Lit.int .u8 x.f7).wf = true
theorem opn36 : Opn Try.prog 36 k36 opW36 :=
  Opn.mono (Opn.iso (fun x : S36 => (x.f0, x.f1, x.f2, x.f3, x.f4, x.f5, x.f6, x.f7)) (fun p => ⟨p.1, p.2.1, p.2.2.1, p.2.2.2.1, p.2.2.2.2.1, p.2.2.2.2.2.1, p.2.2.2.2.2.2.1, p.2.2.2.2.2.2.2⟩) (fun _ => rfl) (Opn.struct Try.underlying36 (by kernel_rfl) (OpnF.cons rfl (by kernel_rfl) (Opn.int Try.underlying3) (OpnF.cons rfl (by kernel_rfl) (Opn.int Try.underlying33) (OpnF.cons rfl (by kernel_rfl) (Opn.int Try.underlying2) (OpnF.cons rfl (by kernel_rfl) (Opn.string Try.underlying9) (OpnF.cons rfl (by kernel_rfl) (Opn.string Try.underlying9) (OpnF.cons rfl (by kernel_rfl) (Opn.int Try.underlying3) (OpnF.cons rfl (by kernel_rfl) (Opn.int Try.underlying3) (OpnF.one rfl (by kernel_rfl) (Opn.int Try.underlying34))))))))))) (fun _ h => h)
theorem opn31 : Opn Try.prog 31 (Kd.slice 36 k36) (fun l => (l.length * 80 ≤ 140737488351232 ∧ l.length ≤ 9223372036854775807 ∧ ∀ y ∈ l, opW36 y)) :=
  Opn.slice (B := 80) Try.underlying31 (by kernel_rfl) (by kernel_rfl) opn36
end Go.Proofs.Ytinpgejkkfpckaa.Pure
