/-
  What is known of the arguments of muster/musterlaw09.SessionTells that can be read. Written by this session's program wip/tools/pr.py.
-/
import Derived.Test.YtafnjlgdjhegaaaPr0
import Derived.Test.YtafnjlgdjhegaaaO
namespace Go.Proofs.Ytafnjlgdjhegaaa.Pure
open Go.RowKit Go.Proofs.Ytafnjlgdjhegaaa.Pr Go.Proofs.YtafnjlgdjhegaaaW.PrintWords Go.Proofs.YtafnjlgdjhegaaaW.PrintLast Go.Proofs.YtafnjlgdjhegaaaO
theorem opn23 : Opn Try.prog 23 (Kd.slice 5 (Kd.int .u8)) (fun l => (l.length * 1 ≤ 140737488351232 ∧ l.length ≤ 9223372036854775807 ∧ ∀ y ∈ l, (Lit.int .u8 y).wf = true)) :=
  Opn.slice (B := 1) Try.underlying23 (by kernel_rfl) (by kernel_rfl) (Opn.int Try.underlying5)
def opW46 (x : S46) : Prop := (Lit.int .i64 x.f0).wf = true ∧ (x.f1.length * 1 ≤ 140737488351232 ∧ x.f1.length ≤ 9223372036854775807 ∧ ∀ y ∈ x.f1, (Lit.int .u8 y).wf = true)
theorem opn46 : Opn Try.prog 46 k46 opW46 :=
  Opn.mono (Opn.iso (fun x : S46 => (x.f0, x.f1)) (fun p => ⟨p.1, p.2⟩) (fun _ => rfl) (Opn.struct Try.underlying46 (by kernel_rfl) (OpnF.cons rfl (by kernel_rfl) (Opn.int Try.underlying3) (OpnF.one rfl (by kernel_rfl) opn23)))) (fun _ h => h)
theorem opn42 : Opn Try.prog 42 (Kd.slice 46 k46) (fun l => (l.length * 32 ≤ 140737488351232 ∧ l.length ≤ 9223372036854775807 ∧ ∀ y ∈ l, opW46 y)) :=
  Opn.slice (B := 32) Try.underlying42 (by kernel_rfl) (by kernel_rfl) opn46
def opW44 (x : S44) : Prop := (Lit.int .i64 x.f0).wf = true ∧ (Lit.int .i64 x.f1).wf = true ∧ (x.f2.length * 32 ≤ 140737488351232 ∧ x.f2.length ≤ 9223372036854775807 ∧ ∀ y ∈ x.f2, opW46 y)
theorem opn44 : Opn Try.prog 44 k44 opW44 :=
  Opn.mono (Opn.iso (fun x : S44 => (x.f0, x.f1, x.f2)) (fun p => ⟨p.1, p.2.1, p.2.2⟩) (fun _ => rfl) (Opn.struct Try.underlying44 (by kernel_rfl) (OpnF.cons rfl (by kernel_rfl) (Opn.int Try.underlying3) (OpnF.cons rfl (by kernel_rfl) (Opn.int Try.underlying3) (OpnF.one rfl (by kernel_rfl) opn42))))) (fun _ h => h)
theorem opn22 : Opn Try.prog 22 (Kd.slice 44 k44) (fun l => (l.length * 40 ≤ 140737488351232 ∧ l.length ≤ 9223372036854775807 ∧ ∀ y ∈ l, opW44 y)) :=
  Opn.slice (B := 40) Try.underlying22 (by kernel_rfl) (by kernel_rfl) opn44
end Go.Proofs.Ytafnjlgdjhegaaa.Pure
