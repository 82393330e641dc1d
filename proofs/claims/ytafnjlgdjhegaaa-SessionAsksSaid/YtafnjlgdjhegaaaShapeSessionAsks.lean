/-
  What is known of the arguments of muster/musterlaw09.SessionAsks that can be read. Written by this session's program wip/tools/pr.py.
-/
import Derived.Test.YtafnjlgdjhegaaaHAsks
import Derived.Test.YtafnjlgdjhegaaaO
namespace Go.Proofs.Ytafnjlgdjhegaaa.Pure
open Go.RowKit Go.Proofs.Ytafnjlgdjhegaaa.Pr Go.Proofs.YtafnjlgdjhegaaaW.PrintWords Go.Proofs.YtafnjlgdjhegaaaW.PrintLast Go.Proofs.YtafnjlgdjhegaaaO
theorem opn23 : Opn Try.prog 23 (Kd.slice 5 (Kd.int .u8)) (fun l => (l.length * 1 ≤ 140737488351232 ∧ l.length ≤ 9223372036854775807 ∧ ∀ y ∈ l, (Lit.int .u8 y).wf = true)) :=
  Opn.slice (B := 1) Try.underlying23 (by kernel_rfl) (by kernel_rfl) (Opn.int Try.underlying5)
def opW70 (x : S70) : Prop := (Lit.int .i64 x.f0).wf = true ∧ (x.f1.length * 1 ≤ 140737488351232 ∧ x.f1.length ≤ 9223372036854775807 ∧ ∀ y ∈ x.f1, (Lit.int .u8 y).wf = true)
theorem opn70 : Opn Try.prog 70 k70 opW70 :=
  Opn.mono (Opn.iso (fun x : S70 => (x.f0, x.f1)) (fun p => ⟨p.1, p.2⟩) (fun _ => rfl) (Opn.struct Try.underlying70 (by kernel_rfl) (OpnF.cons rfl (by kernel_rfl) (Opn.int Try.underlying3) (OpnF.one rfl (by kernel_rfl) opn23)))) (fun _ h => h)
theorem opn48 : Opn Try.prog 48 (Kd.slice 70 k70) (fun l => (l.length * 32 ≤ 140737488351232 ∧ l.length ≤ 9223372036854775807 ∧ ∀ y ∈ l, opW70 y)) :=
  Opn.slice (B := 32) Try.underlying48 (by kernel_rfl) (by kernel_rfl) opn70
def opW50 (x : S50) : Prop := (Lit.int .i64 x.f0).wf = true ∧ (Lit.int .i64 x.f1).wf = true ∧ (Lit.int .i64 x.f2).wf = true ∧ (x.f3.length * 32 ≤ 140737488351232 ∧ x.f3.length ≤ 9223372036854775807 ∧ ∀ y ∈ x.f3, opW70 y)
theorem opn50 : Opn Try.prog 50 k50 opW50 :=
  Opn.mono (Opn.iso (fun x : S50 => (x.f0, x.f1, x.f2, x.f3)) (fun p => ⟨p.1, p.2.1, p.2.2.1, p.2.2.2⟩) (fun _ => rfl) (Opn.struct Try.underlying50 (by kernel_rfl) (OpnF.cons rfl (by kernel_rfl) (Opn.int Try.underlying3) (OpnF.cons rfl (by kernel_rfl) (Opn.int Try.underlying3) (OpnF.cons rfl (by kernel_rfl) (Opn.int Try.underlying3) (OpnF.one rfl (by kernel_rfl) opn48)))))) (fun _ h => h)
end Go.Proofs.Ytafnjlgdjhegaaa.Pure
