/-
  What is known of the arguments of muster/musterlaw11.StepsAdd that can be read. Written by this session's program wip/tools/pr.py.
-/
import Derived.Test.YteipoopdnimiaaaPr15
import Derived.Test.YteipoopdnimiaaaO
namespace Go.Proofs.Yteipoopdnimiaaa.Pure
open Go.RowKit Go.Proofs.Yteipoopdnimiaaa.Pr Go.Proofs.YteipoopdnimiaaaW.PrintWords Go.Proofs.YteipoopdnimiaaaW.PrintLast Go.Proofs.YteipoopdnimiaaaO
def opW34 (x : S34) : Prop := (Lit.int .i64 x.f0).wf = true ∧ (Lit.int .i64 x.f1).wf = true
theorem opn34 : Opn Try.prog 34 k34 opW34 :=
  Opn.mono (Opn.iso (fun x : S34 => (x.f0, x.f1)) (fun p => ⟨p.1, p.2⟩) (fun _ => rfl) (Opn.struct Try.underlying34 (by kernel_rfl) (OpnF.cons rfl (by kernel_rfl) (Opn.int Try.underlying2) (OpnF.one rfl (by kernel_rfl) (Opn.int Try.underlying3))))) (fun _ h => h)
theorem opn22 : Opn Try.prog 22 (Kd.slice 34 k34) (fun l => (l.length * 16 ≤ 140737488351232 ∧ l.length ≤ 9223372036854775807 ∧ ∀ y ∈ l, opW34 y)) :=
  Opn.slice (B := 16) Try.underlying22 (by kernel_rfl) (by kernel_rfl) opn34
def opW24 (x : S24) : Prop := (Lit.int .i64 x.f0).wf = true ∧ (Lit.int .i64 x.f1).wf = true ∧ (Lit.int .i64 x.f2).wf = true
theorem opn24 : Opn Try.prog 24 k24 opW24 :=
  Opn.mono (Opn.iso (fun x : S24 => (x.f0, x.f1, x.f2)) (fun p => ⟨p.1, p.2.1, p.2.2⟩) (fun _ => rfl) (Opn.struct Try.underlying24 (by kernel_rfl) (OpnF.cons rfl (by kernel_rfl) (Opn.int Try.underlying2) (OpnF.cons rfl (by kernel_rfl) (Opn.int Try.underlying2) (OpnF.one rfl (by kernel_rfl) (Opn.int Try.underlying3)))))) (fun _ h => h)
end Go.Proofs.Yteipoopdnimiaaa.Pure
