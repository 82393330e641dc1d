/-
  What is known of the arguments of muster/musterlaw31.TableTells that can be read. Written by this session's program wip/tools/pr.py.
-/
import Derived.Test.YthlbdbaanlehhaaDoorPr17
import Derived.Test.YthlbdbaanlehhaaDoorO
namespace Go.Proofs.YthlbdbaanlehhaaDoor.Pure
open Go.RowKit Go.Proofs.YthlbdbaanlehhaaDoor.Pr Go.Proofs.YthlbdbaanlehhaaDoorW.PrintWords Go.Proofs.YthlbdbaanlehhaaDoorW.PrintLast Go.Proofs.YthlbdbaanlehhaaDoorO
def opW49 (x : S49) : Prop := x.f0.size ≤ 140737488351232 ∧ (Lit.int .i64 x.f1).wf = true ∧ True
theorem opn49 : Opn Tryd.prog 49 k49 opW49 :=
  Opn.mono (Opn.iso (fun x : S49 => (x.f0, x.f1, x.f2)) (fun p => ⟨p.1, p.2.1, p.2.2⟩) (fun _ => rfl) (Opn.struct Tryd.underlying49 (by kernel_rfl) (OpnF.cons rfl (by kernel_rfl) (Opn.string Tryd.underlying9) (OpnF.cons rfl (by kernel_rfl) (Opn.int Tryd.underlying3) (OpnF.one rfl (by kernel_rfl) (Opn.bool Tryd.underlying4)))))) (fun _ h => h)
theorem opn39 : Opn Tryd.prog 39 (Kd.slice 49 k49) (fun l => (l.length * 32 ≤ 140737488351232 ∧ l.length ≤ 9223372036854775807 ∧ ∀ y ∈ l, opW49 y)) :=
  Opn.slice (B := 32) Tryd.underlying39 (by kernel_rfl) (by kernel_rfl) opn49
theorem opn46 : Opn Tryd.prog 46 (Kd.slice 9 Kd.string) (fun l => (l.length * 16 ≤ 140737488351232 ∧ l.length ≤ 9223372036854775807 ∧ ∀ y ∈ l, y.size ≤ 140737488351232)) :=
  Opn.slice (B := 16) Tryd.underlying46 (by kernel_rfl) (by kernel_rfl) (Opn.string Tryd.underlying9)
theorem opn40 : Opn Tryd.prog 40 (Kd.slice 46 (Kd.slice 9 Kd.string)) (fun l => (l.length * 24 ≤ 140737488351232 ∧ l.length ≤ 9223372036854775807 ∧ ∀ y ∈ l, (y.length * 16 ≤ 140737488351232 ∧ y.length ≤ 9223372036854775807 ∧ ∀ y_ ∈ y, y_.size ≤ 140737488351232))) :=
  Opn.slice (B := 24) Tryd.underlying40 (by kernel_rfl) (by kernel_rfl) opn46
end Go.Proofs.YthlbdbaanlehhaaDoor.Pure
