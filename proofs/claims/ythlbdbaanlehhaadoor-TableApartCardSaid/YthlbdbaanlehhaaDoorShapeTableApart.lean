/-
  What is known of the arguments of muster/musterlaw31.TableApart that can be read. Written by this session's program wip/tools/pr.py.
-/
import Derived.Test.YthlbdbaanlehhaaDoorHApart
import Derived.Test.YthlbdbaanlehhaaDoorO
namespace Go.Proofs.YthlbdbaanlehhaaDoor.Pure
open Go.RowKit Go.Proofs.YthlbdbaanlehhaaDoor.Pr Go.Proofs.YthlbdbaanlehhaaDoorW.PrintWords Go.Proofs.YthlbdbaanlehhaaDoorW.PrintLast Go.Proofs.YthlbdbaanlehhaaDoorO
theorem opn23 : Opn Tryd.prog 23 (Kd.slice 3 (Kd.int .i64)) (fun l => (l.length * 8 ≤ 140737488351232 ∧ l.length ≤ 9223372036854775807 ∧ ∀ y ∈ l, (Lit.int .i64 y).wf = true)) :=
  Opn.slice (B := 8) Tryd.underlying23 (by kernel_rfl) (by kernel_rfl) (Opn.int Tryd.underlying3)
def opW31 (x : S31) : Prop := (Lit.int .i64 x.f0).wf = true ∧ (Lit.int .u8 x.f1).wf = true
theorem opn31 : Opn Tryd.prog 31 k31 opW31 :=
  Opn.mono (Opn.iso (fun x : S31 => (x.f0, x.f1)) (fun p => ⟨p.1, p.2⟩) (fun _ => rfl) (Opn.struct Tryd.underlying31 (by kernel_rfl) (OpnF.cons rfl (by kernel_rfl) (Opn.int Tryd.underlying3) (OpnF.one rfl (by kernel_rfl) (Opn.int Tryd.underlying29))))) (fun _ h => h)
theorem opn24 : Opn Tryd.prog 24 (Kd.slice 31 k31) (fun l => (l.length * 16 ≤ 140737488351232 ∧ l.length ≤ 9223372036854775807 ∧ ∀ y ∈ l, opW31 y)) :=
  Opn.slice (B := 16) Tryd.underlying24 (by kernel_rfl) (by kernel_rfl) opn31
def opW36 (x : S36) : Prop := (Lit.int .i64 x.f0).wf = true ∧ (Lit.int .u32 x.f1).wf = true
theorem opn36 : Opn Tryd.prog 36 k36 opW36 :=
  Opn.mono (Opn.iso (fun x : S36 => (x.f0, x.f1)) (fun p => ⟨p.1, p.2⟩) (fun _ => rfl) (Opn.struct Tryd.underlying36 (by kernel_rfl) (OpnF.cons rfl (by kernel_rfl) (Opn.int Tryd.underlying3) (OpnF.one rfl (by kernel_rfl) (Opn.int Tryd.underlying34))))) (fun _ h => h)
theorem opn25 : Opn Tryd.prog 25 (Kd.slice 36 k36) (fun l => (l.length * 16 ≤ 140737488351232 ∧ l.length ≤ 9223372036854775807 ∧ ∀ y ∈ l, opW36 y)) :=
  Opn.slice (B := 16) Tryd.underlying25 (by kernel_rfl) (by kernel_rfl) opn36
def opW27 (x : S27) : Prop := (Lit.int .i64 x.f0).wf = true ∧ (x.f1.length * 8 ≤ 140737488351232 ∧ x.f1.length ≤ 9223372036854775807 ∧ ∀ y ∈ x.f1, (Lit.int .i64 y).wf = true) ∧ (x.f2.length * 16 ≤ 140737488351232 ∧ x.f2.length ≤ 9223372036854775807 ∧ ∀ y ∈ x.f2, opW31 y) ∧ (x.f3.length * 16 ≤ 140737488351232 ∧ x.f3.length ≤ 9223372036854775807 ∧ ∀ y ∈ x.f3, opW36 y)
theorem opn27 : Opn Tryd.prog 27 k27 opW27 :=
  Opn.mono (Opn.iso (fun x : S27 => (x.f0, x.f1, x.f2, x.f3)) (fun p => ⟨p.1, p.2.1, p.2.2.1, p.2.2.2⟩) (fun _ => rfl) (Opn.struct Tryd.underlying27 (by kernel_rfl) (OpnF.cons rfl (by kernel_rfl) (Opn.int Tryd.underlying22) (OpnF.cons rfl (by kernel_rfl) opn23 (OpnF.cons rfl (by kernel_rfl) opn24 (OpnF.one rfl (by kernel_rfl) opn25)))))) (fun _ h => h)
end Go.Proofs.YthlbdbaanlehhaaDoor.Pure
