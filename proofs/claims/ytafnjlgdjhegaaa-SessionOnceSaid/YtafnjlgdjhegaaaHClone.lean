/-
  slices.Clone of bytes, proved by hand.
-/
import Derived.Test.YtafnjlgdjhegaaaPr0
import Derived.Test.YtafnjlgdjhegaaaG
import Derived.Outline
import Derived.Lib.SliceRun
import Derived.WalkSpells
import Derived.WalkLawsBesides
namespace Go.Proofs.Ytafnjlgdjhegaaa.Pr
open Go.RowKit Go.Proofs.YtafnjlgdjhegaaaW.PrintWords Go.Proofs.YtafnjlgdjhegaaaW.PrintLast Go.Proofs.YtafnjlgdjhegaaaW.PrintMore Go.Proofs.YtafnjlgdjhegaaaG
set_option linter.unusedVariables false
set_option linter.unusedSimpArgs false
def slices_Clone_byte_byte.f (l0 : List Int) : Option (List Int) := if l0.length < 140737488355328 then some l0 else none
set_option maxHeartbeats 400000 in
theorem clone_bytes_any (A : Option Addr) (c : Nat) (l : List Int) (w : World) (hr : Kd.C (Kd.int .u8) w A l.length l) (hl : l.length < 140737488355328) :
    Calls Try.prog 43 #[.slice A l.length c] w fun e w' => ∃ v0_ : Value, e = .returned v0_ ∧ Kd.R (Kd.int .u8) 5 w' w.heap.size (fun _ => True) v0_ l ∧ Below w.heap.size w w' := by
  have hnil := fun (a : Option Addr) (n c n' c' : Nat) (W : World) => Lib.run_eql_slice_nil W 23 5 a n c n' c' Try.underlying23
  cases A with
  | none =>
    have : l = [] := by
      cases l with
      | nil => rfl
      | cons a l =>
        obtain ⟨ad, h, _⟩ := hr.2.2 (by simp)
        cases h
    subst this
    clear hr
    go_enter Try.func43, Try.ntmps43
    go_wp2
    go_ret
    exact ⟨_, rfl, Kd.R_nil _ _ _ _ _, Below.refl _ _⟩
  | some ad =>
    have HB : Hd (Below w.heap.size w (w.alloc (.cells #[] 5))) := hd (below_alloc (Below.refl _ _) _)
    have HR := hd (Kd.C_below hr HB.out)
    have HO : Hd ((w.alloc (.cells #[] 5)).ownsRow w.heap.size 5 1 (.slice (some ⟨w.heap.size, 0, none⟩) 0 0) 0 []) := hd (World.ownsRow_lit (base := w.heap.size) (e := 5) (size := 1) w #[] 0 (Nat.le_refl _) (by unfold maxLen; omega) rfl)
    have HRR : Hd (Kd.R (Kd.int .u8) 5 (w.alloc (.cells #[] 5)) w.heap.size (fun _ => True) (.slice (some ⟨w.heap.size, 0, none⟩) 0 0) []) := hd ⟨fun _ _ => trivial, [], HO.out, ⟨rfl, fun j p hp => by simp at hp⟩⟩
    have A3 : Hd (w.heap.size ≤ (w.alloc (.cells #[] 5)).heap.size) := hd (by simp)
    have HL := hd hl
    clear hr hl HO
    go_enter Try.func43, Try.ntmps43
    go_wp2_with ((with_reducible refine gate_builtin (b := .append) (xs := #[.tmp 5, .tmp 6]) rfl ?_); at_builtin; refine Kd.R_append_rows (Kd.int .u8) (w0 := w) w.heap.size rfl (.tmp 5) (.tmp 6) 23 5 (.int .u8 0) 1 rfl Try.underlying23 info5 rfl (by decide) (by omega) (.slice (some ⟨w.heap.size, 0, none⟩) 0 0) ([] : List Int) l _ _ _ (fun _ => True) (fun _ => False) rfl rfl ?aO HR.out (fun _ _ h => h) (fun _ h => h.elim) (fun _ _ => trivial) ?aB A3.out ?aL ?_; (case aO => exact HRR.out); (case aB => exact HB.out); (case aL => have := HL.out; simp; omega); intro v102 w3 ho hb hg hat)
    go_ret
    exact ⟨_, rfl, by simpa using ho, hb⟩
theorem slices_Clone_byte_byte.calls (A0 : Option Addr) (c0 : Nat) (l0 : List Int) (r : List Int) (w : World) (hr0 : Kd.C (Kd.int .u8) w A0 l0.length l0) (hc0 : l0.length ≤ c0) (h : slices_Clone_byte_byte.f l0 = some r) :
    Calls Try.prog 43 #[.slice A0 l0.length c0] w fun e w' => ∃ v0_ : Value, e = .returned (v0_) ∧ Kd.R (Kd.int .u8) 5 w' w.heap.size (fun _ => True) v0_ r ∧ Below w.heap.size w w' := by
  unfold slices_Clone_byte_byte.f at h
  split at h
  · cases h
    exact clone_bytes_any A0 c0 l0 w hr0 (by assumption)
  · cases h
end Go.Proofs.Ytafnjlgdjhegaaa.Pr
