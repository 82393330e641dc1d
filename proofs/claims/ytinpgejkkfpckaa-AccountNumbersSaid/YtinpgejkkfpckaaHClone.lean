/-
  slices.Clone of whole numbers, proved by hand.
-/
import Derived.Test.YtinpgejkkfpckaaPr0
import Derived.Test.YtinpgejkkfpckaaG
import Derived.Outline
import Derived.Lib.SliceRun
import Derived.WalkSpells
import Derived.WalkLawsBesides
namespace Go.Proofs.Ytinpgejkkfpckaa.Pr
open Go.RowKit Go.Proofs.YtinpgejkkfpckaaW.PrintWords Go.Proofs.YtinpgejkkfpckaaW.PrintLast Go.Proofs.YtinpgejkkfpckaaW.PrintMore Go.Proofs.YtinpgejkkfpckaaG
set_option linter.unusedVariables false
set_option linter.unusedSimpArgs false
def slices_Clone_int_int.f (l0 : List Int) : Option (List Int) := if l0.length < 17592186044416 then some l0 else none
set_option maxHeartbeats 400000 in
theorem clone_ints_any (A : Option Addr) (c : Nat) (l : List Int) (w : World) (hr : Kd.C (Kd.int .i64) w A l.length l) (hl : l.length < 17592186044416) :
    Calls Try.prog 42 #[.slice A l.length c] w fun e w' => ∃ v0_ : Value, e = .returned v0_ ∧ Kd.R (Kd.int .i64) 3 w' w.heap.size (fun _ => True) v0_ l ∧ Below w.heap.size w w' := by
  have hnil := fun (a : Option Addr) (n c n' c' : Nat) (W : World) => Lib.run_eql_slice_nil W 45 3 a n c n' c' Try.underlying45
  cases A with
  | none =>
    have : l = [] := by
      cases l with
      | nil => rfl
      | cons a l =>
        obtain ⟨ad, h, _⟩ := hr.2.2 (by simp)
        cases h
    subst this
    clear hr
    go_enter Try.func42, Try.ntmps42
    go_wp2
    go_ret
    exact ⟨_, rfl, Kd.R_nil _ _ _ _ _, Below.refl _ _⟩
  | some ad =>
    have HB : Hd (Below w.heap.size w (w.alloc (.cells #[] 3))) := hd (below_alloc (Below.refl _ _) _)
    have HR := hd (Kd.C_below hr HB.out)
    have HO : Hd ((w.alloc (.cells #[] 3)).ownsRow w.heap.size 3 1 (.slice (some ⟨w.heap.size, 0, none⟩) 0 0) 0 []) := hd (World.ownsRow_lit (base := w.heap.size) (e := 3) (size := 1) w #[] 0 (Nat.le_refl _) (by unfold maxLen; omega) rfl)
    have HRR : Hd (Kd.R (Kd.int .i64) 3 (w.alloc (.cells #[] 3)) w.heap.size (fun _ => True) (.slice (some ⟨w.heap.size, 0, none⟩) 0 0) []) := hd ⟨fun _ _ => trivial, [], HO.out, ⟨rfl, fun j p hp => by simp at hp⟩⟩
    have A3 : Hd (w.heap.size ≤ (w.alloc (.cells #[] 3)).heap.size) := hd (by simp)
    have HL := hd hl
    clear hr hl HO
    go_enter Try.func42, Try.ntmps42
    go_wp2_with ((with_reducible refine gate_builtin (b := .append) (xs := #[.tmp 5, .tmp 6]) rfl ?_); at_builtin; refine Kd.R_append_rows (Kd.int .i64) (w0 := w) w.heap.size rfl (.tmp 5) (.tmp 6) 45 3 (.int .i64 0) 8 rfl Try.underlying45 info3 rfl (by decide) (by omega) (.slice (some ⟨w.heap.size, 0, none⟩) 0 0) ([] : List Int) l _ _ _ (fun _ => True) (fun _ => False) rfl rfl ?aO HR.out (fun _ _ h => h) (fun _ h => h.elim) (fun _ _ => trivial) ?aB A3.out ?aL ?_; (case aO => exact HRR.out); (case aB => exact HB.out); (case aL => have := HL.out; simp; omega); intro v102 w3 ho hb hg hat)
    go_ret
    exact ⟨_, rfl, by simpa using ho, hb⟩
theorem slices_Clone_int_int.calls (A0 : Option Addr) (c0 : Nat) (l0 : List Int) (r : List Int) (w : World) (hr0 : Kd.C (Kd.int .i64) w A0 l0.length l0) (hc0 : l0.length ≤ c0) (h : slices_Clone_int_int.f l0 = some r) :
    Calls Try.prog 42 #[.slice A0 l0.length c0] w fun e w' => ∃ v0_ : Value, e = .returned (v0_) ∧ Kd.R (Kd.int .i64) 3 w' w.heap.size (fun _ => True) v0_ r ∧ Below w.heap.size w w' := by
  unfold slices_Clone_int_int.f at h
  split at h
  · cases h
    exact clone_ints_any A0 c0 l0 w hr0 (by assumption)
  · cases h
end Go.Proofs.Ytinpgejkkfpckaa.Pr
