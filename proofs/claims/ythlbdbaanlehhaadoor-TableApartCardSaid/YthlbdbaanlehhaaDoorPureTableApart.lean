/-
  Of any two answers that can be handed in: what the walk of TableApart asks is given.
-/
import Derived.Test.YthlbdbaanlehhaaDoorShapeTableApart
namespace Go.Proofs.YthlbdbaanlehhaaDoor.Pure
open Go.RowKit Go.Proofs.YthlbdbaanlehhaaDoor.Pr Go.Proofs.YthlbdbaanlehhaaDoorW.PrintWords Go.Proofs.YthlbdbaanlehhaaDoorW.PrintLast Go.Proofs.YthlbdbaanlehhaaDoorO
set_option linter.unusedVariables false
set_option linter.unusedSimpArgs false
theorem wfI {x : Int} (h : (Lit.int .i64 x).wf = true) : I64 x := by
  have h' : (decide (-9223372036854775808 ≤ x) && decide (x ≤ 9223372036854775807)) = true := h
  simpa [I64] using h'
theorem wf8 {x : Int} (h : (Lit.int .u8 x).wf = true) : 0 ≤ x ∧ x < 256 := by
  have h' : (decide (0 ≤ x) && decide (x ≤ 255)) = true := h
  simp only [Bool.and_eq_true, decide_eq_true_eq] at h'
  omega
theorem wf32 {x : Int} (h : (Lit.int .u32 x).wf = true) : 0 ≤ x ∧ x < 4294967296 := by
  have h' : (decide (0 ≤ x) && decide (x ≤ 4294967295)) = true := h
  simp only [Bool.and_eq_true, decide_eq_true_eq] at h'
  omega
theorem ap_of (x : S27) (w : opW27 x) : apB x.f0 x.f1 x.f2 x.f3 = true := by
  refine (apB_iff _ _ _ _).2 ⟨wfI w.1, fun n hn => wfI (w.2.1.2.2 n hn), fun o ho => ?_, fun o ho => ?_, by have := w.2.1.1; omega, by have := w.2.2.1.1; omega, by have := w.2.2.2.1; omega⟩
  · obtain ⟨y0, y1⟩ := w.2.2.1.2.2 o ho
    exact ⟨wfI y0, wf8 y1⟩
  · obtain ⟨y0, y1⟩ := w.2.2.2.2.2 o ho
    exact ⟨wfI y0, wf32 y1⟩
theorem TableApart (x0 x1 : S27) (w0 : opW27 x0) (w1 : opW27 x1) : musterlaw31_TableApart.f x0.f0 x0.f1 x0.f2 x0.f3 x1.f0 x1.f1 x1.f2 x1.f3 = some true :=
  if_pos ⟨ap_of x0 w0, ap_of x1 w1⟩
end Go.Proofs.YthlbdbaanlehhaaDoor.Pure
