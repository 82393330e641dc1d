/-
  session.copied in plain lists: it tells the same.
-/
import Derived.Test.YtafnjlgdjhegaaaHCopied
namespace Go.Proofs.Ytafnjlgdjhegaaa.Pr
open Go.RowKit Go.Proofs.YtafnjlgdjhegaaaW.PrintWords Go.Proofs.YtafnjlgdjhegaaaW.PrintLast
set_option linter.unusedVariables false
set_option linter.unusedSimpArgs false
theorem rd44_nat (l : List S44) (i : Nat) : rd_T44 l (i : Int) = l.getD i z44 := by simp [rd_T44]
theorem rd46_nat (l : List S46) (i : Nat) : rd_T46 l (i : Int) = l.getD i z46 := by simp [rd_T46]
theorem getD44_at (l : List S44) (i : Nat) (h : i < l.length) : l.getD i z44 = l[i] := by rw [List.getD_eq_getElem?_getD, List.getElem?_eq_getElem h]; rfl
theorem getD46_at (l : List S46) (i : Nat) (h : i < l.length) : l.getD i z46 = l[i] := by rw [List.getD_eq_getElem?_getD, List.getElem?_eq_getElem h]; rfl
theorem wrap_succ (i : Nat) (h : i < 9223372036854775807) : wrap64 ((i : Int) + 1) = ((i + 1 : Nat) : Int) := by unfold wrap64; omega
/-- Is all of it small enough to be copied? -/
def small46 (l : List S46) : Prop := l.length < 4398046511104 ∧ ∀ x ∈ l, x.f1.length < 140737488355328
def small44 (l : List S44) : Prop := l.length < 3518437208883 ∧ ∀ x ∈ l, small46 x.f2
theorem copied_inner (l : List S44) (out : List S44) (i : Nat) (c : S44) (hc : small46 c.f2) (ho : out.length < 3518437208883) (hi : i < 9223372036854775807) {r : List S44}
    (h : Ev (fun k => session_copied.l0 k (out ++ [c]) l (l.length : Int) ((i + 1 : Nat) : Int)) r) (d : Nat) : ∀ j : Nat, c.f2.length - j = d → j ≤ c.f2.length →
    Ev (fun k => session_copied.l1 k out (c.f2.take j) l (l.length : Int) i c.f2 (c.f2.length : Int) j c.f0 c.f1 c.f2) r := by
  have hlen := hc.1
  induction d with
  | zero =>
    intro j hd hj
    refine Ev.step (fun k => ?_) h
    simp only [session_copied.l1]
    rw [if_neg (by omega), if_pos ho, wrap_succ i hi, List.take_of_length_le (by omega)]
  | succ d ih =>
    intro j hd hj
    have hcl : slices_Clone_byte_byte.f (c.f2.getD j z46).f1 = some (c.f2.getD j z46).f1 := by
      unfold slices_Clone_byte_byte.f
      rw [if_pos]
      rw [getD46_at _ j (by omega)]
      exact hc.2 _ (List.getElem_mem _)
    refine Ev.step (fun k => ?_) (ih (j + 1) (by omega) (by omega))
    simp only [session_copied.l1]
    rw [if_pos (by omega), if_pos (by omega), if_pos (by omega), rd46_nat, hcl, Option.bind_some, if_pos (by rw [List.length_take]; omega), wrap_succ j (by omega), List.take_succ_eq_append_getElem (by omega), getD46_at _ j (by omega)]
theorem copied_outer (l : List S44) (h : small44 l) (d : Nat) : ∀ i : Nat, l.length - i = d → i ≤ l.length → Ev (fun k => session_copied.l0 k (l.take i) l (l.length : Int) i) l := by
  have hlen := h.1
  induction d with
  | zero =>
    intro i hd hi
    refine Ev.step (f := fun _ => some l) (fun k => ?_) (Ev.now _)
    simp only [session_copied.l0]
    rw [if_neg (by omega), List.take_of_length_le (by omega)]
  | succ d ih =>
    intro i hd hi
    have h2 := ih (i + 1) (by omega) (by omega)
    rw [List.take_succ_eq_append_getElem (by omega), ← getD44_at l i (by omega)] at h2
    refine Ev.step (fun k => ?_) (copied_inner l (l.take i) i (l.getD i z44) (by rw [getD44_at l i (by omega)]; exact h.2 _ (List.getElem_mem _)) (by rw [List.length_take]; omega) (by omega) h2 _ 0 rfl (by omega))
    simp only [session_copied.l0]
    rw [if_pos (by omega), if_pos (by omega), if_pos (by omega), rd44_nat]
    rfl
theorem copied_ev (l : List S44) (h : small44 l) : Ev (fun k => session_copied.f k l) l := copied_outer l h _ 0 rfl (by omega)
end Go.Proofs.Ytafnjlgdjhegaaa.Pr
