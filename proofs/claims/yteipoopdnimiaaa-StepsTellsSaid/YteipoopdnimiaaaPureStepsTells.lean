/-
  The pure statement of musterlaw11.StepsTells.
-/
import Derived.Test.YteipoopdnimiaaaShapeStepsTells
import Derived.Test.YteipoopdnimiaaaQ7
import Derived.Test.YteipoopdnimiaaaQA
namespace Go.Proofs.Yteipoopdnimiaaa.Pure
open Go.RowKit Go.Proofs.Yteipoopdnimiaaa.Pr Go.Proofs.YteipoopdnimiaaaW.PrintWords Go.Proofs.YteipoopdnimiaaaW.PrintLast Go.Proofs.YteipoopdnimiaaaO Go.Proofs.Yteipoopdnimiaaa.Q
theorem mark_loop (l : List S34) (hl : l.length ≤ 9223372036854775807) (d : Nat) : ∀ (i : Nat) (m : List S34), m.length ≤ 4096 → m.length - i = d → i ≤ m.length → Ev (fun k => musterlaw11_StepsTells.l0 k l l m i) true := by
  induction d with
  | zero =>
    intro i m hm hd hi
    refine Ev.step (f := fun k => (musterkit_SameCuts.f k l l).bind fun t243 => (if t243 = true then ((musterlaw11_awake.f k).bind fun t244 => (some t244)) else (some false))) (fun k => ?_) (Ev.bind (same_ev l hl) ?_)
    · simp only [musterlaw11_StepsTells.l0]
      rw [if_neg (by omega)]
    · simp only [if_true]
      exact Ev.bind awake_ev (Ev.now _)
  | succ d ih =>
    intro i m hm hd hi
    refine Ev.step (fun k => ?_) (ih (i + 1) (m.set i ⟨(m.getD i z34).f0, 77⟩) (by simpa using hm) (by simp; omega) (by simp; omega))
    simp only [musterlaw11_StepsTells.l0]
    rw [if_pos (by omega), if_pos (by omega), rd_nat, wrap_succ i (by omega)]
    rfl
theorem flat_ev (n : Int) : ∃ r, steps_Flat.f n = some r ∧ musterref11_Flat.f n = some r ∧ r.1.length ≤ 1 := by
  unfold steps_Flat.f musterref11_Flat.f
  split
  · exact ⟨_, rfl, rfl, by simp⟩
  · split
    · exact ⟨_, rfl, rfl, by simp⟩
    · exact ⟨_, rfl, rfl, by simp⟩
theorem StepsTells : ∀ (l0 : List (S34)) (x1 : S24), (l0.length * 16 ≤ 140737488351232 ∧ l0.length ≤ 9223372036854775807 ∧ ∀ y ∈ l0, opW34 y) → opW24 x1 → ∃ k, musterlaw11_StepsTells.f k l0 x1.f0 x1.f1 x1.f2 = some true := by
  intro l x1 ⟨hl, hl2, _⟩ _
  refine Ev.rounds ?_
  obtain ⟨rf, f1, f2, f3⟩ := flat_ev x1.f2
  obtain ⟨ra, a1, a2⟩ := at_ev l x1.f0
  obtain ⟨rl, l1, l2⟩ := Least_ev l x1.f0 x1.f1
  have b1 := Add_own l x1.f0 x1.f1 x1.f2
  have b2 := Add_two l x1.f0 x1.f1 x1.f2
  have b3 := addAns_len l x1.f0 x1.f1 x1.f2
  obtain ⟨rb, hb⟩ : ∃ rb, addAns l x1.f0 x1.f1 x1.f2 = rb := ⟨_, rfl⟩
  rw [hb] at b1 b2 b3
  obtain ⟨r1, e1, q1⟩ := right_ev l
  obtain ⟨r2, e2, q2⟩ := ref_right_ev l
  have hrr : r1 = r2 := by
    cases r1 <;> cases r2 <;> simp_all
  subst hrr
  unfold musterlaw11_StepsTells.f
  refine Ev.bind (copy_ev l hl) ?_
  simp only [f1, f2, Option.bind_some]
  refine Ev.bind a1 (Ev.bind a2 (Ev.bind l1 (Ev.bind l2 (Ev.bind b1 (Ev.bind b2 (Ev.bind (same_ev rf.1 (by omega)) ?_))))))
  simp only [if_true]
  refine Ev.bind (same_ev rb.1 (by omega)) ?_
  simp only [if_true]
  refine Ev.bind e1 (Ev.bind e2 ?_)
  refine Ev.step (f := fun k => musterlaw11_StepsTells.l0 k l l rb.1 ((0 : Nat) : Int)) (fun k => ?_) (mark_loop l hl2 _ 0 rb.1 b3 rfl (by omega))
  simp only [musterlaw11_StepsTells.j0]
  rw [if_neg (by simp)]
  rfl
end Go.Proofs.Yteipoopdnimiaaa.Pure
