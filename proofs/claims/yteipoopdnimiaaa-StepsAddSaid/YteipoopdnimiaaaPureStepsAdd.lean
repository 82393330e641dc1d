/-
  The pure statement of musterlaw11.StepsAdd.
-/
import Derived.Test.YteipoopdnimiaaaShapeStepsAdd
import Derived.Test.YteipoopdnimiaaaQ8
import Derived.Test.YteipoopdnimiaaaQA
namespace Go.Proofs.Yteipoopdnimiaaa.Pure
open Go.RowKit Go.Proofs.Yteipoopdnimiaaa.Pr Go.Proofs.YteipoopdnimiaaaW.PrintWords Go.Proofs.YteipoopdnimiaaaW.PrintLast Go.Proofs.YteipoopdnimiaaaO Go.Proofs.Yteipoopdnimiaaa.Q
def atOf (l : List S34) (t : Int) : Int × Int := if t < 0 then (0, 2) else if t > 2199023255552 then (0, 2) else (valueOf l t, 0)
theorem At_right {l : List S34} (hR : RightP l) (t : Int) : Ev (fun k => steps_At.f k l t) (atOf l t) := by
  unfold steps_At.f atOf
  by_cases c1 : t < 0
  · simp only [if_pos c1]
    exact Ev.now _
  · simp only [if_neg c1]
    by_cases c2 : t > 2199023255552
    · simp only [if_pos c2]
      exact Ev.now _
    · simp only [if_neg c2]
      have hr := right_rising hR
      have hp := right_upTo hR (t := t) (by omega)
      have hl := upTo_length l t
      refine Ev.bind ((right_ev l).yes hR) ?_
      simp only [if_true]
      rw [place_some hr]
      simp only [Option.bind_some]
      rw [show ((upTo l t : Int) - 1) = ((upTo l t - 1 : Nat) : Int) by omega, if_pos (by omega), if_pos (by omega), rd_nat, value_at hr hp]
      exact Ev.now _
theorem StepsAdd : ∀ (l0 : List (S34)) (x1 : S24) (a2 : Int), (l0.length * 16 ≤ 140737488351232 ∧ l0.length ≤ 9223372036854775807 ∧ ∀ y ∈ l0, opW34 y) → opW24 x1 → (Lit.int .i64 a2).wf = true → ∃ k, musterlaw11_StepsAdd.f k l0 x1.f0 x1.f1 x1.f2 a2 = some true := by
  intro l x t ⟨hl, hl2, _⟩ _ _
  refine Ev.rounds ?_
  have b1 := Add_own l x.f0 x.f1 x.f2
  unfold musterlaw11_StepsAdd.f
  by_cases hz : (addAns l x.f0 x.f1 x.f2).2 = 0
  · have hcond : WindowP l x.f0 x.f1 ∧ ¬ x.f2 < -1073741824 ∧ ¬ 1073741824 < x.f2 := by
      by_cases h : WindowP l x.f0 x.f1 ∧ ¬ x.f2 < -1073741824 ∧ ¬ 1073741824 < x.f2
      · exact h
      · rw [addAns_no h] at hz
        simp at hz
    obtain ⟨hw, n1, n2⟩ := hcond
    rw [addAns_yes hw n1 n2] at b1 hz
    have hg : (addRows l x.f0 x.f1 x.f2).any isBad = false := by
      cases e : (addRows l x.f0 x.f1 x.f2).any isBad with
      | false => rfl
      | true =>
        unfold addPure at hz
        rw [e, if_pos rfl] at hz
        simp at hz
    have hlen : (compact (addRows l x.f0 x.f1 x.f2)).length ≤ 4096 := by
      by_cases e : 4096 < (compact (addRows l x.f0 x.f1 x.f2)).length
      · unfold addPure at hz
        rw [hg, if_neg (by simp), if_pos e] at hz
        simp at hz
      · omega
    have hp : addPure l x.f0 x.f1 x.f2 = (compact (addRows l x.f0 x.f1 x.f2), 0) := by
      unfold addPure
      rw [hg, if_neg (by simp), if_neg (by omega)]
    rw [hp] at b1
    have hm := rows_right hw hg hlen
    have hback := Add_own (compact (addRows l x.f0 x.f1 x.f2)) x.f0 x.f1 (wrap64 (-x.f2))
    rw [rows_back hw n1 n2 hg hlen] at hback
    have hval : ∀ t, 0 ≤ t → valueOf (compact (addRows l x.f0 x.f1 x.f2)) t = val l x.f0 x.f1 x.f2 t := fun t ht => by rw [compact_value (rising_iff.2 (rows_rising hw)), rows_value_at hw ht]
    obtain ⟨m, hm0⟩ : ∃ m, compact (addRows l x.f0 x.f1 x.f2) = m := ⟨_, rfl⟩
    rw [hm0] at b1 hm hback hval
    refine Ev.bind b1 ?_
    simp only [if_true]
    refine Ev.bind (At_right hw.1 t) (Ev.bind (At_right hm t) ?_)
    have hend : Ev (fun k => (steps_Add.f k m x.f0 x.f1 (wrap64 (-x.f2))).bind fun bt => if bt.2 = 0 then (musterkit_SameCuts.f k bt.1 l).bind fun t => if t = true then (musterlaw11_awake.f k).bind fun t => some t else some false else some false) true := by
      refine Ev.bind hback ?_
      simp only [if_true]
      refine Ev.bind (same_ev l hl2) ?_
      simp only [if_true]
      exact Ev.bind awake_ev (Ev.now _)
    unfold atOf
    by_cases c1 : t < 0
    · simp only [if_pos c1, if_true]
      refine Ev.bind ((right_ev m).yes hm) ?_
      refine Ev.step (fun k => ?_) hend
      simp only [musterlaw11_StepsAdd.j0]
      rw [if_neg (by simp), if_neg (by decide)]
    · by_cases c2 : t > 2199023255552
      · simp only [if_neg c1, if_pos c2, if_true]
        refine Ev.bind ((right_ev m).yes hm) ?_
        refine Ev.step (fun k => ?_) hend
        simp only [musterlaw11_StepsAdd.j0]
        rw [if_neg (by simp), if_neg (by decide)]
      · simp only [if_neg c1, if_neg c2, if_true]
        refine Ev.bind ((right_ev m).yes hm) ?_
        have h2 : Ev (fun k => musterlaw11_StepsAdd.j2 k l m (valueOf m t) (val l x.f0 x.f1 x.f2 t) x.f0 x.f1 x.f2) true := by
          refine Ev.step (fun k => ?_) hend
          simp only [musterlaw11_StepsAdd.j2]
          rw [if_pos (hval t (by omega))]
        have h1 : ∀ bb : Bool, (bb = true ↔ x.f0 ≤ t ∧ t < x.f1) → Ev (fun k => musterlaw11_StepsAdd.j1 k l m (valueOf m t) (valueOf l t) bb x.f0 x.f1 x.f2) true := by
          intro bb hbb
          refine Ev.step (fun k => ?_) h2
          simp only [musterlaw11_StepsAdd.j1]
          unfold val
          by_cases hc : x.f0 ≤ t ∧ t < x.f1
          · rw [if_pos (hbb.2 hc), if_pos hc]
          · rw [if_neg (fun h => hc (hbb.1 h)), if_neg hc]
        by_cases hge : t ≥ x.f0
        · refine Ev.step (fun k => ?_) (h1 (decide (t < x.f1)) (by rw [decide_eq_true_eq]; omega))
          simp only [musterlaw11_StepsAdd.j0]
          rw [if_neg (by simp), if_pos (by decide), if_pos hge]
        · refine Ev.step (fun k => ?_) (h1 false (by simp; omega))
          simp only [musterlaw11_StepsAdd.j0]
          rw [if_neg (by simp), if_pos (by decide), if_neg hge]
  · refine Ev.bind b1 ?_
    simp only [if_neg hz]
    have he : (((addAns l x.f0 x.f1 x.f2).1.length : Nat) : Int) = 0 := by
      revert hz
      unfold addAns addPure
      split
      · split
        · intro _; rfl
        · split
          · intro _; rfl
          · intro h; exact absurd rfl h
      · intro _; rfl
    simp only [if_pos he]
    exact Ev.bind awake_ev (Ev.now _)
end Go.Proofs.Yteipoopdnimiaaa.Pure
