/-
  The program's addition and the document's come to the same.
-/
import Derived.Test.YteipoopdnimiaaaQ6
import Derived.Test.YteipoopdnimiaaaHAdd
namespace Go.Proofs.Yteipoopdnimiaaa.Q
open Go.RowKit Go.Proofs.Yteipoopdnimiaaa.Pr Go.Proofs.YteipoopdnimiaaaW.PrintWords Go.Proofs.YteipoopdnimiaaaW.PrintLast
set_option linter.unusedVariables false
set_option linter.unusedSimpArgs false
section
variable {l : List S34} {a b n : Int}
theorem window_split (h : WindowP l a b) : ∃ i j, upTo l a = i + 1 ∧ upTo (splitAt l a) b = j + 1 ∧ rising l = true ∧ rising (splitAt l a) = true ∧ rising (splitAt (splitAt l a) b) = true := by
  obtain ⟨hR, ha, hab, hb⟩ := h
  have hr := right_rising hR
  have h1 := right_upTo hR ha
  obtain ⟨i, hi⟩ : ∃ i, upTo l a = i + 1 := ⟨_, (Nat.succ_pred_eq_of_pos h1).symm⟩
  have hr1 := split_rising hr hi
  have h2 : 0 < upTo (splitAt l a) b := by
    refine upTo_pos (by have := (splitAt_len l a).1; have := hR.1; omega) ?_
    rw [split_head hi, hR.2.2.1]
    omega
  obtain ⟨j, hj⟩ : ∃ j, upTo (splitAt l a) b = j + 1 := ⟨_, (Nat.succ_pred_eq_of_pos h2).symm⟩
  exact ⟨i, j, hi, hj, hr, hr1, split_rising hr1 hj⟩
theorem window_fine (h : WindowP l a b) : addFine l a b = true := by
  obtain ⟨i, j, hi, hj, hr, hr1, hr2⟩ := window_split h
  unfold addFine
  have := h.1.2.1
  simp [hr, hr1, hi, hj, this]
theorem addCut_f0 (c : S34) : (addCut a b n c).f0 = c.f0 := by unfold addCut; split <;> rfl
theorem rows_times (l : List S34) (a b n : Int) : (addRows l a b n).map S34.f0 = (splitAt (splitAt l a) b).map S34.f0 := by
  unfold addRows
  rw [List.map_map]
  congr 1
  funext c
  exact addCut_f0 c
theorem rows_value (h : WindowP l a b) : ∀ c ∈ addRows l a b n, c.f1 = val l a b n c.f0 := by
  obtain ⟨i, j, hi, hj, hr, hr1, hr2⟩ := window_split h
  intro c hc
  obtain ⟨d, hd, rfl⟩ := List.mem_map.1 hc
  have hv : valueOf l d.f0 = d.f1 := by rw [← cut_value hr2 hd, split_value hr1 hj, split_value hr hi]
  rw [addCut_f0]
  unfold addCut val
  split
  · rw [hv]
  · rw [hv]
theorem rows_rising (h : WindowP l a b) : (addRows l a b n).Pairwise (fun x y => x.f0 < y.f0) := by
  obtain ⟨i, j, hi, hj, hr, hr1, hr2⟩ := window_split h
  have := rising_iff.1 hr2
  unfold addRows
  rw [List.pairwise_map]
  simpa only [addCut_f0] using this
theorem rows_mem (h : WindowP l a b) (t : Int) : t ∈ (addRows l a b n).map S34.f0 ↔ t ∈ [a, b] ++ l.map S34.f0 := by
  obtain ⟨i, j, hi, hj, hr, hr1, hr2⟩ := window_split h
  rw [rows_times]
  have e1 := split_times hj t
  have e2 := split_times hi t
  simp only [List.mem_map, List.mem_append, List.mem_cons, List.not_mem_nil, or_false]
  rw [e1, e2]
  constructor
  · rintro ((h | h) | h)
    · exact .inr h
    · exact .inl (.inl h)
    · exact .inl (.inr h)
  · rintro ((h | h) | h)
    · exact .inl (.inr h)
    · exact .inr h
    · exact .inl (.inl h)
theorem refEnd_pure (h : WindowP l a b) {T : List Int} (hp : T.Perm ([a, b] ++ l.map S34.f0)) (hs : T.Pairwise (· ≤ ·)) : refEnd (refOut (val l a b n) T []) = addPure l a b n := by
  have e : uniq T = (addRows l a b n).map S34.f0 := rises_eq _ _ (uniq_rises T hs) (List.pairwise_map.2 (rows_rising h)) fun t => by rw [uniq_mem, rows_mem h, hp.mem_iff]
  rw [← refOut_uniq, e, refOut_compact _ _ (rows_value h)]
  unfold addPure
  split
  · rfl
  · rfl
theorem Add_ref (h : WindowP l a b) (h1 : ¬ n < -1073741824) (h2 : ¬ 1073741824 < n) : Ev (fun k => musterref11_Add.f k l a b n) (addPure l a b n) := by
  have hl := h.1.2.1
  unfold musterref11_Add.f
  refine Ev.bind ((ref_window_ev l a b).yes h) ?_
  simp only [if_true]
  simp only [if_neg h1]
  refine Ev.step (f := fun k => musterref11_Add.l0 k l a b n ([a, b] ++ (l.take 0).map S34.f0) ((0 : Nat) : Int)) (fun k => ?_) (add_l0 hl ?_ _ 0 rfl (by omega))
  · simp only [musterref11_Add.j0]
    rw [if_neg (by simpa using h2)]
    rfl
  · refine add_l1 (N := l.length + 2) (by omega) _ 1 rfl _ (by simp) ([a, b] ++ l.map S34.f0) (List.Perm.refl _) (fun x y hx hy => by omega) ?_
    intro T hp hs
    have hT : T.length = l.length + 2 := by rw [hp.length_eq]; simp
    have := add_l3 (a := a) (b := b) (n := n) hl (T := T) (by omega) _ 0 [] rfl (by omega) (by simp)
    rw [List.drop_zero] at this
    rw [refEnd_pure h hp] at this
    · exact this
    · rw [List.pairwise_iff_getElem]
      intro i j hi hj hij
      have := hs i j hij (by omega)
      rwa [getDi_at T i hi, getDi_at T j hj] at this
/-- The answer of the addition. -/
noncomputable def addAns (l : List S34) (a b n : Int) : List S34 × Int := by
  classical exact if WindowP l a b ∧ ¬ n < -1073741824 ∧ ¬ 1073741824 < n then addPure l a b n else ([], 2)
theorem addAns_yes (h : WindowP l a b) (h1 : ¬ n < -1073741824) (h2 : ¬ 1073741824 < n) : addAns l a b n = addPure l a b n := by
  unfold addAns
  rw [if_pos ⟨h, h1, h2⟩]
theorem addAns_no (h : ¬ (WindowP l a b ∧ ¬ n < -1073741824 ∧ ¬ 1073741824 < n)) : addAns l a b n = ([], 2) := by
  unfold addAns
  rw [if_neg h]
theorem Add_own (l : List S34) (a b n : Int) : Ev (fun k => steps_Add.f k l a b n) (addAns l a b n) := by
  unfold steps_Add.f
  by_cases h : WindowP l a b
  · refine Ev.bind ((window_ev l a b).yes h) ?_
    by_cases h1 : n < -1073741824
    · rw [addAns_no (by simp [h1]), if_pos (by simp [h1])]
      exact Ev.now _
    · by_cases h2 : 1073741824 < n
      · rw [addAns_no (by simp [h2]), if_pos (by simp [h2])]
        exact Ev.now _
      · rw [addAns_yes h h1 h2, if_neg (by simp; omega), if_pos (window_fine h)]
        exact Ev.now _
  · refine Ev.bind ((window_ev l a b).no h) ?_
    rw [addAns_no (by simp [h]), if_pos (.inl rfl)]
    exact Ev.now _
theorem Add_two (l : List S34) (a b n : Int) : Ev (fun k => musterref11_Add.f k l a b n) (addAns l a b n) := by
  have hj : ∀ bb, bb = true → Ev (fun k => musterref11_Add.j0 k l a b n bb) ([], 2) := by
    rintro _ rfl
    exact Ev.step (f := fun _ => some ([], 2)) (fun k => by simp only [musterref11_Add.j0]; rfl) (Ev.now _)
  by_cases h : WindowP l a b
  · by_cases h1 : n < -1073741824
    · rw [addAns_no (by simp [h1])]
      unfold musterref11_Add.f
      refine Ev.bind ((ref_window_ev l a b).yes h) ?_
      simp only [if_true, if_pos h1]
      exact hj _ rfl
    · by_cases h2 : 1073741824 < n
      · rw [addAns_no (by simp [h2])]
        unfold musterref11_Add.f
        refine Ev.bind ((ref_window_ev l a b).yes h) ?_
        simp only [if_true, if_neg h1]
        exact hj _ (by simpa using h2)
      · rw [addAns_yes h h1 h2]
        exact Add_ref h h1 h2
  · rw [addAns_no (by simp [h])]
    unfold musterref11_Add.f
    refine Ev.bind ((ref_window_ev l a b).no h) ?_
    simp only [Bool.false_eq_true, if_false]
    exact hj _ rfl
theorem addAns_len (l : List S34) (a b n : Int) : (addAns l a b n).1.length ≤ 4096 := by
  unfold addAns addPure
  split
  · split
    · simp
    · split
      · simp
      · show (compact (addRows l a b n)).length ≤ 4096; omega
  · simp
end
end Go.Proofs.Yteipoopdnimiaaa.Q
