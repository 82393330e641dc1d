/-
  The document's addition, in plain lists.
-/
import Derived.Test.YteipoopdnimiaaaQ5
namespace Go.Proofs.Yteipoopdnimiaaa.Q
open Go.RowKit Go.Proofs.Yteipoopdnimiaaa.Pr Go.Proofs.YteipoopdnimiaaaW.PrintWords Go.Proofs.YteipoopdnimiaaaW.PrintLast
set_option linter.unusedVariables false
set_option linter.unusedSimpArgs false
theorem rdi_nat (l : List Int) (i : Nat) : rd l (i : Int) = l.getD i 0 := by simp [rd]
theorem getDi_at (l : List Int) (i : Nat) (h : i < l.length) : l.getD i 0 = l[i] := by rw [List.getD_eq_getElem?_getD, List.getElem?_eq_getElem h]; rfl
section
variable {l : List S34} {a b n : Int} {r : List S34 × Int}
theorem add_l0 (hl : l.length ≤ 4096) (h : Ev (fun k => musterref11_Add.l1 k l a b n ([a, b] ++ l.map S34.f0) 1) r) (d : Nat) :
    ∀ i : Nat, l.length - i = d → i ≤ l.length → Ev (fun k => musterref11_Add.l0 k l a b n ([a, b] ++ (l.take i).map S34.f0) i) r := by
  induction d with
  | zero =>
    intro i hd hi
    refine Ev.step (fun k => ?_) h
    simp only [musterref11_Add.l0]
    rw [if_neg (by omega), List.take_of_length_le (by omega)]
  | succ d ih =>
    intro i hd hi
    refine Ev.step (fun k => ?_) (ih (i + 1) (by omega) (by omega))
    simp only [musterref11_Add.l0]
    rw [if_pos (by omega), if_pos (by omega), if_pos (by simp; omega), rd_nat, wrap_succ i (by omega), List.take_succ_eq_append_getElem (by omega), getD_at l i (by omega), List.map_append, ← List.append_assoc]
    rfl
/-- The times in order, up to place p, but for place j. -/
def Ord (T : List Int) (p j : Nat) : Prop := ∀ x y, x < y → y ≤ p → y ≠ j → T.getD x 0 ≤ T.getD y 0
def Sorted (T : List Int) (p : Nat) : Prop := ∀ x y, x < y → y < p → T.getD x 0 ≤ T.getD y 0
theorem swap_get (T : List Int) (j i : Nat) (h : j + 1 < T.length) : ((T.set (j + 1) (T.getD j 0)).set j (T.getD (j + 1) 0)).getD i 0 = if i = j then T.getD (j + 1) 0 else if i = j + 1 then T.getD j 0 else T.getD i 0 := by
  simp only [List.getD_eq_getElem?_getD, List.getElem?_set, List.length_set]
  split
  · rename_i hij
    subst hij
    rw [if_pos (by omega), if_pos rfl]
    rfl
  · rename_i hij
    rw [if_neg (show ¬ i = j by omega)]
    split
    · rename_i h2
      rw [if_pos h2.symm]
      rfl
    · rename_i h2
      rw [if_neg (show ¬ i = j + 1 by omega)]
theorem ord_swap {T : List Int} {p j : Nat} (h : j + 1 < T.length) (hp : j + 1 ≤ p) (ho : Ord T p (j + 1)) (hlt : T.getD (j + 1) 0 < T.getD j 0) : Ord ((T.set (j + 1) (T.getD j 0)).set j (T.getD (j + 1) 0)) p j := by
  intro x y hxy hy hn
  rw [swap_get T j x h, swap_get T j y h, if_neg hn]
  by_cases e1 : y = j + 1
  · subst e1
    rw [if_pos rfl]
    by_cases e2 : x = j
    · rw [if_pos e2]; omega
    · rw [if_neg e2, if_neg (by omega)]
      exact ho x j (by omega) (by omega) (by omega)
  · rw [if_neg e1]
    by_cases e2 : x = j
    · rw [if_pos e2]
      exact ho (j + 1) y (by omega) hy e1
    · rw [if_neg e2]
      by_cases e3 : x = j + 1
      · rw [if_pos e3]
        exact ho j y (by omega) hy e1
      · rw [if_neg e3]
        exact ho x y hxy hy e1
theorem swap_perm (T : List Int) (j : Nat) (h : j + 1 < T.length) : ((T.set (j + 1) (T.getD j 0)).set j (T.getD (j + 1) 0)).Perm T := by
  rw [getDi_at T j (by omega), getDi_at T (j + 1) h]
  exact List.set_set_perm h (by omega)
/-- One round of the insertion. -/
theorem add_l2 {p N : Nat} (hN : N ≤ 5000) (hp : p < N) (h : ∀ T : List Int, T.length = N → ∀ T0 : List Int, T.Perm T0 → Sorted T (p + 1) → (∀ T' : List Int, T'.Perm T0 → Sorted T' N → Ev (fun k => musterref11_Add.l3 k l a b n T' [] 0) r) → Ev (fun k => musterref11_Add.l1 k l a b n T ((p + 1 : Nat) : Int)) r) :
    ∀ (j : Nat) (T : List Int), T.length = N → j ≤ p → ∀ T0 : List Int, T.Perm T0 → Ord T p j → (∀ T' : List Int, T'.Perm T0 → Sorted T' N → Ev (fun k => musterref11_Add.l3 k l a b n T' [] 0) r) → Ev (fun k => musterref11_Add.l2 k l a b n T p j) r := by
  intro j
  induction j with
  | zero =>
    intro T hT hj T0 hperm ho hend
    refine Ev.step (fun k => ?_) (h T hT T0 hperm (fun x y hx hy => ho x y hx (by omega) (by omega)) hend)
    simp only [musterref11_Add.l2]
    rw [if_neg (by omega), wrap_succ p (by omega)]
  | succ j ih =>
    intro T hT hj T0 hperm ho hend
    have hw := wrap_pred j (by omega)
    by_cases hlt : T.getD (j + 1) 0 < T.getD j 0
    · refine Ev.step (fun k => ?_) (ih ((T.set (j + 1) (T.getD j 0)).set j (T.getD (j + 1) 0)) (by simp [hT]) (by omega) T0 ((swap_perm T j (by omega)).trans hperm) (ord_swap (by omega) hj ho hlt) hend)
      simp only [musterref11_Add.l2]
      rw [if_pos (by omega), if_pos (by omega), if_pos (by omega), hw, if_pos (by omega), if_pos (by omega), rdi_nat, rdi_nat, if_pos hlt]
      rfl
    · refine Ev.step (fun k => ?_) (h T hT T0 hperm (fun x y hx hy => ?_) hend)
      · simp only [musterref11_Add.l2]
        rw [if_pos (by omega), if_pos (by omega), if_pos (by omega), hw, if_pos (by omega), if_pos (by omega), rdi_nat, rdi_nat, if_neg hlt, wrap_succ p (by omega)]
      · by_cases e : y = j + 1
        · subst e
          by_cases e2 : x = j
          · subst e2; omega
          · have := ho x j (by omega) (by omega) (by omega)
            omega
        · exact ho x y hx (by omega) e
theorem add_l1 {N : Nat} (hN : N ≤ 5000) (d : Nat) : ∀ p : Nat, N - p = d → ∀ T : List Int, T.length = N → ∀ T0 : List Int, T.Perm T0 → Sorted T p → (∀ T' : List Int, T'.Perm T0 → Sorted T' N → Ev (fun k => musterref11_Add.l3 k l a b n T' [] 0) r) → Ev (fun k => musterref11_Add.l1 k l a b n T p) r := by
  induction d with
  | zero =>
    intro p hd T hT T0 hperm hs hend
    refine Ev.step (fun k => ?_) (hend T hperm (fun x y hx hy => hs x y hx (by omega)))
    simp only [musterref11_Add.l1]
    rw [if_neg (by omega)]
  | succ d ih =>
    intro p hd T hT T0 hperm hs hend
    refine Ev.step (fun k => ?_) (add_l2 hN (show p < N by omega) (ih (p + 1) (by omega)) p T hT (Nat.le_refl _) T0 hperm (fun x y hx hy hn => hs x y hx (by omega)) hend)
    simp only [musterref11_Add.l1]
    rw [if_pos (by omega)]
def refEnd : Option (List S34) → List S34 × Int
  | none => ([], 120)
  | some o => if 4096 < o.length then ([], 5) else (o, 0)
theorem add_l3 (hl : l.length ≤ 4096) {T : List Int} (hT : T.length ≤ 5000) (d : Nat) : ∀ (i : Nat) (out : List S34), T.length - i = d → i ≤ T.length → out.length ≤ i → Ev (fun k => musterref11_Add.l3 k l a b n T out i) (refEnd (refOut (val l a b n) (T.drop i) out)) := by
  induction d with
  | zero =>
    intro i out hd hi ho
    rw [List.drop_of_length_le (by omega), refOut]
    refine Ev.step (f := fun _ => some (refEnd (some out))) (fun k => ?_) (Ev.now _)
    simp only [musterref11_Add.l3]
    rw [if_neg (by omega), refEnd]
    split
    · rw [if_pos (by omega)]
    · rw [if_neg (by omega)]
  | succ d ih =>
    intro i out hd hi ho
    rw [List.drop_eq_getElem_cons (by omega), ← getDi_at T i (by omega), refOut]
    obtain ⟨t, ht⟩ : ∃ t, T.getD i 0 = t := ⟨_, rfl⟩
    rw [ht]
    have h7 : ∀ bb : Bool, bb = badV (val l a b n t) → Ev (fun k => musterref11_Add.j7 k l a b n T out i (val l a b n t) bb) (refEnd (if badV (val l a b n t) = true then none else if out.length = 0 ∨ ¬ (out.getD (out.length - 1) z34).f1 = val l a b n t then refOut (val l a b n) (T.drop (i + 1)) (out ++ [⟨t, val l a b n t⟩]) else refOut (val l a b n) (T.drop (i + 1)) out)) := by
      rintro bb rfl
      by_cases hb : badV (val l a b n t) = true
      · rw [if_pos hb]
        refine Ev.step (f := fun _ => some ([], 120)) (fun k => ?_) (Ev.now _)
        simp only [musterref11_Add.j7]
        rw [if_pos hb]
      · rw [if_neg hb]
        by_cases h0 : out.length = 0
        · rw [if_pos (.inl h0)]
          refine Ev.step (fun k => ?_) (ih (i + 1) (out ++ [⟨t, val l a b n t⟩]) (by omega) (by omega) (by simp; omega))
          simp only [musterref11_Add.j7]
          rw [if_neg hb, if_pos (by omega), if_pos (by omega), if_pos (by omega), if_pos (by omega), rdi_nat, ht, wrap_succ i (by omega)]
        · have hwp : wrap64 ((out.length : Int) - 1) = ((out.length - 1 : Nat) : Int) := by unfold wrap64; omega
          by_cases h1 : (out.getD (out.length - 1) z34).f1 = val l a b n t
          · rw [if_neg (by rintro (h | h); exact h0 h; exact h h1)]
            refine Ev.step (fun k => ?_) (ih (i + 1) out (by omega) (by omega) (by omega))
            simp only [musterref11_Add.j7]
            rw [if_neg hb, if_neg (by omega), hwp, if_pos (by omega), if_pos (by omega), rd_nat, if_pos h1, wrap_succ i (by omega)]
          · rw [if_pos (.inr h1)]
            refine Ev.step (fun k => ?_) (ih (i + 1) (out ++ [⟨t, val l a b n t⟩]) (by omega) (by omega) (by simp; omega))
            simp only [musterref11_Add.j7]
            rw [if_neg hb, if_neg (by omega), hwp, if_pos (by omega), if_pos (by omega), rd_nat, if_neg h1, if_pos (by omega), if_pos (by omega), if_pos (by omega), rdi_nat, ht, wrap_succ i (by omega)]
    generalize refEnd (if badV (val l a b n t) = true then none else if out.length = 0 ∨ ¬ (out.getD (out.length - 1) z34).f1 = val l a b n t then refOut (val l a b n) (T.drop (i + 1)) (out ++ [⟨t, val l a b n t⟩]) else refOut (val l a b n) (T.drop (i + 1)) out) = R at h7 ⊢
    have h6 : Ev (fun k => musterref11_Add.j6 k l a b n T out i (val l a b n t)) R := by
      by_cases hn : val l a b n t < 0
      · refine Ev.step (fun k => ?_) (h7 true (by unfold badV; simp [hn]))
        simp only [musterref11_Add.j6]
        rw [if_pos hn]
      · refine Ev.step (fun k => ?_) (h7 (decide (val l a b n t > 1073741824)) (by unfold badV; simp [hn]))
        simp only [musterref11_Add.j6]
        rw [if_neg hn]
    have h5 : ∀ bb : Bool, (bb = true ↔ a ≤ t ∧ t < b) → Ev (fun k => musterref11_Add.j5 k l a b n T out i (valueOf l t) bb) R := by
      intro bb hbb
      refine Ev.step (fun k => ?_) h6
      simp only [musterref11_Add.j5]
      unfold val
      by_cases hc : a ≤ t ∧ t < b
      · rw [if_pos (hbb.2 hc), if_pos hc]
      · rw [if_neg (fun h => hc (hbb.1 h)), if_neg hc]
    by_cases hge : t ≥ a
    · refine Ev.step (f := fun k => (musterref11_value.f k l t).bind fun v => musterref11_Add.j5 k l a b n T out i v (decide (t < b))) (fun k => ?_) (Ev.bind (value_ev l t (by omega)) (h5 _ (by rw [decide_eq_true_eq]; omega)))
      simp only [musterref11_Add.l3]
      rw [if_pos (by omega), if_pos (by omega), rdi_nat, ht]
      simp only [if_pos hge]
    · refine Ev.step (f := fun k => (musterref11_value.f k l t).bind fun v => musterref11_Add.j5 k l a b n T out i v false) (fun k => ?_) (Ev.bind (value_ev l t (by omega)) (h5 _ (by simp; omega)))
      simp only [musterref11_Add.l3]
      rw [if_pos (by omega), if_pos (by omega), rdi_nat, ht]
      simp only [if_neg hge]
end
end Go.Proofs.Yteipoopdnimiaaa.Q
