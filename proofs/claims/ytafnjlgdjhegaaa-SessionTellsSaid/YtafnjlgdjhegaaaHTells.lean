/-
  Texts of this session, laid together by wip/tools/merge.py: Q4, Q5, Q6, HTells.
-/
import Derived.Test.YtafnjlgdjhegaaaQ3
import Derived.Test.YtafnjlgdjhegaaaPr10
import Derived.Test.YtafnjlgdjhegaaaPr12
import Derived.Test.YtafnjlgdjhegaaaPr13
import Derived.Test.YtafnjlgdjhegaaaPr14
import Derived.Test.YtafnjlgdjhegaaaPr15
import Derived.Test.YtafnjlgdjhegaaaHSame
import Derived.Test.YtafnjlgdjhegaaaHAwake
import Derived.Test.YtafnjlgdjhegaaaHLent
section
namespace Go.Proofs.Ytafnjlgdjhegaaa.Pr
open Go.RowKit Go.Proofs.YtafnjlgdjhegaaaW.PrintWords Go.Proofs.YtafnjlgdjhegaaaW.PrintLast Go.Proofs.YtafnjlgdjhegaaaG Go.Proofs.YtafnjlgdjhegaaaW.PrintMore
set_option linter.unusedVariables false
set_option linter.unusedSimpArgs false
theorem copyBytes_eq {l : List Int} (h : l.length < 140737488355328) : musterlow_CopyBytes.f l = some l := by
  unfold musterlow_CopyBytes.f
  rw [if_pos (by simpa using h)]
  rfl
theorem copyc_inner (l out : List S44) (i : Nat) (c : S44) (hcg : l.getD i z44 = c) (hi : i < l.length) (hl : l.length < 3518437208883) (hc : small46 c.f2) (ho : out.length < 3518437208883) {r : List S44}
    (h : Ev (fun k => musterlow_CopyClients.l0 k l (out ++ [c]) ((i + 1 : Nat) : Int)) r) (d : Nat) : ∀ j : Nat, c.f2.length - j = d → j ≤ c.f2.length →
    Ev (fun k => musterlow_CopyClients.l1 k l out i j c.f0 c.f1 (c.f2.take j)) r := by
  have hlen := hc.1
  induction d with
  | zero =>
    intro j hd hj
    refine Ev.step (fun k => ?_) h
    simp only [musterlow_CopyClients.l1]
    rw [if_pos (by omega), if_pos (by omega), rd44_nat, hcg, if_neg (by omega), if_pos ho, wrap_succ i (by omega), List.take_of_length_le (by omega)]
  | succ d ih =>
    intro j hd hj
    have hcl : musterlow_CopyBytes.f (c.f2.getD j z46).f1 = some (c.f2.getD j z46).f1 := copyBytes_eq (by rw [getD46_at _ j (by omega)]; exact hc.2 _ (List.getElem_mem _))
    refine Ev.step (fun k => ?_) (ih (j + 1) (by omega) (by omega))
    simp only [musterlow_CopyClients.l1]
    rw [if_pos (by omega), if_pos (by omega), rd44_nat, hcg, if_pos (by omega), if_pos (by omega), rd46_nat, hcl, Option.bind_some, if_pos (by rw [List.length_take]; omega), wrap_succ j (by omega), List.take_succ_eq_append_getElem (by omega), getD46_at _ j (by omega)]
theorem copyc_outer (l : List S44) (h : small44 l) (d : Nat) : ∀ i : Nat, l.length - i = d → i ≤ l.length → Ev (fun k => musterlow_CopyClients.l0 k l (l.take i) i) l := by
  have hlen := h.1
  induction d with
  | zero =>
    intro i hd hi
    refine Ev.step (f := fun _ => some l) (fun k => ?_) (Ev.now _)
    simp only [musterlow_CopyClients.l0]
    rw [if_neg (by omega), List.take_of_length_le (by omega)]
  | succ d ih =>
    intro i hd hi
    have h2 := ih (i + 1) (by omega) (by omega)
    rw [List.take_succ_eq_append_getElem (by omega), ← getD44_at l i (by omega)] at h2
    refine Ev.step (fun k => ?_) (copyc_inner l (l.take i) i _ rfl (by omega) hlen (by rw [getD44_at l i (by omega)]; exact h.2 _ (List.getElem_mem _)) (by rw [List.length_take]; omega) h2 _ 0 rfl (by omega))
    simp only [musterlow_CopyClients.l0]
    rw [if_pos (by omega), if_pos (by omega), rd44_nat]
    rfl
theorem copyc_ev (l : List S44) (h : small44 l) : Ev (fun k => musterlow_CopyClients.f k l) l := copyc_outer l h _ 0 rfl (by omega)

-- Right
theorem refR_inner (l : List S44) (i : Nat) (c : S44) (hi : i < 9223372036854775807) (hk : c.f2.length < 4398046511104) {b : Bool}
    (h : Ev (fun k => musterref09_Right.l0 k l ((i + 1 : Nat) : Int)) b) (d : Nat) : ∀ (j : Nat) (last : Int), c.f2.length - j = d → j ≤ c.f2.length →
    Ev (fun k => musterref09_Right.l1 k l i last j c.f0 c.f1 c.f2) (rises last ((c.f2.map S46.f0).drop j) && b) := by
  induction d with
  | zero =>
    intro j last hd hj
    rw [List.drop_of_length_le (by rw [List.length_map]; omega), rises, Bool.true_and]
    refine Ev.step (fun k => ?_) h
    simp only [musterref09_Right.l1]
    rw [if_neg (by omega), wrap_succ i hi]
  | succ d ih =>
    intro j last hd hj
    rw [drop_getD (l := c.f2.map S46.f0) (j := j) (by rw [List.length_map]; omega), getD_ids46 _ j (by omega), rises]
    by_cases h1 : (c.f2.getD j z46).f0 ≤ last
    · rw [decide_eq_true h1]
      refine Ev.step (fun k => ?_) (Ev.now _)
      simp only [musterref09_Right.l1]
      rw [if_pos (by omega), if_pos (by omega), rd46_nat, if_pos h1]
      rfl
    · rw [decide_eq_false h1]
      by_cases h2 : 4611686018427387904 < (c.f2.getD j z46).f0
      · rw [decide_eq_true h2]
        refine Ev.step (fun k => ?_) (Ev.now _)
        simp only [musterref09_Right.l1]
        rw [if_pos (by omega), if_pos (by omega), rd46_nat, if_neg h1, if_pos h2]
        rfl
      · rw [decide_eq_false h2]
        refine Ev.step (fun k => ?_) (ih (j + 1) _ (by omega) (by omega))
        simp only [musterref09_Right.l1]
        rw [if_pos (by omega), if_pos (by omega), rd46_nat, if_neg h1, if_neg h2, wrap_succ j (by omega)]
theorem refR_no (l : List S44) (i : Int) (a b : Int) (q : List S46) : Ev (fun k => musterref09_Right.j1 k l i true a b q) false := by
  refine Ev.step (f := fun _ => some false) (fun k => ?_) (Ev.now _)
  simp only [musterref09_Right.j1]
  rw [if_pos trivial]
theorem refR_outer (l : List S44) (hs : small44 l) (d : Nat) : ∀ (i : Nat) (prev : Int), l.length - i = d → i ≤ l.length → (i = 0 ∧ prev = 0 ∨ 0 < i ∧ prev = (l.getD (i - 1) z44).f0 ∧ 0 < prev) →
    Ev (fun k => musterref09_Right.l0 k l i) (rises prev ((l.map S44.f0).drop i) && !(l.drop i).any wrongB) := by
  have hlen := hs.1
  induction d with
  | zero =>
    intro i prev hd hi _
    rw [List.drop_of_length_le (by rw [List.length_map]; omega), List.drop_of_length_le (by omega)]
    refine Ev.step (f := fun _ => some true) (fun k => ?_) (Ev.now _)
    simp only [musterref09_Right.l0]
    rw [if_neg (by omega)]
  | succ d ih =>
    intro i prev hd hi hp
    obtain ⟨c, hc⟩ : ∃ c, l.getD i z44 = c := ⟨_, rfl⟩
    have hcm : c ∈ l := by rw [← hc, getD44_at l i (by omega)]; exact List.getElem_mem _
    have hk := (hs.2 c hcm).1
    rw [drop_getD (l := l.map S44.f0) (j := i) (by rw [List.length_map]; omega), getD_ids _ i (by omega), List.drop_eq_getElem_cons (l := l) (i := i) (by omega), ← getD44_at l i (by omega), hc, rises, List.any_cons]
    have hp0 : 0 ≤ prev := by rcases hp with ⟨_, rfl⟩ | ⟨_, _, h⟩ <;> omega
    have no : ∀ x : Bool, x = false → Ev (fun k => musterref09_Right.j1 k l (i : Int) true c.f0 c.f1 c.f2) x := fun x hx => by rw [hx]; exact refR_no _ _ _ _ _
    by_cases h1 : c.f0 < 1
    · refine Ev.step (fun k => ?_) (no _ (by rw [decide_eq_true (show c.f0 ≤ prev by omega)]; rfl))
      simp only [musterref09_Right.l0]
      rw [if_pos (by omega), if_pos (by omega), rd44_nat, hc, if_pos h1]
    by_cases h2 : 4611686018427387904 < c.f0
    · refine Ev.step (fun k => ?_) (no _ (by rw [decide_eq_true h2]; simp))
      simp only [musterref09_Right.l0]
      rw [if_pos (by omega), if_pos (by omega), rd44_nat, hc, if_neg h1, if_pos h2]
    -- what is behind the look at the one ahead
    have tail : ∀ y : Bool, y = (!decide (c.f0 ≤ prev) && !decide (4611686018427387904 < c.f0) && rises c.f0 ((l.map S44.f0).drop (i + 1)) && !(wrongB c || (l.drop (i + 1)).any wrongB)) → ¬ c.f0 ≤ prev →
        Ev (fun k => if c.f1 < 0 then musterref09_Right.j1 k l (i : Int) true c.f0 c.f1 c.f2 else if c.f1 > 4611686018427387904 then musterref09_Right.j1 k l (i : Int) true c.f0 c.f1 c.f2 else musterref09_Right.j1 k l (i : Int) (decide ((c.f2.length : Int) > 8)) c.f0 c.f1 c.f2) y := by
      intro y hy h3
      rw [decide_eq_false h3, decide_eq_false h2] at hy
      by_cases h4 : c.f1 < 0
      · refine Ev.congr (fun k => if_pos h4) (no _ ?_)
        rw [hy]; unfold wrongB; rw [decide_eq_true h4]; simp
      by_cases h5 : 4611686018427387904 < c.f1
      · refine Ev.congr (fun k => by rw [if_neg h4, if_pos h5]) (no _ ?_)
        rw [hy]; unfold wrongB; rw [decide_eq_true h5]; simp
      by_cases h6 : 8 < c.f2.length
      · refine Ev.congr (fun k => by rw [if_neg h4, if_neg h5, decide_eq_true (show (c.f2.length : Int) > 8 by omega)]) (no _ ?_)
        rw [hy]; unfold wrongB; rw [decide_eq_true h6]; simp
      · have hw : wrongB c = !rises c.f1 (c.f2.map S46.f0) := by unfold wrongB; rw [decide_eq_false h4, decide_eq_false h5, decide_eq_false h6]; rfl
        have h7 := refR_inner l i c (by omega) hk (ih (i + 1) c.f0 (by omega) (by omega) (.inr ⟨by omega, by rw [Nat.add_sub_cancel, hc], by omega⟩)) _ 0 c.f1 rfl (by omega)
        rw [List.drop_zero] at h7
        have e : y = (rises c.f1 (c.f2.map S46.f0) && (rises c.f0 ((l.map S44.f0).drop (i + 1)) && !(l.drop (i + 1)).any wrongB)) := by
          rw [hy, hw]
          cases rises c.f1 (c.f2.map S46.f0) <;> cases rises c.f0 ((l.map S44.f0).drop (i + 1)) <;> cases (l.drop (i + 1)).any wrongB <;> rfl
        rw [e]
        refine Ev.congr (fun k => by rw [if_neg h4, if_neg h5, decide_eq_false (show ¬ (c.f2.length : Int) > 8 by omega)]) (Ev.step (fun k => ?_) h7)
        simp only [musterref09_Right.j1]
        rw [if_neg (by simp)]
        rfl
    rcases hp with ⟨rfl, rfl⟩ | ⟨hi0, hpe, hpp⟩
    · refine Ev.step (fun k => ?_) (tail _ rfl (by omega))
      simp only [musterref09_Right.l0]
      rw [if_pos (by omega), if_pos (by omega), rd44_nat, hc, if_neg h1, if_neg h2, if_neg (by omega)]
    · have hw : wrap64 ((i : Int) - 1) = ((i - 1 : Nat) : Int) := by unfold wrap64; omega
      by_cases h3 : c.f0 ≤ prev
      · refine Ev.step (fun k => ?_) (no _ (by rw [decide_eq_true h3]; rfl))
        simp only [musterref09_Right.l0]
        rw [if_pos (by omega), if_pos (by omega), rd44_nat, hc, if_neg h1, if_neg h2, if_pos (by omega), hw, if_pos (by omega), if_pos (by omega), rd44_nat, ← hpe, if_pos h3]
      · refine Ev.step (fun k => ?_) (tail _ rfl h3)
        simp only [musterref09_Right.l0]
        rw [if_pos (by omega), if_pos (by omega), rd44_nat, hc, if_neg h1, if_neg h2, if_pos (by omega), hw, if_pos (by omega), if_pos (by omega), rd44_nat, ← hpe, if_neg h3]
theorem refR_ev (l : List S44) (hs : small44 l) : Ev (fun k => musterref09_Right.f k l) (rightB l) := by
  by_cases h : l.length ≤ 16
  · refine Ev.congr (fun k => ?_) (by
      have h2 := refR_outer l hs _ 0 0 rfl (by omega) (.inl ⟨rfl, rfl⟩)
      rw [List.drop_zero, List.drop_zero] at h2
      have e : rightB l = (rises 0 (l.map S44.f0) && !l.any wrongB) := by unfold rightB; rw [decide_eq_true h, Bool.true_and]
      rw [e]
      exact h2)
    unfold musterref09_Right.f
    rw [if_neg (by omega)]
    rfl
  · have e : rightB l = false := by unfold rightB; rw [decide_eq_false h]; rfl
    rw [e]
    refine Ev.congr (f := fun _ => some false) (fun k => ?_) (Ev.now _)
    unfold musterref09_Right.f
    rw [if_pos (by omega)]

-- find
theorem find_at (l : List S44) (a : Int) (hl : l.length < 9223372036854775807) (i : Nat) (hi : i < l.length) (he : (l.getD i z44).f0 = a) (d : Nat) : ∀ j : Nat, i - j = d → j ≤ i → (∀ q, j ≤ q → q < i → (l.getD q z44).f0 ≠ a) → Ev (fun k => musterref09_find.l0 k l a j) (i : Int) := by
  induction d with
  | zero =>
    intro j hd hj _
    obtain rfl : j = i := by omega
    refine Ev.step (f := fun _ => some (j : Int)) (fun k => ?_) (Ev.now _)
    simp only [musterref09_find.l0]
    rw [if_pos (by omega), if_pos (by omega), rd44_nat, if_pos he]
  | succ d ih =>
    intro j hd hj hno
    refine Ev.step (fun k => ?_) (ih (j + 1) (by omega) (by omega) (fun q h1 h2 => hno q (by omega) h2))
    simp only [musterref09_find.l0]
    rw [if_pos (by omega), if_pos (by omega), rd44_nat, if_neg (hno j (Nat.le_refl _) (by omega)), wrap_succ j (by omega)]
theorem find_none (l : List S44) (a : Int) (hl : l.length < 9223372036854775807) (hno : ∀ c ∈ l, c.f0 ≠ a) (d : Nat) : ∀ j : Nat, l.length - j = d → j ≤ l.length → Ev (fun k => musterref09_find.l0 k l a j) (-1) := by
  induction d with
  | zero =>
    intro j hd hj
    refine Ev.step (f := fun _ => some (-1)) (fun k => ?_) (Ev.now _)
    simp only [musterref09_find.l0]
    rw [if_neg (by omega)]
  | succ d ih =>
    intro j hd hj
    refine Ev.step (fun k => ?_) (ih (j + 1) (by omega) (by omega))
    simp only [musterref09_find.l0]
    rw [if_pos (by omega), if_pos (by omega), rd44_nat, if_neg (hno _ (by rw [getD44_at l j (by omega)]; exact List.getElem_mem _)), wrap_succ j (by omega)]

-- with
def others (a : Int) (l : List S44) : List S44 := l.filter fun y => decide (y.f0 ≠ a)
def wA (c : S44) : List S44 → List S44
  | [] => [c]
  | x :: t => if c.f0 ≤ x.f0 then c :: others c.f0 (x :: t) else x :: wA c t
theorem with_in (l : List S44) (hl : l.length ≤ 16) (c : S44) (d : Nat) : ∀ (i : Nat) (out : List S44), l.length - i = d → i ≤ l.length → out.length ≤ 20 + i →
    Ev (fun k => musterref09_with.l0 k l out true i c.f0 c.f1 c.f2) (out ++ others c.f0 (l.drop i)) := by
  induction d with
  | zero =>
    intro i out hd hi ho
    rw [List.drop_of_length_le (by omega)]
    refine Ev.step (f := fun _ => some out) (fun k => ?_) (by have := Ev.now out; simpa [others] using this)
    simp only [musterref09_with.l0]
    rw [if_neg (by omega), if_pos trivial]
  | succ d ih =>
    intro i out hd hi ho
    rw [List.drop_eq_getElem_cons (l := l) (i := i) (by omega), ← getD44_at l i (by omega)]
    obtain ⟨x, hx⟩ : ∃ x, l.getD i z44 = x := ⟨_, rfl⟩
    rw [hx]
    have hj : Ev (fun k => musterref09_with.j1 k l out true i false c.f0 c.f1 c.f2) (out ++ others c.f0 (x :: l.drop (i + 1))) := by
      by_cases he : x.f0 = c.f0
      · have e : others c.f0 (x :: l.drop (i + 1)) = others c.f0 (l.drop (i + 1)) := by unfold others; rw [List.filter_cons_of_neg (by simp [he])]
        rw [e]
        refine Ev.step (fun k => ?_) (ih (i + 1) out (by omega) (by omega) (by omega))
        simp only [musterref09_with.j1]
        rw [if_neg (by simp), if_pos (by omega), if_pos (by omega), rd44_nat, hx, if_pos he, wrap_succ i (by omega)]
      · have e : out ++ others c.f0 (x :: l.drop (i + 1)) = (out ++ [x]) ++ others c.f0 (l.drop (i + 1)) := by unfold others; rw [List.filter_cons_of_pos (by simp [he])]; simp
        rw [e]
        refine Ev.step (fun k => ?_) (ih (i + 1) (out ++ [x]) (by omega) (by omega) (by rw [List.length_append]; simp; omega))
        simp only [musterref09_with.j1]
        rw [if_neg (by simp), if_pos (by omega), if_pos (by omega), rd44_nat, hx, if_neg he, if_pos (by omega), wrap_succ i (by omega)]
    refine Ev.step (fun k => ?_) hj
    simp only [musterref09_with.l0]
    rw [if_pos (by omega), if_pos (by omega), Bool.not_true, ite_self]
theorem with_out (l : List S44) (hl : l.length ≤ 16) (c : S44) (d : Nat) : ∀ (i : Nat) (out : List S44), l.length - i = d → i ≤ l.length → out.length ≤ i →
    Ev (fun k => musterref09_with.l0 k l out false i c.f0 c.f1 c.f2) (out ++ wA c (l.drop i)) := by
  induction d with
  | zero =>
    intro i out hd hi ho
    rw [List.drop_of_length_le (by omega), wA]
    refine Ev.step (f := fun _ => some (out ++ [c])) (fun k => ?_) (Ev.now _)
    simp only [musterref09_with.l0]
    rw [if_neg (by omega), if_neg (by simp), if_pos (by omega)]
  | succ d ih =>
    intro i out hd hi ho
    rw [List.drop_eq_getElem_cons (l := l) (i := i) (by omega), ← getD44_at l i (by omega)]
    obtain ⟨x, hx⟩ : ∃ x, l.getD i z44 = x := ⟨_, rfl⟩
    rw [hx, wA]
    by_cases hge : c.f0 ≤ x.f0
    · rw [if_pos hge]
      have hj : Ev (fun k => musterref09_with.j1 k l out false i true c.f0 c.f1 c.f2) (out ++ c :: others c.f0 (x :: l.drop (i + 1))) := by
        by_cases he : x.f0 = c.f0
        · have e : out ++ c :: others c.f0 (x :: l.drop (i + 1)) = (out ++ [c]) ++ others c.f0 (l.drop (i + 1)) := by unfold others; rw [List.filter_cons_of_neg (by simp [he])]; simp
          rw [e]
          refine Ev.step (fun k => ?_) (with_in l hl c _ (i + 1) (out ++ [c]) rfl (by omega) (by rw [List.length_append]; simp; omega))
          simp only [musterref09_with.j1]
          rw [if_pos trivial, if_pos (by omega), Option.bind_some, if_pos (by omega), if_pos (by omega), rd44_nat, hx, if_pos he, wrap_succ i (by omega)]
        · have e : out ++ c :: others c.f0 (x :: l.drop (i + 1)) = (out ++ [c] ++ [x]) ++ others c.f0 (l.drop (i + 1)) := by unfold others; rw [List.filter_cons_of_pos (by simp [he])]; simp
          rw [e]
          refine Ev.step (fun k => ?_) (with_in l hl c _ (i + 1) (out ++ [c] ++ [x]) rfl (by omega) (by simp; omega))
          simp only [musterref09_with.j1]
          rw [if_pos trivial, if_pos (by omega), Option.bind_some, if_pos (by omega), if_pos (by omega), rd44_nat, hx, if_neg he, if_pos (by simp; omega), wrap_succ i (by omega)]
      refine Ev.step (fun k => ?_) hj
      simp only [musterref09_with.l0]
      rw [if_pos (by omega), if_pos (by omega), rd44_nat, hx, if_pos hge]
      rfl
    · rw [if_neg hge]
      have hj : Ev (fun k => musterref09_with.j1 k l out false i false c.f0 c.f1 c.f2) (out ++ x :: wA c (l.drop (i + 1))) := by
        have e : out ++ x :: wA c (l.drop (i + 1)) = (out ++ [x]) ++ wA c (l.drop (i + 1)) := by simp
        rw [e]
        refine Ev.step (fun k => ?_) (ih (i + 1) (out ++ [x]) (by omega) (by omega) (by rw [List.length_append]; simp; omega))
        simp only [musterref09_with.j1]
        rw [if_neg (by simp), if_pos (by omega), if_pos (by omega), rd44_nat, hx, if_neg (by omega), if_pos (by omega), wrap_succ i (by omega)]
      refine Ev.step (fun k => ?_) hj
      simp only [musterref09_with.l0]
      rw [if_pos (by omega), if_pos (by omega), rd44_nat, hx, if_neg hge]
theorem with_ev (l : List S44) (hl : l.length ≤ 16) (c : S44) : Ev (fun k => musterref09_with.f k l c.f0 c.f1 c.f2) (wA c l) := by
  have h := with_out l hl c _ 0 [] rfl (by omega) (by simp)
  rwa [List.nil_append, List.drop_zero] at h
theorem wA_eq (c : S44) : ∀ l : List S44, (l.map S44.f0).Pairwise (· < ·) → wA c l = (withCl l c.f0).set (under (l.map S44.f0) c.f0) c
  | [], _ => by simp [wA, withCl, under, hasN]
  | x :: t, h => by
    rw [List.map_cons, List.pairwise_cons] at h
    have ih := wA_eq c t h.2
    have hgt : ∀ y ∈ t, x.f0 < y.f0 := fun y hy => h.1 _ (List.mem_map.2 ⟨y, hy, rfl⟩)
    rw [wA]
    by_cases h1 : x.f0 < c.f0
    · rw [if_neg (by omega), ih]
      have hu : under (x.f0 :: t.map S44.f0) c.f0 = under (t.map S44.f0) c.f0 + 1 := by unfold under; rw [List.takeWhile_cons_of_pos (by simpa using h1)]; rfl
      have hN : hasN (x.f0 :: t.map S44.f0) c.f0 = hasN (t.map S44.f0) c.f0 := by unfold hasN; rw [hu]; simp
      unfold withCl
      rw [List.map_cons, hN, hu]
      by_cases hh : hasN (t.map S44.f0) c.f0 = true
      · rw [if_pos hh, if_pos hh]; rfl
      · rw [if_neg hh, if_neg hh]; simp
    · rw [if_pos (by omega)]
      have hu : under (x.f0 :: t.map S44.f0) c.f0 = 0 := by unfold under; rw [List.takeWhile_cons_of_neg (by simpa using h1)]; rfl
      have ho : others c.f0 t = t := by unfold others; rw [List.filter_eq_self]; intro y hy; have := hgt y hy; simp; omega
      unfold withCl
      rw [List.map_cons, hu]
      by_cases h2 : x.f0 = c.f0
      · have hN : hasN (x.f0 :: t.map S44.f0) c.f0 = true := by unfold hasN; rw [hu]; simp [h2]
        rw [if_pos hN]
        have e : others c.f0 (x :: t) = others c.f0 t := by unfold others; rw [List.filter_cons_of_neg (by simp [h2])]
        rw [e, ho]
        rfl
      · have hN : hasN (x.f0 :: t.map S44.f0) c.f0 = false := by unfold hasN; rw [hu]; simp [h2]
        rw [if_neg (by rw [hN]; simp)]
        have e : others c.f0 (x :: t) = x :: others c.f0 t := by unfold others; rw [List.filter_cons_of_pos (by simp [h2])]
        rw [e, ho]
        simp
end Go.Proofs.Ytafnjlgdjhegaaa.Pr
end
section
namespace Go.Proofs.Ytafnjlgdjhegaaa.Pr
open Go.RowKit Go.Proofs.YtafnjlgdjhegaaaW.PrintWords Go.Proofs.YtafnjlgdjhegaaaW.PrintLast Go.Proofs.YtafnjlgdjhegaaaG Go.Proofs.YtafnjlgdjhegaaaW.PrintMore
set_option linter.unusedVariables false
set_option linter.unusedSimpArgs false
theorem find_has {l : List S44} {cl : Int} (hl : l.length < 9223372036854775807) (hp : (l.map S44.f0).Pairwise (· < ·)) (h : hasN (l.map S44.f0) cl = true) : Ev (fun k => musterref09_find.f k l cl) ((under (l.map S44.f0) cl : Nat) : Int) := by
  have hd := h
  unfold hasN at hd
  simp only [Bool.and_eq_true, decide_eq_true_eq, List.length_map] at hd
  rw [getD_ids l _ hd.1] at hd
  obtain ⟨_, h2, _⟩ := under_sides hp cl
  exact find_at l cl hl _ hd.1 hd.2 _ 0 rfl (by omega) (fun q _ hq => by
    have := h2 q hq
    rw [getD_ids l q (by omega)] at this
    omega)
theorem not_has {l : List S44} {cl : Int} (hp : (l.map S44.f0).Pairwise (· < ·)) (h : hasN (l.map S44.f0) cl = false) : ∀ c ∈ l, c.f0 ≠ cl := fun c hc e => by
  have := (hasN_iff hp cl).2 (List.mem_map.2 ⟨c, hc, e⟩)
  rw [h] at this
  cases this
theorem find_hasnt {l : List S44} {cl : Int} (hl : l.length < 9223372036854775807) (hp : (l.map S44.f0).Pairwise (· < ·)) (h : hasN (l.map S44.f0) cl = false) : Ev (fun k => musterref09_find.f k l cl) (-1) :=
  find_none l cl hl (not_has hp h) _ 0 rfl (by omega)
def scan (rq fl : Int) : List S46 → Int → List Int → List S46 → Int × List Int × List S46
  | [], v, rep, out => (v, rep, out)
  | x :: t, v, rep, out => scan rq fl t (if x.f0 = rq then 2 else v) (if x.f0 = rq then x.f1 else rep) (if x.f0 > fl then out ++ [x] else out)
theorem scan_out (rq fl : Int) : ∀ (K : List S46) (v : Int) (rep : List Int) (out : List S46), (scan rq fl K v rep out).2.2 = out ++ K.filter fun x => decide (fl < x.f0)
  | [], v, rep, out => by simp [scan]
  | x :: t, v, rep, out => by
    rw [scan, scan_out rq fl t]
    by_cases h : x.f0 > fl
    · rw [if_pos h, List.filter_cons_of_pos (by simpa using h)]; simp
    · rw [if_neg h, List.filter_cons_of_neg (by simpa using h)]
theorem scan_no (rq fl : Int) : ∀ (K : List S46) (v : Int) (rep : List Int) (out : List S46), (∀ x ∈ K, x.f0 ≠ rq) → (scan rq fl K v rep out).1 = v ∧ (scan rq fl K v rep out).2.1 = rep
  | [], v, rep, out, _ => by simp [scan]
  | x :: t, v, rep, out, h => by
    have h1 := h x (by simp)
    rw [scan, if_neg h1, if_neg h1]
    exact scan_no rq fl t _ _ _ (fun y hy => h y (by simp [hy]))
theorem scan_yes (rq fl : Int) : ∀ (K : List S46) (v : Int) (rep : List Int) (out : List S46) (x : S46), (K.map S46.f0).Pairwise (· < ·) → x ∈ K → x.f0 = rq → (scan rq fl K v rep out).1 = 2 ∧ (scan rq fl K v rep out).2.1 = x.f1
  | [], v, rep, out, x, _, h, _ => by cases h
  | y :: t, v, rep, out, x, hp, h, he => by
    rw [List.map_cons, List.pairwise_cons] at hp
    rw [scan]
    rcases List.mem_cons.1 h with rfl | h
    · rw [if_pos he, if_pos he]
      exact scan_no rq fl t _ _ _ (fun z hz => by have := hp.1 _ (List.mem_map.2 ⟨z, hz, rfl⟩); omega)
    · exact scan_yes rq fl t _ _ _ x hp.2 h he
theorem refL_loop (l : List S44) (rq : Int) (i : Nat) (c : S44) (hc : l.getD i z44 = c) (hi : i < l.length) (hk : c.f2.length ≤ 8) (id fl : Int) {r : List S44 × Int × List Int × Int} (d : Nat) : ∀ (j : Nat) (v : Int) (rep : List Int) (out : List S46),
    c.f2.length - j = d → j ≤ c.f2.length → out.length ≤ j →
    Ev (fun k => musterref09_Look.j3 k l rq i (scan rq fl (c.f2.drop j) v rep out).1 (scan rq fl (c.f2.drop j) v rep out).2.1 (c.f2.length : Int) false id fl (scan rq fl (c.f2.drop j) v rep out).2.2) r →
    Ev (fun k => musterref09_Look.l0 k l rq i v rep j id fl out) r := by
  induction d with
  | zero =>
    intro j v rep out hd hj ho h
    rw [List.drop_of_length_le (by omega), scan] at h
    obtain rfl : j = c.f2.length := by omega
    refine Ev.step (fun k => ?_) h
    simp only [musterref09_Look.l0]
    rw [if_pos (by omega), if_pos (by omega), if_pos (by omega), rd44_nat, hc, decide_eq_false (by omega)]
  | succ d ih =>
    intro j v rep out hd hj ho h
    rw [List.drop_eq_getElem_cons (l := c.f2) (i := j) (by omega), ← getD46_at c.f2 j (by omega)] at h
    obtain ⟨x, hx⟩ : ∃ x, c.f2.getD j z46 = x := ⟨_, rfl⟩
    rw [hx, scan] at h
    have ho2 : (if x.f0 > fl then out ++ [x] else out).length ≤ j + 1 := by
      by_cases e : x.f0 > fl
      · rw [if_pos e, List.length_append]
        show out.length + 1 ≤ j + 1
        omega
      · rw [if_neg e]
        omega
    have h2 := ih (j + 1) _ _ _ (by omega) (by omega) ho2 h
    refine Ev.step (fun k => ?_) (Ev.step (g := fun k => musterref09_Look.j3 k l rq i v rep j true id fl out) (fun k => ?_) h2)
    · simp only [musterref09_Look.l0]
      rw [if_pos (by omega), if_pos (by omega), if_pos (by omega), rd44_nat, hc, decide_eq_true (by omega)]
    · simp only [musterref09_Look.j3]
      rw [if_pos trivial, if_pos (by omega), if_pos (by omega), if_pos (by omega), rd44_nat, hc, if_pos (by omega), rd46_nat, hx, if_pos (show out.length < 4398046511104 by omega), Option.bind_some, wrap_succ j (by omega)]
      by_cases e1 : x.f0 > fl <;> by_cases e2 : x.f0 = rq
      · rw [if_pos e1, if_pos e2, if_pos e2, if_pos e2, if_pos e1]
      · rw [if_pos e1, if_neg e2, if_neg e2, if_neg e2, if_pos e1]
      · rw [if_neg e1, if_pos e2, if_pos e2, if_pos e2, if_neg e1]
      · rw [if_neg e1, if_neg e2, if_neg e2, if_neg e2, if_neg e1]
def endR (l : List S44) (c : S44) (rq v : Int) (rep : List Int) : List S44 × Int × List Int × Int :=
  if rq ≤ c.f1 then (wA c l, 3, [], 0) else if v = 1 ∧ 8 ≤ c.f2.length then (wA c l, 4, rep, 0) else (wA c l, v, rep, 0)
theorem refL_end (l : List S44) (hl : l.length ≤ 16) (c : S44) (rq i j v : Int) (rep : List Int) : Ev (fun k => musterref09_Look.j3 k l rq i v rep j false c.f0 c.f1 c.f2) (endR l c rq v rep) := by
  have hw := with_ev l hl c
  have hb : ∀ b : Bool, (b = true → v = 1 ∧ 8 ≤ c.f2.length) → (b = false → ¬ (v = 1 ∧ 8 ≤ c.f2.length)) → Ev (fun k => musterref09_Look.j4 k l rq v rep b c.f0 c.f1 c.f2) (endR l c rq v rep) := by
    intro b h1 h2
    unfold endR
    by_cases h3 : rq ≤ c.f1
    · rw [if_pos h3]
      refine Ev.step (fun k => ?_) (Ev.bind (f := fun _ t => some (t, 3, ([] : List Int), 0)) hw (Ev.now _))
      simp only [musterref09_Look.j4]
      cases b
      · rw [if_neg (by simp), if_pos h3]
      · rw [if_pos rfl, if_pos h3]
    · rw [if_neg h3]
      cases b with
      | true =>
        rw [if_pos (h1 rfl)]
        refine Ev.step (fun k => ?_) (Ev.bind (f := fun _ t => some (t, 4, rep, 0)) hw (Ev.now _))
        simp only [musterref09_Look.j4]
        rw [if_pos trivial, if_neg h3]
      | false =>
        rw [if_neg (h2 rfl)]
        refine Ev.step (fun k => ?_) (Ev.bind (f := fun _ t => some (t, v, rep, 0)) hw (Ev.now _))
        simp only [musterref09_Look.j4]
        rw [if_neg (by simp), if_neg h3]
  by_cases h1 : v = 1
  · refine Ev.step (fun k => ?_) (hb (decide ((c.f2.length : Int) ≥ 8)) (fun h => ⟨h1, by have := of_decide_eq_true h; omega⟩) (fun h h2 => by have := of_decide_eq_false h; omega))
    simp only [musterref09_Look.j3]
    rw [if_neg (by simp), if_pos h1]
  · refine Ev.step (fun k => ?_) (hb false (fun h => by cases h) (fun _ h2 => h1 h2.1))
    simp only [musterref09_Look.j3]
    rw [if_neg (by simp), if_neg h1]
theorem kept_pw {l : List S44} (h : rightB l = true) {c : S44} (hc : c ∈ l) : (c.f2.map S46.f0).Pairwise (· < ·) ∧ c.f2.length ≤ 8 := by
  have h3 := wrong_iff.1 ((right_len h).2.2 c hc)
  exact ⟨rises_pw h3.2.2.2, h3.2.2.1⟩
theorem end_tail {l : List S44} {cl rq ak : Int} (hp : (l.map S44.f0).Pairwise (· < ·)) (c : S44) (h0 : (withCl l cl).getD (under (l.map S44.f0) cl) z44 = c) (hcl : c.f0 = cl) (hk : (c.f2.map S46.f0).Pairwise (· < ·)) :
    endR l (client' c ak) rq (scan rq (mx c.f1 ak) c.f2 1 [] []).1 (scan rq (mx c.f1 ak) c.f2 1 [] []).2.1 = lookTail (withCl l cl) (under (l.map S44.f0) cl) rq ak := by
  have hw := wA_eq (client' c ak) l hp
  have hf : (client' c ak).f0 = cl := hcl
  rw [hf] at hw
  unfold endR lookTail
  rw [h0, hw]
  simp only []
  by_cases h1 : rq ≤ (client' c ak).f1
  · rw [if_pos h1, if_pos h1]
  · rw [if_neg h1, if_neg h1]
    have h1' : mx c.f1 ak < rq := by have : ¬ rq ≤ mx c.f1 ak := h1; omega
    have hfp : ((client' c ak).f2.map S46.f0).Pairwise (· < ·) := by
      rw [List.pairwise_map] at hk ⊢
      exact hk.filter _
    by_cases hx : ∃ x ∈ c.f2, x.f0 = rq
    · obtain ⟨x, hxm, hxe⟩ := hx
      obtain ⟨s1, s2⟩ := scan_yes rq (mx c.f1 ak) c.f2 1 [] [] x hk hxm hxe
      have hm : x ∈ (client' c ak).f2 := List.mem_filter.2 ⟨hxm, by simp; omega⟩
      have hN := (hasN_iff hfp rq).2 (List.mem_map.2 ⟨x, hm, hxe⟩)
      rw [s1, s2, if_neg (by omega), if_pos hN]
      have hd := hN
      unfold hasN at hd
      simp only [Bool.and_eq_true, decide_eq_true_eq, List.length_map] at hd
      rw [getD_ids46 _ _ hd.1] at hd
      have e := one46 hfp (c := (client' c ak).f2.getD (under ((client' c ak).f2.map S46.f0) rq) z46) (d := x) (by rw [getD46_at _ _ hd.1]; exact List.getElem_mem _) hm (by rw [hd.2, hxe])
      rw [e]
    · have hno : ∀ x ∈ c.f2, x.f0 ≠ rq := fun x hxm he => hx ⟨x, hxm, he⟩
      obtain ⟨s1, s2⟩ := scan_no rq (mx c.f1 ak) c.f2 1 [] [] hno
      have hN : ¬ hasN ((client' c ak).f2.map S46.f0) rq = true := fun h => by
        obtain ⟨x, hm, he⟩ := List.mem_map.1 ((hasN_iff hfp rq).1 h)
        exact hno x (List.mem_filter.1 hm).1 he
      rw [s1, s2, if_neg hN]
      by_cases h8 : 8 ≤ (client' c ak).f2.length
      · rw [if_pos ⟨rfl, h8⟩, if_pos h8]
      · rw [if_neg (fun h => h8 h.2), if_neg h8]
theorem refL_good {l : List S44} {cl rq ak : Int} (hR : RightP l) (ha : lookArgs cl rq ak) : Ev (fun k => musterref09_Look.j0 k l cl rq ak false) (lookGood l cl rq ak) := by
  obtain ⟨hl, hri, hwr⟩ := right_len hR.1
  have hp := rises_pw hri
  have hpl := with_place hp cl
  have start : ∀ (c : S44) (i : Int), c.f0 = cl → Ev (fun k => musterref09_Look.l0 k l rq i 1 [] 0 cl (mx c.f1 ak) []) (lookGood l cl rq ak) → Ev (fun k => musterref09_Look.j1 k l rq ak i cl c.f1) (lookGood l cl rq ak) := by
    intro c i hc h
    refine Ev.step (fun k => ?_) h
    simp only [musterref09_Look.j1]
  cases hN : hasN (l.map S44.f0) cl with
  | true =>
    have hd := hN
    unfold hasN at hd
    simp only [Bool.and_eq_true, decide_eq_true_eq, List.length_map] at hd
    rw [getD_ids l _ hd.1] at hd
    obtain ⟨c, hc⟩ : ∃ c, l.getD (under (l.map S44.f0) cl) z44 = c := ⟨_, rfl⟩
    rw [hc] at hd
    have hcm : c ∈ l := by rw [← hc, getD44_at l _ hd.1]; exact List.getElem_mem _
    have hkp := kept_pw hR.1 hcm
    have e0 : (withCl l cl).getD (under (l.map S44.f0) cl) z44 = c := hpl.2.2.2.2.1 c hcm hd.2
    have eg : lookGood l cl rq ak = lookTail (withCl l cl) (under (l.map S44.f0) cl) rq ak := by unfold lookGood; rw [if_neg (by rw [hN]; simp)]
    have h1 := refL_end l hl (client' c ak) rq ((under (l.map S44.f0) cl : Nat) : Int) (c.f2.length : Int) (scan rq (mx c.f1 ak) c.f2 1 [] []).1 (scan rq (mx c.f1 ak) c.f2 1 [] []).2.1
    rw [end_tail hp c e0 hd.2 hkp.1, ← eg] at h1
    have e2 : (client' c ak).f2 = (scan rq (mx c.f1 ak) c.f2 1 [] []).2.2 := by rw [scan_out, List.nil_append]; rfl
    rw [e2] at h1
    have h2 := refL_loop l rq _ c hc hd.1 hkp.2 cl (mx c.f1 ak) (r := lookGood l cl rq ak) _ 0 1 [] [] rfl (by omega) (by simp) (by rw [List.drop_zero]; rw [← hd.2]; rw [hd.2]; have h1' := h1; rw [show (client' c ak).f0 = cl from hd.2] at h1'; exact h1')
    refine Ev.step (fun k => ?_) (Ev.bind (f := fun k (t215 : Int) => if t215 ≥ 0 then (if 0 ≤ t215 then (if t215 < (l.length : Int) then (musterref09_Look.j1 k l rq ak t215 cl ((rd_T44 l t215).f1)) else none) else none) else (if (l.length : Int) ≥ 16 then some (([] : List S44), 0, ([] : List Int), 5) else (musterref09_Look.j1 k l rq ak t215 cl 0))) (find_has (by omega) hp hN)
      (Ev.congr (fun k => ?_) (start c ((under (l.map S44.f0) cl : Nat) : Int) hd.2 h2)))
    · simp only [musterref09_Look.j0]
      rw [if_neg (by simp)]
    · rw [if_pos (by omega), if_pos (by omega), if_pos (by omega), rd44_nat, hc]
  | false =>
    have hno := not_has hp hN
    by_cases h16 : 16 ≤ l.length
    · have eg : lookGood l cl rq ak = ([], 0, [], 5) := by unfold lookGood; rw [if_pos ⟨hN, h16⟩]
      rw [eg]
      refine Ev.step (fun k => ?_) (Ev.bind (f := fun k (t215 : Int) => if t215 ≥ 0 then (if 0 ≤ t215 then (if t215 < (l.length : Int) then (musterref09_Look.j1 k l rq ak t215 cl ((rd_T44 l t215).f1)) else none) else none) else (if (l.length : Int) ≥ 16 then some (([] : List S44), 0, ([] : List Int), 5) else (musterref09_Look.j1 k l rq ak t215 cl 0))) (find_hasnt (by omega) hp hN)
        (Ev.congr (f := fun _ => some (([] : List S44), (0 : Int), ([] : List Int), (5 : Int))) (fun k => ?_) (Ev.now _)))
      · simp only [musterref09_Look.j0]
        rw [if_neg (by simp)]
      · rw [if_neg (by omega), if_pos (by omega)]
    · have eg : lookGood l cl rq ak = lookTail (withCl l cl) (under (l.map S44.f0) cl) rq ak := by unfold lookGood; rw [if_neg (fun h => h16 h.2)]
      have e0 : (withCl l cl).getD (under (l.map S44.f0) cl) z44 = ⟨cl, 0, []⟩ := hpl.2.2.2.2.2.1 hno
      have h1 := refL_end l hl (client' ⟨cl, 0, []⟩ ak) rq (-1) 0 (scan rq (mx 0 ak) [] 1 [] []).1 (scan rq (mx 0 ak) [] 1 [] []).2.1
      rw [end_tail hp ⟨cl, 0, []⟩ e0 rfl (by simp), ← eg] at h1
      have h2 : Ev (fun k => musterref09_Look.l0 k l rq (-1) 1 [] 0 cl (mx (0 : Int) ak) []) (lookGood l cl rq ak) := by
        refine Ev.step (fun k => ?_) h1
        simp only [musterref09_Look.l0]
        rw [if_neg (by omega)]
        rfl
      refine Ev.step (fun k => ?_) (Ev.bind (f := fun k (t215 : Int) => if t215 ≥ 0 then (if 0 ≤ t215 then (if t215 < (l.length : Int) then (musterref09_Look.j1 k l rq ak t215 cl ((rd_T44 l t215).f1)) else none) else none) else (if (l.length : Int) ≥ 16 then some (([] : List S44), 0, ([] : List Int), 5) else (musterref09_Look.j1 k l rq ak t215 cl 0))) (find_hasnt (by omega) hp hN)
        (Ev.congr (fun k => ?_) (start ⟨cl, 0, []⟩ (-1) rfl h2)))
      · simp only [musterref09_Look.j0]
        rw [if_neg (by simp)]
      · rw [if_neg (by omega), if_neg (by omega)]
theorem refL_ev {l : List S44} (hs : small44 l) (cl rq ak : Int) : Ev (fun k => musterref09_Look.f k l cl rq ak) (if (rightB l && lookArgsB cl rq ak) = true then lookGood l cl rq ak else ([], 0, [], 2)) := by
  have hno : Ev (fun k => musterref09_Look.j0 k l cl rq ak true) (([] : List S44), (0 : Int), ([] : List Int), (2 : Int)) := by
    refine Ev.step (f := fun _ => some (([] : List S44), (0 : Int), ([] : List Int), (2 : Int))) (fun k => ?_) (Ev.now _)
    simp only [musterref09_Look.j0]
    rw [if_pos trivial]
  have hR := refR_ev l hs
  cases hr : rightB l with
  | false =>
    rw [hr] at hR
    rw [if_neg (by simp)]
    exact Ev.bind (f := fun k (t : Bool) => if t = true then _ else musterref09_Look.j0 k l cl rq ak true) hR (Ev.congr (fun k => if_neg (by simp)) hno)
  | true =>
    rw [hr] at hR
    rw [Bool.true_and]
    have hin : Ev (fun k => if cl < 1 then musterref09_Look.j0 k l cl rq ak true else if cl > 4611686018427387904 then musterref09_Look.j0 k l cl rq ak true else if rq < 1 then musterref09_Look.j0 k l cl rq ak true else if rq > 4611686018427387904 then musterref09_Look.j0 k l cl rq ak true else if ak < 0 then musterref09_Look.j0 k l cl rq ak true else musterref09_Look.j0 k l cl rq ak (decide (ak ≥ rq)))
        (if lookArgsB cl rq ak = true then lookGood l cl rq ak else ([], 0, [], 2)) := by
      cases hb : lookArgsB cl rq ak with
      | true =>
        have ha := (lookArgs_iff _ _ _).1 hb
        obtain ⟨a1, a2, a3, a4, a5, a6⟩ := ha
        rw [if_pos rfl]
        refine Ev.congr (fun k => ?_) (refL_good ⟨hr, hs⟩ ⟨a1, a2, a3, a4, a5, a6⟩)
        rw [if_neg (by omega), if_neg (by omega), if_neg (by omega), if_neg (by omega), if_neg (by omega), decide_eq_false (by omega)]
      | false =>
        have ha : ¬ lookArgs cl rq ak := fun h => by have := (lookArgs_iff _ _ _).2 h; rw [hb] at this; cases this
        rw [if_neg (by simp)]
        refine Ev.congr (fun k => ?_) hno
        by_cases b1 : cl < 1
        · rw [if_pos b1]
        by_cases b2 : cl > 4611686018427387904
        · rw [if_neg b1, if_pos b2]
        by_cases b3 : rq < 1
        · rw [if_neg b1, if_neg b2, if_pos b3]
        by_cases b4 : rq > 4611686018427387904
        · rw [if_neg b1, if_neg b2, if_neg b3, if_pos b4]
        by_cases b5 : ak < 0
        · rw [if_neg b1, if_neg b2, if_neg b3, if_neg b4, if_pos b5]
        · rw [if_neg b1, if_neg b2, if_neg b3, if_neg b4, if_neg b5, decide_eq_true (by apply Classical.byContradiction; intro h; exact ha ⟨by omega, by omega, by omega, by omega, by omega, by omega⟩)]
    exact Ev.bind (f := fun k (t : Bool) => if t = true then _ else musterref09_Look.j0 k l cl rq ak true) hR (Ev.congr (fun k => if_pos rfl) hin)
end Go.Proofs.Ytafnjlgdjhegaaa.Pr
end
section
namespace Go.Proofs.Ytafnjlgdjhegaaa.Pr
open Go.RowKit Go.Proofs.YtafnjlgdjhegaaaW.PrintWords Go.Proofs.YtafnjlgdjhegaaaW.PrintLast Go.Proofs.YtafnjlgdjhegaaaG Go.Proofs.YtafnjlgdjhegaaaW.PrintMore
set_option linter.unusedVariables false
set_option linter.unusedSimpArgs false
theorem find_any (l : List S44) (a : Int) (hl : l.length < 9223372036854775807) (d : Nat) : ∀ j : Nat, l.length - j = d → j ≤ l.length → ∃ r, Ev (fun k => musterref09_find.l0 k l a j) r := by
  induction d with
  | zero =>
    intro j hd hj
    refine ⟨-1, Ev.step (f := fun _ => some (-1)) (fun k => ?_) (Ev.now _)⟩
    simp only [musterref09_find.l0]
    rw [if_neg (by omega)]
  | succ d ih =>
    intro j hd hj
    by_cases he : (l.getD j z44).f0 = a
    · refine ⟨j, Ev.step (f := fun _ => some (j : Int)) (fun k => ?_) (Ev.now _)⟩
      simp only [musterref09_find.l0]
      rw [if_pos (by omega), if_pos (by omega), rd44_nat, if_pos he]
    · obtain ⟨r, hr⟩ := ih (j + 1) (by omega) (by omega)
      refine ⟨r, Ev.step (fun k => ?_) hr⟩
      simp only [musterref09_find.l0]
      rw [if_pos (by omega), if_pos (by omega), rd44_nat, if_neg he, wrap_succ j (by omega)]
def scanD (rq : Int) (new : S46) : List S46 → Bool → List S46 → Option (List S46)
  | [], b, out => some (if b = true then out else out ++ [new])
  | x :: t, b, out => if x.f0 = rq then none else if x.f0 > rq then (if b = true then scanD rq new t b (out ++ [x]) else scanD rq new t true (out ++ [new] ++ [x])) else scanD rq new t b (out ++ [x])
theorem scanD_in (rq : Int) (new : S46) : ∀ (K out : List S46), (∀ x ∈ K, x.f0 ≠ rq) → scanD rq new K true out = some (out ++ K)
  | [], out, _ => by simp [scanD]
  | x :: t, out, h => by
    rw [scanD, if_neg (h x (by simp)), if_pos rfl, ite_self, scanD_in rq new t _ (fun y hy => h y (by simp [hy]))]
    simp
theorem scanD_out (rq : Int) (new : S46) : ∀ (K out : List S46), (∀ x ∈ K, x.f0 ≠ rq) → scanD rq new K false out = some (out ++ (K.take (under (K.map S46.f0) rq) ++ [new] ++ K.drop (under (K.map S46.f0) rq)))
  | [], out, _ => by simp [scanD]
  | x :: t, out, h => by
    have h0 := h x (by simp)
    have ht : ∀ y ∈ t, y.f0 ≠ rq := fun y hy => h y (by simp [hy])
    rw [scanD, if_neg h0, List.map_cons]
    by_cases h1 : x.f0 > rq
    · have hu : under (x.f0 :: t.map S46.f0) rq = 0 := by unfold under; rw [List.takeWhile_cons_of_neg (by simp; omega)]; rfl
      rw [if_pos h1, if_neg (by simp), scanD_in rq new t _ ht, hu]
      simp
    · have hu : under (x.f0 :: t.map S46.f0) rq = under (t.map S46.f0) rq + 1 := by unfold under; rw [List.takeWhile_cons_of_pos (by simp; omega)]; rfl
      rw [if_neg h1, scanD_out rq new t _ ht, hu]
      simp
theorem scanD_none (rq : Int) (new : S46) : ∀ (K : List S46) (b : Bool) (out : List S46), (∃ x ∈ K, x.f0 = rq) → scanD rq new K b out = none
  | [], b, out, h => by obtain ⟨x, hx, _⟩ := h; cases hx
  | x :: t, b, out, h => by
    rw [scanD]
    by_cases h0 : x.f0 = rq
    · rw [if_pos h0]
    · have ht : ∃ y ∈ t, y.f0 = rq := by
        obtain ⟨y, hy, he⟩ := h
        rcases List.mem_cons.1 hy with rfl | hy
        · exact absurd he h0
        · exact ⟨y, hy, he⟩
      rw [if_neg h0]
      by_cases h1 : x.f0 > rq
      · rw [if_pos h1]
        cases b
        · rw [if_neg (by simp)]; exact scanD_none rq new t _ _ ht
        · rw [if_pos rfl]; exact scanD_none rq new t _ _ ht
      · rw [if_neg h1]; exact scanD_none rq new t _ _ ht
def finD (l : List S44) (cl fl : Int) (rep : List Int) : Option (List S46) → List S44 × Int
  | none => ([], 2)
  | some K => if 65536 < rep.length then ([], 3) else if 8 < K.length then ([], 5) else (wA ⟨cl, fl, K⟩ l, 0)
theorem refD_j2 (l : List S44) (hl : l.length ≤ 16) (cl fl : Int) (rep : List Int) (K : List S46) : Ev (fun k => musterref09_Done.j2 k l rep cl fl K) (finD l cl fl rep (some K)) := by
  simp only [finD]
  by_cases h1 : 65536 < rep.length
  · rw [if_pos h1]
    refine Ev.step (f := fun _ => some (([] : List S44), (3 : Int))) (fun k => ?_) (Ev.now _)
    simp only [musterref09_Done.j2]
    rw [if_pos (by omega)]
  · rw [if_neg h1]
    by_cases h2 : 8 < K.length
    · rw [if_pos h2]
      refine Ev.step (f := fun _ => some (([] : List S44), (5 : Int))) (fun k => ?_) (Ev.now _)
      simp only [musterref09_Done.j2]
      rw [if_neg (by omega), if_pos (by omega)]
    · rw [if_neg h2]
      refine Ev.step (fun k => ?_) (Ev.bind (f := fun _ t => some (t, (0 : Int))) (with_ev l hl ⟨cl, fl, K⟩) (Ev.now _))
      simp only [musterref09_Done.j2]
      rw [if_neg (by omega), if_neg (by omega)]
theorem refD_loop (l : List S44) (hl : l.length ≤ 16) (rq : Int) (rep : List Int) (hrep : rep.length < 140737488355328) (i : Nat) (c : S44) (hc : l.getD i z44 = c) (hi : i < l.length) (hk : c.f2.length ≤ 8) (cl fl : Int) (d : Nat) : ∀ (j : Nat) (b : Bool) (out : List S46),
    c.f2.length - j = d → j ≤ c.f2.length → out.length ≤ j + (if b = true then 1 else 0) →
    Ev (fun k => musterref09_Done.l0 k l rq rep i b j cl fl out) (finD l cl fl rep (scanD rq ⟨rq, rep⟩ (c.f2.drop j) b out)) := by
  have hcb := copyBytes_eq hrep
  induction d with
  | zero =>
    intro j b out hd hj ho
    have ho3 : out.length ≤ j + 1 := by
      cases b <;> simp at ho <;> omega
    rw [List.drop_of_length_le (by omega), scanD]
    cases b with
    | true =>
      rw [if_pos rfl]
      refine Ev.step (fun k => ?_) (refD_j2 l hl cl fl rep out)
      simp only [musterref09_Done.l0]
      rw [if_pos (by omega), if_pos (by omega), rd44_nat, hc, if_neg (by omega), if_pos trivial]
    | false =>
      rw [if_neg (by simp)]
      refine Ev.step (fun k => ?_) (refD_j2 l hl cl fl rep (out ++ [⟨rq, rep⟩]))
      simp only [musterref09_Done.l0]
      rw [if_pos (by omega), if_pos (by omega), rd44_nat, hc, if_neg (by omega), if_neg (by simp), hcb, Option.bind_some, if_pos (by omega)]
  | succ d ih =>
    intro j b out hd hj ho
    have ho3 : out.length ≤ j + 1 := by
      cases b <;> simp at ho <;> omega
    rw [List.drop_eq_getElem_cons (l := c.f2) (i := j) (by omega), ← getD46_at c.f2 j (by omega)]
    obtain ⟨x, hx⟩ : ∃ x, c.f2.getD j z46 = x := ⟨_, rfl⟩
    rw [hx, scanD]
    by_cases h0 : x.f0 = rq
    · rw [if_pos h0]
      refine Ev.step (f := fun _ => some (([] : List S44), (2 : Int))) (fun k => ?_) (Ev.now _)
      simp only [musterref09_Done.l0]
      rw [if_pos (by omega), if_pos (by omega), rd44_nat, hc, if_pos (by omega), if_pos (by omega), rd46_nat, hx, if_pos h0]
    · rw [if_neg h0]
      by_cases h1 : x.f0 > rq
      · rw [if_pos h1]
        cases b with
        | true =>
          rw [if_pos rfl]
          refine Ev.step (fun k => ?_) (ih (j + 1) true (out ++ [x]) (by omega) (by omega) (by rw [List.length_append]; simp at ho ⊢; omega))
          simp only [musterref09_Done.l0]
          rw [if_pos (by omega), if_pos (by omega), rd44_nat, hc, if_pos (by omega), if_pos (by omega), rd46_nat, hx, if_neg h0, if_pos h1, if_pos trivial, if_pos (by omega), wrap_succ j (by omega)]
        | false =>
          rw [if_neg (by simp)]
          refine Ev.step (fun k => ?_) (ih (j + 1) true (out ++ [⟨rq, rep⟩] ++ [x]) (by omega) (by omega) (by rw [List.length_append, List.length_append, if_pos rfl]; simp at ho ⊢; omega))
          simp only [musterref09_Done.l0]
          rw [if_pos (by omega), if_pos (by omega), rd44_nat, hc, if_pos (by omega), if_pos (by omega), rd46_nat, hx, if_neg h0, if_pos h1, if_neg (by simp), hcb, Option.bind_some, if_pos (by omega), Option.bind_some, if_pos (by simp; omega), wrap_succ j (by omega)]
      · rw [if_neg h1]
        refine Ev.step (fun k => ?_) (ih (j + 1) b (out ++ [x]) (by omega) (by omega) (by rw [List.length_append]; simp at ho ⊢; omega))
        simp only [musterref09_Done.l0]
        rw [if_pos (by omega), if_pos (by omega), rd44_nat, hc, if_pos (by omega), if_pos (by omega), rd46_nat, hx, if_neg h0, if_neg h1, if_pos (by omega), wrap_succ j (by omega)]

theorem fin_good {l : List S44} {cl rq : Int} {rep : List Int} (hp : (l.map S44.f0).Pairwise (· < ·)) (hN : hasN (l.map S44.f0) cl = true) (c : S44) (hc : l.getD (under (l.map S44.f0) cl) z44 = c) (hcl : c.f0 = cl) (hk : (c.f2.map S46.f0).Pairwise (· < ·)) :
    finD l cl c.f1 rep (scanD rq ⟨rq, rep⟩ c.f2 false []) = doneGood l (under (l.map S44.f0) cl) rq rep := by
  unfold doneGood doneRow
  simp only [hc]
  by_cases hx : ∃ x ∈ c.f2, x.f0 = rq
  · rw [scanD_none rq _ c.f2 false [] hx]
    obtain ⟨x, hm, he⟩ := hx
    rw [if_pos ((hasN_iff hk rq).2 (List.mem_map.2 ⟨x, hm, he⟩))]
    rfl
  · have hno : ∀ x ∈ c.f2, x.f0 ≠ rq := fun x hm he => hx ⟨x, hm, he⟩
    have hNn : ¬ hasN (c.f2.map S46.f0) rq = true := fun h => by
      obtain ⟨x, hm, he⟩ := List.mem_map.1 ((hasN_iff hk rq).1 h)
      exact hno x hm he
    obtain ⟨K, hK⟩ : ∃ K, c.f2.take (under (c.f2.map S46.f0) rq) ++ [(⟨rq, rep⟩ : S46)] ++ c.f2.drop (under (c.f2.map S46.f0) rq) = K := ⟨_, rfl⟩
    have hlen : K.length = c.f2.length + 1 := by
      rw [← hK]
      have := (under_sides hk rq).1
      rw [List.length_map] at this
      simp
      omega
    rw [scanD_out rq _ c.f2 [] hno, List.nil_append, if_neg hNn, hK]
    simp only [finD]
    by_cases h1 : 65536 < rep.length
    · rw [if_pos h1, if_pos h1]
    · rw [if_neg h1, if_neg h1]
      by_cases h2 : 8 ≤ c.f2.length
      · rw [if_pos (by omega), if_pos h2]
      · rw [if_neg (by omega), if_neg h2, wA_eq _ l hp]
        have ew : withCl l cl = l := by unfold withCl; rw [if_pos hN]
        show (List.set (withCl l cl) (under (l.map S44.f0) cl) (⟨cl, c.f1, K⟩ : S44), (0 : Int)) = _
        rw [ew, hcl]
theorem refD_ev {l : List S44} (hs : small44 l) (cl rq : Int) (rep : List Int) (hrep : rep.length < 140737488355328) : Ev (fun k => musterref09_Done.f k l cl rq rep) (donePure l cl rq rep) := by
  have hlen : l.length < 9223372036854775807 := by have := hs.1; omega
  have hno : ∀ i : Int, Ev (fun k => musterref09_Done.j0 k l cl rq rep i true) (([] : List S44), (2 : Int)) := fun i => by
    refine Ev.step (f := fun _ => some (([] : List S44), (2 : Int))) (fun k => ?_) (Ev.now _)
    simp only [musterref09_Done.j0]
    rw [if_pos trivial]
  have hR := refR_ev l hs
  cases hr : rightB l with
  | false =>
    rw [hr] at hR
    obtain ⟨i, hi⟩ := find_any l cl hlen _ 0 rfl (by omega)
    have e : donePure l cl rq rep = ([], 2) := by unfold donePure doneArgs; rw [hr]; rfl
    rw [e]
    exact Ev.bind (f := fun k (t236 : Int) => (musterref09_Right.f k l).bind fun t237 => if t237 = true then _ else musterref09_Done.j0 k l cl rq rep t236 true) hi
      (Ev.bind (f := fun k (t237 : Bool) => if t237 = true then _ else musterref09_Done.j0 k l cl rq rep i true) hR (Ev.congr (fun k => if_neg (by simp)) (hno i)))
  | true =>
    rw [hr] at hR
    obtain ⟨hl, hri, hwr⟩ := right_len hr
    have hp := rises_pw hri
    cases hN : hasN (l.map S44.f0) cl with
    | false =>
      have e : donePure l cl rq rep = ([], 2) := by unfold donePure doneArgs; rw [hN, hr]; rfl
      rw [e]
      exact Ev.bind (f := fun k (t236 : Int) => (musterref09_Right.f k l).bind fun t237 => if t237 = true then (if t236 < 0 then musterref09_Done.j0 k l cl rq rep t236 true else _) else musterref09_Done.j0 k l cl rq rep t236 true) (find_hasnt hlen hp hN)
        (Ev.bind (f := fun k (t237 : Bool) => if t237 = true then (if (-1 : Int) < 0 then musterref09_Done.j0 k l cl rq rep (-1) true else _) else musterref09_Done.j0 k l cl rq rep (-1) true) hR (Ev.congr (fun k => by rw [if_pos rfl, if_pos (by omega)]) (hno (-1))))
    | true =>
      have hd := hN
      unfold hasN at hd
      simp only [Bool.and_eq_true, decide_eq_true_eq, List.length_map] at hd
      rw [getD_ids l _ hd.1] at hd
      obtain ⟨i, hi⟩ : ∃ i, under (l.map S44.f0) cl = i := ⟨_, rfl⟩
      have hf := find_has hlen hp hN
      have hfg : ∀ c : S44, l.getD i z44 = c → c.f0 = cl → (c.f2.map S46.f0).Pairwise (· < ·) → finD l cl c.f1 rep (scanD rq ⟨rq, rep⟩ c.f2 false []) = doneGood l i rq rep := fun c h1 h2 h3 => by rw [← hi] at h1 ⊢; exact fin_good hp hN c h1 h2 h3
      have hpd : donePure l cl rq rep = if (rq ≤ (l.getD i z44).f1) ∨ 4611686018427387904 < rq then ([], 2) else doneGood l i rq rep := by
        unfold donePure doneArgs
        rw [hr, hN, hi]
        by_cases h1 : rq ≤ (l.getD i z44).f1
        · rw [decide_eq_true h1, if_pos (show rq ≤ (l.getD i z44).f1 ∨ 4611686018427387904 < rq from .inl h1)]; rfl
        · by_cases h2 : 4611686018427387904 < rq
          · rw [decide_eq_true h2, if_pos (show rq ≤ (l.getD i z44).f1 ∨ 4611686018427387904 < rq from .inr h2), decide_eq_false h1]; rfl
          · rw [decide_eq_false h1, decide_eq_false h2, if_neg (show ¬ (rq ≤ (l.getD i z44).f1 ∨ 4611686018427387904 < rq) by omega)]; rfl
      rw [hi] at hd hf
      obtain ⟨c, hc⟩ : ∃ c, l.getD i z44 = c := ⟨_, rfl⟩
      rw [hc] at hd hpd
      have hcm : c ∈ l := by rw [← hc, getD44_at l _ hd.1]; exact List.getElem_mem _
      have hkp := kept_pw hr hcm
      have hfg2 := hfg c hc hd.2 hkp.1
      have hin : Ev (fun k => if ((i : Nat) : Int) < 0 then musterref09_Done.j0 k l cl rq rep i true else if 0 ≤ ((i : Nat) : Int) then (if ((i : Nat) : Int) < (l.length : Int) then (if rq ≤ ((rd_T44 l ((i : Nat) : Int)).f1) then musterref09_Done.j0 k l cl rq rep i true else musterref09_Done.j0 k l cl rq rep i (decide (rq > 4611686018427387904))) else none) else none) (donePure l cl rq rep) := by
        rw [hpd]
        by_cases h1 : rq ≤ c.f1
        · rw [if_pos (.inl h1)]
          exact Ev.congr (fun k => by rw [if_neg (by omega), if_pos (by omega), if_pos (by omega), rd44_nat, hc, if_pos h1]) (hno i)
        · by_cases h2 : 4611686018427387904 < rq
          · rw [if_pos (.inr h2)]
            exact Ev.congr (fun k => by rw [if_neg (by omega), if_pos (by omega), if_pos (by omega), rd44_nat, hc, if_neg h1, decide_eq_true (by omega)]) (hno i)
          · rw [if_neg (by omega), ← hfg2]
            have h3 := refD_loop l hl rq rep hrep i c hc hd.1 hkp.2 cl c.f1 _ 0 false [] rfl (by omega) (by simp)
            rw [List.drop_zero] at h3
            refine Ev.congr (fun k => by rw [if_neg (by omega), if_pos (by omega), if_pos (by omega), rd44_nat, hc, if_neg h1, decide_eq_false (by omega)]) (Ev.step (fun k => ?_) h3)
            simp only [musterref09_Done.j0]
            rw [if_neg (by simp), if_pos (by omega), if_pos (by omega), rd44_nat, hc]
            rfl
      exact Ev.bind (f := fun k (t236 : Int) => (musterref09_Right.f k l).bind fun t237 => if t237 = true then (if t236 < 0 then musterref09_Done.j0 k l cl rq rep t236 true else (if 0 ≤ t236 then (if t236 < (l.length : Int) then (if rq ≤ ((rd_T44 l t236).f1) then musterref09_Done.j0 k l cl rq rep t236 true else musterref09_Done.j0 k l cl rq rep t236 (decide (rq > 4611686018427387904))) else none) else none)) else musterref09_Done.j0 k l cl rq rep t236 true) hf
        (Ev.bind (f := fun k (t237 : Bool) => if t237 = true then (if ((i : Nat) : Int) < 0 then musterref09_Done.j0 k l cl rq rep i true else (if 0 ≤ ((i : Nat) : Int) then (if ((i : Nat) : Int) < (l.length : Int) then (if rq ≤ ((rd_T44 l ((i : Nat) : Int)).f1) then musterref09_Done.j0 k l cl rq rep i true else musterref09_Done.j0 k l cl rq rep i (decide (rq > 4611686018427387904))) else none) else none)) else musterref09_Done.j0 k l cl rq rep i true) hR (Ev.congr (fun k => if_pos rfl) hin))

-- SameClients
theorem same_inner (l : List S44) (i : Nat) (c : S44) (hc : l.getD i z44 = c) (hi : i < l.length) (hl : l.length < 3518437208883) (hk : c.f2.length < 4398046511104) (h : Ev (fun k => musterlow_SameClients.l0 k l l ((i + 1 : Nat) : Int)) true) (d : Nat) : ∀ j : Nat, c.f2.length - j = d → j ≤ c.f2.length →
    Ev (fun k => musterlow_SameClients.l1 k l l i j) true := by
  induction d with
  | zero =>
    intro j hd hj
    refine Ev.step (fun k => ?_) h
    simp only [musterlow_SameClients.l1]
    rw [if_pos (by omega), if_pos (by omega), rd44_nat, hc, if_neg (by omega), wrap_succ i (by omega)]
  | succ d ih =>
    intro j hd hj
    have hsb : musterlow_SameBytes.f (c.f2.getD j z46).f1 (c.f2.getD j z46).f1 = some true := by unfold musterlow_SameBytes.f; rw [beq_self_eq_true]
    refine Ev.step (fun k => ?_) (ih (j + 1) (by omega) (by omega))
    simp only [musterlow_SameClients.l1]
    rw [if_pos (by omega), if_pos (by omega), rd44_nat, hc, if_pos (by omega), if_pos (by omega), if_pos (by omega), if_pos (by omega), rd46_nat, if_pos trivial, hsb, Option.bind_some, if_pos rfl, wrap_succ j (by omega)]
theorem same_ev {l : List S44} (hs : small44 l) : Ev (fun k => musterlow_SameClients.f k l l) true := by
  have hl := hs.1
  have go : ∀ (d i : Nat), l.length - i = d → i ≤ l.length → Ev (fun k => musterlow_SameClients.l0 k l l i) true := by
    intro d
    induction d with
    | zero =>
      intro i hd hi
      refine Ev.step (f := fun _ => some true) (fun k => ?_) (Ev.now _)
      simp only [musterlow_SameClients.l0]
      rw [if_neg (by omega)]
    | succ d ih =>
      intro i hd hi
      obtain ⟨c, hc⟩ : ∃ c, l.getD i z44 = c := ⟨_, rfl⟩
      have hcm : c ∈ l := by rw [← hc, getD44_at l i (by omega)]; exact List.getElem_mem _
      refine Ev.step (fun k => ?_) (Ev.step (g := fun k => musterlow_SameClients.j1 k l l i false) (fun k => ?_) (same_inner l i c hc (by omega) hl (hs.2 c hcm).1 (ih (i + 1) (by omega) (by omega)) _ 0 rfl (by omega)))
      · simp only [musterlow_SameClients.l0]
        rw [if_pos (by omega), if_pos (by omega), if_pos (by omega), if_pos trivial, if_pos trivial, bne_self_eq_false]
      · simp only [musterlow_SameClients.j1]
        rw [if_neg (by simp)]
        rfl
  refine Ev.congr (fun k => ?_) (go _ 0 rfl (by omega))
  unfold musterlow_SameClients.f
  rw [if_pos rfl]
  rfl
end Go.Proofs.Ytafnjlgdjhegaaa.Pr
end
section
namespace Go.Proofs.Ytafnjlgdjhegaaa.Pr
open Go.RowKit Go.Proofs.YtafnjlgdjhegaaaW.PrintWords Go.Proofs.YtafnjlgdjhegaaaW.PrintLast Go.Proofs.YtafnjlgdjhegaaaW.PrintMore Go.Proofs.YtafnjlgdjhegaaaG
set_option linter.unusedVariables false
set_option linter.unusedSimpArgs false
set_option maxHeartbeats 2000000 in
theorem tells_walk (k : Nat) (A : Option Addr) (c : Nat) (l : List S44) (cl rq ak : Int) (B : Option Addr) (d : Nat) (rep : List Int) (w : World) (m n : List S44) (v ee f : Int) (x : List Int) (b : Bool)
    (hr0 : Kd.C k44 w A l.length l) (hc0 : l.length ≤ c) (hr4 : Kd.C (Kd.int .u8) w B rep.length rep) (hc4 : rep.length ≤ d) (hrep : rep.length + 3 < 140737488355328)
    (hcp : musterlow_CopyClients.f k l = some l) (hL : session_Look.f l cl rq ak = some (m, v, x, ee)) (hRL : musterref09_Look.f k l cl rq ak = some (m, v, x, ee))
    (hD : session_Done.f l cl rq rep = some (n, f)) (hRD : musterref09_Done.f k l cl rq rep = some (n, f)) (hb : rightB l = b) (hRR : musterref09_Right.f k l = some b)
    (hsm : musterlow_SameClients.f k m m = some true) (hsn : musterlow_SameClients.f k n n = some true) (hsl : musterlow_SameClients.f k l l = some true) :
    Calls Try.prog 3 #[.slice A l.length c, .int .i64 cl, .int .i64 rq, .int .i64 ak, .slice B rep.length d] w fun e w' => e = .returned (.bool true) ∧ Below w.heap.size w w' := by
  have HR := hd hr0
  have HP := hd hr4
  have HS := hd hrep
  have F1 := hd hcp
  have F2 := hd hL
  have F3 := hd hRL
  have F4 := hd hD
  have F5 := hd hRD
  have F6 := hd hb
  have F7 := hd hRR
  have F8 := hd hsm
  have F9 := hd hsn
  have F10 := hd hsl
  have FX : Hd (musterlow_SameBytes.f x x = some true) := hd (by unfold musterlow_SameBytes.f; rw [beq_self_eq_true])
  clear hr0 hr4 hrep hcp hL hRL hD hRD hb hRR hsm hsn hsl
  go_enter Try.func3, Try.ntmps3
  go_wp2_with fail
  refine (musterlow_CopyClients.calls k A c l l w HR.out hc0 F1.out).mono ?_
  rintro e w1 ⟨v1, rfl, r1, b1⟩
  obtain ⟨A1, c1, rfl, hc1, k1⟩ := Kd.R_reads r1
  have HB1 : Hd (Below w.heap.size w w1) := hd b1
  have K1 := hd k1
  have HC1 := hd hc1
  replace HR := hd (Kd.C_below HR.out b1)
  replace HP := hd (Kd.C_below HP.out b1)
  clear r1 b1 hc1 k1
  go_wp2_with fail
  refine (lent_any B d rep w1 HP.out hc4 HS.out).mono ?_
  rintro e w2 ⟨B2, d2, rfl, hd2, k2, b2⟩
  have HB2 : Hd (Below w.heap.size w w2) := hd (below_then HB1.out HB1.out.size b2)
  have K2 := hd k2
  have HC2 := hd hd2
  replace HR := hd (Kd.C_below HR.out b2)
  replace HP := hd (Kd.C_below HP.out b2)
  replace K1 := hd (Kd.C_below K1.out b2)
  clear b2 hd2 k2 HB1
  go_wp2_with fail
  refine (session_Look.calls A1 c1 l cl rq ak m v x ee w2 K1.out HC1.out F2.out).mono ?_
  rintro e w3 ⟨v3, v4, rfl, r3, r4, b3⟩
  obtain ⟨A3, c3, rfl, hc3, k3⟩ := Kd.R_reads r3
  obtain ⟨A4, c4, rfl, hc4', k4⟩ := Kd.R_reads r4
  have HB3 : Hd (Below w.heap.size w w3) := hd (below_then HB2.out HB2.out.size b3)
  have K3 := hd k3
  have HC3 := hd hc3
  have K4 := hd k4
  have HC4 := hd hc4'
  replace HR := hd (Kd.C_below HR.out b3)
  replace HP := hd (Kd.C_below HP.out b3)
  replace K1 := hd (Kd.C_below K1.out b3)
  replace K2 := hd (Kd.C_below K2.out b3)
  clear b3 r3 r4 hc3 hc4' k3 k4 HB2
  go_wp2_with fail
  refine (musterref09_Look.calls k (fun q => q < w3.heap.size) A c l cl rq ak m v x ee w3 (Kd.V_mk hc0 (Kd.C_F k44_heap HR.out)) F3.out).mono ?_
  rintro e w4 ⟨v5, v6, rfl, r5, r6, b4⟩
  obtain ⟨A5, c5, rfl, hc5, k5⟩ := Kd.N_reads r5
  obtain ⟨A6, c6, rfl, hc6, f6⟩ := r6
  have HB4 : Hd (Below w.heap.size w w4) := hd (below_then HB3.out HB3.out.size b4)
  have K5 := hd k5
  have HC5 := hd hc5
  have K6 := hd (Kd.F_now f6)
  have HC6 := hd hc6
  replace HR := hd (Kd.C_below HR.out b4)
  replace HP := hd (Kd.C_below HP.out b4)
  replace K1 := hd (Kd.C_below K1.out b4)
  replace K2 := hd (Kd.C_below K2.out b4)
  replace K3 := hd (Kd.C_below K3.out b4)
  replace K4 := hd (Kd.C_below K4.out b4)
  clear b4 r5 f6 hc5 hc6 k5 HB3
  have K2t : Hd (Kd.C (Kd.int .u8) w4 B2 rep.length rep) := hd (by
    have ht := Kd.C_take (m := rep.length) K2.out (by simp)
    rwa [List.take_append_of_le_length (Nat.le_refl _), List.take_length] at ht)
  have HD2 : Hd (rep.length ≤ d2) := hd (by have := HC2.out; simp at this; omega)
  go_wp2_with fail
  refine (session_Done.calls A1 c1 l cl rq B2 d2 rep n f w4 K1.out HC1.out K2t.out HD2.out F4.out).mono ?_
  rintro e w5 ⟨v7, rfl, r7, b5⟩
  obtain ⟨A7, c7, rfl, hc7, k7⟩ := Kd.R_reads r7
  have HB5 : Hd (Below w.heap.size w w5) := hd (below_then HB4.out HB4.out.size b5)
  have K7 := hd k7
  have HC7 := hd hc7
  replace HR := hd (Kd.C_below HR.out b5)
  replace HP := hd (Kd.C_below HP.out b5)
  replace K1 := hd (Kd.C_below K1.out b5)
  replace K2 := hd (Kd.C_below K2.out b5)
  replace K3 := hd (Kd.C_below K3.out b5)
  replace K4 := hd (Kd.C_below K4.out b5)
  replace K5 := hd (Kd.C_below K5.out b5)
  replace K6 := hd (Kd.C_below K6.out b5)
  clear b5 r7 hc7 k7 HB4 K2t
  go_wp2_with fail
  refine (musterref09_Done.calls k (fun q => q < w5.heap.size) A c l cl rq B d rep n f w5 (Kd.V_mk hc0 (Kd.C_F k44_heap HR.out)) HP.out hc4 F5.out).mono ?_
  rintro e w6 ⟨v8, rfl, r8, b6⟩
  obtain ⟨A8, c8, rfl, hc8, k8⟩ := Kd.N_reads r8
  have HB6 : Hd (Below w.heap.size w w6) := hd (below_then HB5.out HB5.out.size b6)
  have K8 := hd k8
  have HC8 := hd hc8
  replace HR := hd (Kd.C_below HR.out b6)
  replace HP := hd (Kd.C_below HP.out b6)
  replace K1 := hd (Kd.C_below K1.out b6)
  replace K2 := hd (Kd.C_below K2.out b6)
  replace K3 := hd (Kd.C_below K3.out b6)
  replace K4 := hd (Kd.C_below K4.out b6)
  replace K5 := hd (Kd.C_below K5.out b6)
  replace K6 := hd (Kd.C_below K6.out b6)
  replace K7 := hd (Kd.C_below K7.out b6)
  clear b6 r8 hc8 k8 HB5
  go_wp2_with fail
  refine (right_any A1 c1 l w6 K1.out).mono ?_
  rintro e w7 ⟨rfl, b7⟩
  rw [F6.out]
  have HB7 : Hd (Below w.heap.size w w7) := hd (below_then HB6.out HB6.out.size b7)
  replace HR := hd (Kd.C_below HR.out b7)
  replace HP := hd (Kd.C_below HP.out b7)
  replace K1 := hd (Kd.C_below K1.out b7)
  replace K2 := hd (Kd.C_below K2.out b7)
  replace K3 := hd (Kd.C_below K3.out b7)
  replace K4 := hd (Kd.C_below K4.out b7)
  replace K5 := hd (Kd.C_below K5.out b7)
  replace K6 := hd (Kd.C_below K6.out b7)
  replace K7 := hd (Kd.C_below K7.out b7)
  replace K8 := hd (Kd.C_below K8.out b7)
  clear b7 HB6
  go_wp2_with fail
  refine (musterref09_Right.calls k A c l b w7 HR.out hc0 F7.out).mono ?_
  rintro e w8 ⟨rfl, b8⟩
  have HB8 : Hd (Below w.heap.size w w8) := hd (below_then HB7.out HB7.out.size b8)
  replace HR := hd (Kd.C_below HR.out b8)
  replace HP := hd (Kd.C_below HP.out b8)
  replace K1 := hd (Kd.C_below K1.out b8)
  replace K2 := hd (Kd.C_below K2.out b8)
  replace K3 := hd (Kd.C_below K3.out b8)
  replace K4 := hd (Kd.C_below K4.out b8)
  replace K5 := hd (Kd.C_below K5.out b8)
  replace K6 := hd (Kd.C_below K6.out b8)
  replace K7 := hd (Kd.C_below K7.out b8)
  replace K8 := hd (Kd.C_below K8.out b8)
  clear b8 HB7
  go_wp2_with fail
  refine (musterlow_SameBytes.calls A4 c4 x A6 c6 x true w8 K4.out HC4.out K6.out HC6.out FX.out).mono ?_
  rintro e w9 ⟨rfl, hdr⟩
  obtain ⟨nd, rfl⟩ := hdr
  go_wp2_with fail
  refine (musterlow_SameClients.calls k A3 c3 m A5 c5 m true _ (Kd.C_drewN K3.out nd) HC3.out (Kd.C_drewN K5.out nd) HC5.out F8.out).mono ?_
  rintro e w10 ⟨rfl, b10⟩
  have HB10 : Hd (Below w.heap.size w w10) := hd (below_then (pw_below_drewN HB8.out nd) (pw_below_drewN HB8.out nd).size b10)
  replace HR := hd (Kd.C_below (Kd.C_drewN HR.out nd) b10)
  replace HP := hd (Kd.C_below (Kd.C_drewN HP.out nd) b10)
  replace K1 := hd (Kd.C_below (Kd.C_drewN K1.out nd) b10)
  replace K2 := hd (Kd.C_below (Kd.C_drewN K2.out nd) b10)
  replace K7 := hd (Kd.C_below (Kd.C_drewN K7.out nd) b10)
  replace K8 := hd (Kd.C_below (Kd.C_drewN K8.out nd) b10)
  clear b10 HB8 K3 K4 K5 K6
  go_wp2_with fail
  refine (musterlow_SameClients.calls k A7 c7 n A8 c8 n true _ K7.out HC7.out K8.out HC8.out F9.out).mono ?_
  rintro e w11 ⟨rfl, b11⟩
  have HB11 : Hd (Below w.heap.size w w11) := hd (below_then HB10.out HB10.out.size b11)
  replace HR := hd (Kd.C_below HR.out b11)
  replace HP := hd (Kd.C_below HP.out b11)
  replace K1 := hd (Kd.C_below K1.out b11)
  replace K2 := hd (Kd.C_below K2.out b11)
  clear b11 HB10 K7 K8
  go_wp2_with fail
  refine (musterlow_SameClients.calls k A1 c1 l A c l true _ K1.out HC1.out HR.out hc0 F10.out).mono ?_
  rintro e w12 ⟨rfl, b12⟩
  have HB12 : Hd (Below w.heap.size w w12) := hd (below_then HB11.out HB11.out.size b12)
  replace HP := hd (Kd.C_below HP.out b12)
  replace K2 := hd (Kd.C_below K2.out b12)
  clear b12 HB11 K1 HR
  go_wp2_with fail
  refine (kept_any B2 d2 rep B d w12 K2.out HC2.out HP.out hc4 HS.out).mono ?_
  rintro e w13 ⟨rfl, b13⟩
  have HB13 : Hd (Below w.heap.size w w13) := hd (below_then HB12.out HB12.out.size b13)
  clear b13 HB12 K2 HP
  go_wp2_with fail
  refine (awake_walk w13).mono ?_
  rintro e w14 ⟨rfl, b14⟩
  have HB14 : Hd (Below w.heap.size w w14) := hd (below_then HB13.out HB13.out.size b14)
  clear b14 HB13
  go_wp2_with fail
  go_ret
  exact ⟨rfl, HB14.out⟩
end Go.Proofs.Ytafnjlgdjhegaaa.Pr
end
