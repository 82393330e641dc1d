/-
  What the small functions of the chapter come to, in plain lists: copies, right step functions, values, the examples.
-/
import Derived.Test.YteipoopdnimiaaaPr2
import Derived.Test.YteipoopdnimiaaaPr3
import Derived.Test.YteipoopdnimiaaaPr8
import Derived.Test.YteipoopdnimiaaaPr9
import Derived.Test.YteipoopdnimiaaaPr10
import Derived.Test.YteipoopdnimiaaaPr11
import Derived.Test.YteipoopdnimiaaaPr13
namespace Go.Proofs.Yteipoopdnimiaaa.Q
open Go.RowKit Go.Proofs.Yteipoopdnimiaaa.Pr Go.Proofs.YteipoopdnimiaaaW.PrintWords Go.Proofs.YteipoopdnimiaaaW.PrintLast
set_option linter.unusedVariables false
set_option linter.unusedSimpArgs false
theorem rd_nat (l : List S34) (i : Nat) : rd_T34 l (i : Int) = l.getD i z34 := by simp [rd_T34]
theorem wrap_succ (i : Nat) (h : i < 9223372036854775807) : wrap64 ((i : Int) + 1) = ((i + 1 : Nat) : Int) := by unfold wrap64; omega
theorem wrap_pred (i : Nat) (h : i < 9223372036854775807) : wrap64 (((i + 1 : Nat) : Int) - 1) = (i : Int) := by unfold wrap64; omega
theorem getD_at (l : List S34) (i : Nat) (h : i < l.length) : l.getD i z34 = l[i] := by rw [List.getD_eq_getElem?_getD, List.getElem?_eq_getElem h]; rfl

theorem copy_loop (l : List S34) (hl : l.length * 16 ≤ 140737488351232) (d : Nat) : ∀ i, l.length - i = d → i ≤ l.length → Ev (fun k => musterkit_CopyCuts.l0 k l (l.take i) i) l := by
  induction d with
  | zero =>
    intro i hd hi
    refine Ev.step (f := fun _ => some l) (fun k => ?_) (Ev.now l)
    simp only [musterkit_CopyCuts.l0]
    rw [if_neg (by omega), List.take_of_length_le (by omega)]
  | succ d ih =>
    intro i hd hi
    refine Ev.step (f := fun k => musterkit_CopyCuts.l0 k l (l.take (i + 1)) ((i + 1 : Nat) : Int)) (fun k => ?_) (ih (i + 1) (by omega) (by omega))
    simp only [musterkit_CopyCuts.l0]
    rw [if_pos (by omega), if_pos (by omega), if_pos (by rw [List.length_take]; omega), rd_nat, wrap_succ i (by omega), List.take_succ_eq_append_getElem (by omega), getD_at l i (by omega)]
theorem copy_ev (l : List S34) (hl : l.length * 16 ≤ 140737488351232) : Ev (fun k => musterkit_CopyCuts.f k l) l := copy_loop l hl _ 0 rfl (by omega)
theorem same_loop (l : List S34) (hl : l.length ≤ 9223372036854775807) (d : Nat) : ∀ i, l.length - i = d → i ≤ l.length → Ev (fun k => musterkit_SameCuts.l0 k l l i) true := by
  induction d with
  | zero =>
    intro i hd hi
    refine Ev.step (f := fun _ => some true) (fun k => ?_) (Ev.now _)
    simp only [musterkit_SameCuts.l0]
    rw [if_neg (by omega)]
  | succ d ih =>
    intro i hd hi
    refine Ev.step (f := fun k => musterkit_SameCuts.l0 k l l ((i + 1 : Nat) : Int)) (fun k => ?_) (ih (i + 1) (by omega) (by omega))
    simp only [musterkit_SameCuts.l0]
    rw [if_pos (by omega), if_pos (by omega), if_pos (by omega), if_neg (by simp), wrap_succ i (by omega)]
theorem same_ev (l : List S34) (hl : l.length ≤ 9223372036854775807) : Ev (fun k => musterkit_SameCuts.f k l l) true := by
  unfold musterkit_SameCuts.f
  simp only [if_true]
  exact same_loop l hl _ 0 rfl (by omega)

/-- Is the cut at place i as it must be? -/
def CutOk (l : List S34) (i : Nat) : Prop := (l.getD i z34).f0 ≤ 2199023255552 ∧ 0 ≤ (l.getD i z34).f1 ∧ (l.getD i z34).f1 ≤ 1073741824 ∧ (0 < i → (l.getD (i - 1) z34).f0 < (l.getD i z34).f0 ∧ (l.getD i z34).f1 ≠ (l.getD (i - 1) z34).f1)
/-- P11.1. -/
def RightP (l : List S34) : Prop := 0 < l.length ∧ l.length ≤ 4096 ∧ (l.getD 0 z34).f0 = 0 ∧ ∀ i, i < l.length → CutOk l i
/-- A function that comes to the truth of a statement. -/
def Tells (g : Nat → Option Bool) (p : Prop) : Prop := ∃ b, Ev g b ∧ (b = true ↔ p)
theorem Tells.yes {g : Nat → Option Bool} {p : Prop} (h : Tells g p) (hp : p) : Ev g true := by
  obtain ⟨b, h1, h2⟩ := h
  rw [h2.2 hp] at h1
  exact h1
theorem Tells.no {g : Nat → Option Bool} {p : Prop} (h : Tells g p) (hp : ¬ p) : Ev g false := by
  obtain ⟨b, h1, h2⟩ := h
  cases b with
  | true => exact absurd (h2.1 rfl) hp
  | false => exact h1
theorem Tells.of_no {g : Nat → Option Bool} {p : Prop} (h : Ev g false) (hp : ¬ p) : Tells g p := ⟨false, h, by simp [hp]⟩
theorem Tells.congr {g : Nat → Option Bool} {p q : Prop} (h : Tells g p) (e : p ↔ q) : Tells g q := by
  obtain ⟨b, h1, h2⟩ := h
  exact ⟨b, h1, h2.trans e⟩
theorem Tells.step {g f : Nat → Option Bool} {p : Prop} (h : ∀ k, g (k + 1) = f k) (t : Tells f p) : Tells g p := by
  obtain ⟨b, h1, h2⟩ := t
  exact ⟨b, Ev.step h h1, h2⟩

theorem right_loop (l : List S34) (hl : l.length ≤ 4096) (d : Nat) : ∀ i, l.length - i = d → i ≤ l.length → Tells (fun k => steps_Right.l0 k l (l.length : Int) i) (∀ j, i ≤ j → j < l.length → CutOk l j) := by
  induction d with
  | zero =>
    intro i hd hi
    refine Tells.step (f := fun _ => some true) (fun k => ?_) ⟨true, Ev.now _, by simp; intro j h1 h2; omega⟩
    simp only [steps_Right.l0]
    rw [if_neg (by omega)]
  | succ d ih =>
    intro i hd hi
    have ih' := ih (i + 1) (by omega) (by omega)
    have hw := wrap_succ i (by omega)
    -- the cut's own bounds
    have hj : ∀ b : Bool, (b = true ↔ ¬ ((l.getD i z34).f0 ≤ 2199023255552 ∧ 0 ≤ (l.getD i z34).f1 ∧ (l.getD i z34).f1 ≤ 1073741824)) →
        Tells (fun k => steps_Right.j2 k l i (l.length : Int) i b (l.getD i z34).f0 (l.getD i z34).f1) (∀ j, i ≤ j → j < l.length → CutOk l j) := by
      intro b hb
      cases b with
      | true =>
        refine Tells.step (f := fun _ => some false) (fun k => by simp only [steps_Right.j2]; rfl) (Tells.of_no (Ev.now _) ?_)
        intro h
        have := h i (Nat.le_refl _) (by omega)
        exact hb.1 rfl ⟨this.1, this.2.1, this.2.2.1⟩
      | false =>
        have hok : (l.getD i z34).f0 ≤ 2199023255552 ∧ 0 ≤ (l.getD i z34).f1 ∧ (l.getD i z34).f1 ≤ 1073741824 := by
          by_cases h : (l.getD i z34).f0 ≤ 2199023255552 ∧ 0 ≤ (l.getD i z34).f1 ∧ (l.getD i z34).f1 ≤ 1073741824
          · exact h
          · exact absurd (hb.2 h) (by simp)
        cases i with
        | zero =>
          refine Tells.step (f := fun k => steps_Right.l0 k l (l.length : Int) ((0 + 1 : Nat) : Int)) (fun k => ?_) (ih'.congr ?_)
          · simp only [steps_Right.j2]
            rw [if_neg (by simp), if_neg (by simp), hw]
          · constructor
            · intro h j h1 h2
              rcases Nat.eq_zero_or_pos j with rfl | hp
              · exact ⟨hok.1, hok.2.1, hok.2.2, fun h => absurd h (by omega)⟩
              · exact h j (by omega) h2
            · intro h j h1 h2
              exact h j (by omega) h2
        | succ i =>
          have hp := wrap_pred i (by omega)
          by_cases h1 : (l.getD (i + 1) z34).f0 ≤ (l.getD i z34).f0
          · refine Tells.step (f := fun _ => some false) (fun k => ?_) (Tells.of_no (Ev.now _) ?_)
            · simp only [steps_Right.j2]
              rw [if_neg (by simp), if_pos (by omega), hp, if_pos (by omega), if_pos (by omega), rd_nat, if_pos h1]
            · intro h
              have := (h (i + 1) (Nat.le_refl _) (by omega)).2.2.2 (by omega)
              simp only [Nat.add_sub_cancel] at this
              omega
          · by_cases h2 : (l.getD (i + 1) z34).f1 = (l.getD i z34).f1
            · refine Tells.step (f := fun _ => some false) (fun k => ?_) (Tells.of_no (Ev.now _) ?_)
              · simp only [steps_Right.j2]
                rw [if_neg (by simp), if_pos (by omega), hp, if_pos (by omega), if_pos (by omega), rd_nat, if_neg h1, if_pos h2]
              · intro h
                have := (h (i + 1) (Nat.le_refl _) (by omega)).2.2.2 (by omega)
                simp only [Nat.add_sub_cancel] at this
                exact this.2 h2
            · refine Tells.step (f := fun k => steps_Right.l0 k l (l.length : Int) ((i + 1 + 1 : Nat) : Int)) (fun k => ?_) (ih'.congr ?_)
              · simp only [steps_Right.j2]
                rw [if_neg (by simp), if_pos (by omega), hp, if_pos (by omega), if_pos (by omega), rd_nat, if_neg h1, if_neg h2, hw]
              · constructor
                · intro h j h3 h4
                  rcases Nat.eq_or_lt_of_le h3 with rfl | hp
                  · exact ⟨hok.1, hok.2.1, hok.2.2, fun _ => by simp only [Nat.add_sub_cancel]; exact ⟨by omega, h2⟩⟩
                  · exact h j (by omega) h4
                · intro h j h3 h4
                  exact h j (by omega) h4
    by_cases c1 : (l.getD i z34).f0 > 2199023255552
    · refine Tells.step (fun k => ?_) (hj true ⟨fun _ h => by omega, fun _ => rfl⟩)
      simp only [steps_Right.l0]
      rw [if_pos (by omega), if_pos (by omega), if_pos (by omega), rd_nat, if_pos c1]
    · by_cases c2 : (l.getD i z34).f1 < 0
      · refine Tells.step (fun k => ?_) (hj true ⟨fun _ h => by omega, fun _ => rfl⟩)
        simp only [steps_Right.l0]
        rw [if_pos (by omega), if_pos (by omega), if_pos (by omega), rd_nat, if_neg c1, if_pos c2]
      · refine Tells.step (fun k => ?_) (hj (decide ((l.getD i z34).f1 > 1073741824)) (by rw [decide_eq_true_eq]; omega))
        simp only [steps_Right.l0]
        rw [if_pos (by omega), if_pos (by omega), if_pos (by omega), rd_nat, if_neg c1, if_neg c2]
theorem right_ev (l : List S34) : Tells (fun k => steps_Right.f k l) (RightP l) := by
  unfold steps_Right.f
  have hf : Tells (fun k => steps_Right.j0 k l true) False := Tells.step (f := fun _ => some false) (fun k => by simp only [steps_Right.j0]; rfl) ⟨false, Ev.now _, by simp⟩
  by_cases h0 : (l.length : Int) = 0
  · simp only [if_pos h0]
    exact hf.congr ⟨fun h => h.elim, fun h => by have := h.1; omega⟩
  · simp only [if_neg h0]
    by_cases h1 : (l.length : Int) > 4096
    · simp only [if_pos h1]
      exact hf.congr ⟨fun h => h.elim, fun h => by have := h.2.1; omega⟩
    · simp only [if_neg h1, if_pos (show (0 : Int) < (l.length : Int) by omega)]
      have hz : rd_T34 l 0 = l.getD 0 z34 := rd_nat l 0
      rw [hz]
      by_cases h2 : (l.getD 0 z34).f0 = 0
      · refine Tells.step (f := fun k => steps_Right.l0 k l (l.length : Int) ((0 : Nat) : Int)) (fun k => ?_) ((right_loop l (by omega) _ 0 rfl (by omega)).congr ?_)
        · simp only [steps_Right.j0]
          rw [if_neg (by rw [h2]; simp)]
          rfl
        · exact ⟨fun h => ⟨by omega, by omega, h2, fun i hi => h i (Nat.zero_le _) hi⟩, fun h j _ hj => h.2.2.2 j hj⟩
      · rw [show ((l.getD 0 z34).f0 != 0) = true from bne_iff_ne.2 h2]
        exact hf.congr ⟨fun h => h.elim, fun h => absurd h.2.2.1 h2⟩
theorem ref_right_loop (l : List S34) (hl : l.length ≤ 4096) (d : Nat) : ∀ i, l.length - i = d → i ≤ l.length → Tells (fun k => musterref11_Right.l0 k l i) (∀ j, i ≤ j → j < l.length → CutOk l j) := by
  induction d with
  | zero =>
    intro i hd hi
    refine Tells.step (f := fun _ => some true) (fun k => ?_) ⟨true, Ev.now _, by simp; intro j h1 h2; omega⟩
    simp only [musterref11_Right.l0]
    rw [if_neg (by omega)]
  | succ d ih =>
    intro i hd hi
    have ih' := ih (i + 1) (by omega) (by omega)
    have hw := wrap_succ i (by omega)
    -- the cut's own bounds
    have hj : ∀ b : Bool, (b = true ↔ ¬ ((l.getD i z34).f0 ≤ 2199023255552 ∧ 0 ≤ (l.getD i z34).f1 ∧ (l.getD i z34).f1 ≤ 1073741824)) →
        Tells (fun k => musterref11_Right.j2 k l i b) (∀ j, i ≤ j → j < l.length → CutOk l j) := by
      intro b hb
      cases b with
      | true =>
        refine Tells.step (f := fun _ => some false) (fun k => by simp only [musterref11_Right.j2]; rfl) (Tells.of_no (Ev.now _) ?_)
        intro h
        have := h i (Nat.le_refl _) (by omega)
        exact hb.1 rfl ⟨this.1, this.2.1, this.2.2.1⟩
      | false =>
        have hok : (l.getD i z34).f0 ≤ 2199023255552 ∧ 0 ≤ (l.getD i z34).f1 ∧ (l.getD i z34).f1 ≤ 1073741824 := by
          by_cases h : (l.getD i z34).f0 ≤ 2199023255552 ∧ 0 ≤ (l.getD i z34).f1 ∧ (l.getD i z34).f1 ≤ 1073741824
          · exact h
          · exact absurd (hb.2 h) (by simp)
        cases i with
        | zero =>
          refine Tells.step (f := fun k => musterref11_Right.l0 k l ((0 + 1 : Nat) : Int)) (fun k => ?_) (ih'.congr ?_)
          · simp only [musterref11_Right.j2]
            rw [if_neg (by simp), if_neg (by simp), hw]
          · constructor
            · intro h j h1 h2
              rcases Nat.eq_zero_or_pos j with rfl | hp
              · exact ⟨hok.1, hok.2.1, hok.2.2, fun h => absurd h (by omega)⟩
              · exact h j (by omega) h2
            · intro h j h1 h2
              exact h j (by omega) h2
        | succ i =>
          have hp := wrap_pred i (by omega)
          by_cases h1 : (l.getD (i + 1) z34).f0 ≤ (l.getD i z34).f0
          · refine Tells.step (f := fun _ => some false) (fun k => ?_) (Tells.of_no (Ev.now _) ?_)
            · simp only [musterref11_Right.j2]
              rw [if_neg (by simp), if_pos (by omega), if_pos (by omega), if_pos (by omega), hp, if_pos (by omega), if_pos (by omega), rd_nat, rd_nat, if_pos h1]
            · intro h
              have := (h (i + 1) (Nat.le_refl _) (by omega)).2.2.2 (by omega)
              simp only [Nat.add_sub_cancel] at this
              omega
          · by_cases h2 : (l.getD (i + 1) z34).f1 = (l.getD i z34).f1
            · refine Tells.step (f := fun _ => some false) (fun k => ?_) (Tells.of_no (Ev.now _) ?_)
              · simp only [musterref11_Right.j2]
                rw [if_neg (by simp), if_pos (by omega), if_pos (by omega), if_pos (by omega), hp, if_pos (by omega), if_pos (by omega), rd_nat, rd_nat, if_neg h1, if_pos h2]
              · intro h
                have := (h (i + 1) (Nat.le_refl _) (by omega)).2.2.2 (by omega)
                simp only [Nat.add_sub_cancel] at this
                exact this.2 h2
            · refine Tells.step (f := fun k => musterref11_Right.l0 k l ((i + 1 + 1 : Nat) : Int)) (fun k => ?_) (ih'.congr ?_)
              · simp only [musterref11_Right.j2]
                rw [if_neg (by simp), if_pos (by omega), if_pos (by omega), if_pos (by omega), hp, if_pos (by omega), if_pos (by omega), rd_nat, rd_nat, if_neg h1, if_neg h2, hw]
              · constructor
                · intro h j h3 h4
                  rcases Nat.eq_or_lt_of_le h3 with rfl | hp
                  · exact ⟨hok.1, hok.2.1, hok.2.2, fun _ => by simp only [Nat.add_sub_cancel]; exact ⟨by omega, h2⟩⟩
                  · exact h j (by omega) h4
                · intro h j h3 h4
                  exact h j (by omega) h4
    by_cases c1 : (l.getD i z34).f0 > 2199023255552
    · refine Tells.step (fun k => ?_) (hj true ⟨fun _ h => by omega, fun _ => rfl⟩)
      simp only [musterref11_Right.l0]
      rw [if_pos (by omega), if_pos (by omega), rd_nat, if_pos c1]
    · by_cases c2 : (l.getD i z34).f1 < 0
      · refine Tells.step (fun k => ?_) (hj true ⟨fun _ h => by omega, fun _ => rfl⟩)
        simp only [musterref11_Right.l0]
        rw [if_pos (by omega), if_pos (by omega), rd_nat, if_neg c1, if_pos c2]
      · refine Tells.step (fun k => ?_) (hj (decide ((l.getD i z34).f1 > 1073741824)) (by rw [decide_eq_true_eq]; omega))
        simp only [musterref11_Right.l0]
        rw [if_pos (by omega), if_pos (by omega), rd_nat, if_neg c1, if_neg c2]
theorem ref_right_ev (l : List S34) : Tells (fun k => musterref11_Right.f k l) (RightP l) := by
  unfold musterref11_Right.f
  have hf : Tells (fun k => musterref11_Right.j0 k l true) False := Tells.step (f := fun _ => some false) (fun k => by simp only [musterref11_Right.j0]; rfl) ⟨false, Ev.now _, by simp⟩
  by_cases h0 : (l.length : Int) < 1
  · simp only [if_pos h0]
    exact hf.congr ⟨fun h => h.elim, fun h => by have := h.1; omega⟩
  · simp only [if_neg h0]
    by_cases h1 : (l.length : Int) > 4096
    · simp only [if_pos h1]
      exact hf.congr ⟨fun h => h.elim, fun h => by have := h.2.1; omega⟩
    · simp only [if_neg h1, if_pos (show (0 : Int) < (l.length : Int) by omega)]
      have hz : rd_T34 l 0 = l.getD 0 z34 := rd_nat l 0
      rw [hz]
      by_cases h2 : (l.getD 0 z34).f0 = 0
      · refine Tells.step (f := fun k => musterref11_Right.l0 k l ((0 : Nat) : Int)) (fun k => ?_) ((ref_right_loop l (by omega) _ 0 rfl (by omega)).congr ?_)
        · simp only [musterref11_Right.j0]
          rw [if_neg (by rw [h2]; simp)]
          rfl
        · exact ⟨fun h => ⟨by omega, by omega, h2, fun i hi => h i (Nat.zero_le _) hi⟩, fun h j _ hj => h.2.2.2 j hj⟩
      · rw [show ((l.getD 0 z34).f0 != 0) = true from bne_iff_ne.2 h2]
        exact hf.congr ⟨fun h => h.elim, fun h => absurd h.2.2.1 h2⟩

/-- P11.2: the value at a time. -/
def valueOf (l : List S34) (t : Int) : Int := l.foldl (fun v c => if c.f0 ≤ t then c.f1 else v) 0
theorem value_loop (l : List S34) (t : Int) (hl : l.length ≤ 9223372036854775806) (d : Nat) : ∀ (i : Nat) (v : Int), l.length - i = d → i ≤ l.length → Ev (fun k => musterref11_value.l0 k l t v i) ((l.drop i).foldl (fun v c => if c.f0 ≤ t then c.f1 else v) v) := by
  induction d with
  | zero =>
    intro i v hd hi
    refine Ev.step (f := fun _ => some v) (fun k => ?_) ?_
    · simp only [musterref11_value.l0]
      rw [if_neg (by omega)]
    · rw [List.drop_of_length_le (by omega)]
      exact Ev.now _
  | succ d ih =>
    intro i v hd hi
    have hw := wrap_succ i (by omega)
    rw [List.drop_eq_getElem_cons (by omega), List.foldl_cons, ← getD_at l i (by omega)]
    refine Ev.step (f := fun k => musterref11_value.l0 k l t (if (l.getD i z34).f0 ≤ t then (l.getD i z34).f1 else v) ((i + 1 : Nat) : Int)) (fun k => ?_) (ih (i + 1) _ (by omega) (by omega))
    simp only [musterref11_value.l0]
    rw [if_pos (by omega), if_pos (by omega), rd_nat, hw]
    split <;> rfl
theorem value_ev (l : List S34) (t : Int) (hl : l.length ≤ 9223372036854775806) : Ev (fun k => musterref11_value.f k l t) (valueOf l t) := value_loop l t hl _ 0 0 rfl (by omega)
end Go.Proofs.Yteipoopdnimiaaa.Q
