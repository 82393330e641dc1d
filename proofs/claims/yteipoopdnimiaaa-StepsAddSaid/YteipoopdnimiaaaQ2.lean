/-
  Looking up in step functions, in plain lists: the program's way and the document's come to the same.
-/
import Derived.Test.YteipoopdnimiaaaQ1
namespace Go.Proofs.Yteipoopdnimiaaa.Q
open Go.RowKit Go.Proofs.Yteipoopdnimiaaa.Pr Go.Proofs.YteipoopdnimiaaaW.PrintWords Go.Proofs.YteipoopdnimiaaaW.PrintLast
set_option linter.unusedVariables false
set_option linter.unusedSimpArgs false
theorem rising_of {l : List S34} (h : ∀ i, 0 < i → i < l.length → (l.getD (i - 1) z34).f0 < (l.getD i z34).f0) : rising l = true := by
  induction l with
  | nil => rfl
  | cons a l ih =>
    cases l with
    | nil => rfl
    | cons b l =>
      simp only [rising, Bool.and_eq_true, decide_eq_true_eq]
      refine ⟨by simpa using h 1 (by omega) (by simp), ih fun i h0 hi => ?_⟩
      have := h (i + 1) (by omega) (by simpa using hi)
      obtain ⟨j, rfl⟩ : ∃ j, i = j + 1 := ⟨i - 1, by omega⟩
      simpa using this
theorem right_rising {l : List S34} (h : RightP l) : rising l = true := rising_of fun i h0 hi => ((h.2.2.2 i hi).2.2.2 h0).1
theorem rising_tail {a : S34} {l : List S34} (h : rising (a :: l) = true) : ∀ c ∈ l, a.f0 < c.f0 := by
  intro c hc
  obtain ⟨j, hj, rfl⟩ := List.mem_iff_getElem.1 hc
  have := rising_lt h 0 (j + 1) (by omega) (by simpa using hj)
  simpa [List.getD_eq_getElem?_getD, List.getElem?_eq_getElem hj] using this
theorem upTo_cons_pos {a : S34} {l : List S34} {t : Int} (h : a.f0 ≤ t) : upTo (a :: l) t = upTo l t + 1 := by
  unfold upTo
  rw [List.takeWhile_cons_of_pos (by simpa using h)]
  rfl
theorem upTo_cons_neg {a : S34} {l : List S34} {t : Int} (h : ¬ a.f0 ≤ t) : upTo (a :: l) t = 0 := by
  unfold upTo
  rw [List.takeWhile_cons_of_neg (by simpa using h)]
  rfl
theorem upTo_length (l : List S34) (t : Int) : upTo l t ≤ l.length := by
  unfold upTo
  exact List.Sublist.length_le (List.takeWhile_sublist _)
theorem upTo_lo {l : List S34} {t : Int} : ∀ i, i < upTo l t → (l.getD i z34).f0 ≤ t := by
  induction l with
  | nil => intro i hi; simp [upTo] at hi
  | cons a l ih =>
    intro i hi
    by_cases h : a.f0 ≤ t
    · rw [upTo_cons_pos h] at hi
      cases i with
      | zero => simpa using h
      | succ i => simpa using ih i (by omega)
    · rw [upTo_cons_neg h] at hi
      omega
theorem upTo_hi {l : List S34} {t : Int} (hr : rising l = true) : ∀ i, upTo l t ≤ i → i < l.length → t < (l.getD i z34).f0 := by
  induction l with
  | nil => intro i _ hi; simp at hi
  | cons a l ih =>
    intro i hi hl
    by_cases h : a.f0 ≤ t
    · rw [upTo_cons_pos h] at hi
      obtain ⟨i, rfl⟩ : ∃ j, i = j + 1 := ⟨i - 1, by omega⟩
      simpa using ih (rising_cons hr) i (by omega) (by simpa using hl)
    · cases i with
      | zero => simp; omega
      | succ i =>
        have hj : i < l.length := by simpa using hl
        have := rising_tail hr l[i] (List.getElem_mem hj)
        simp [hj]
        omega
theorem upTo_pos {l : List S34} {t : Int} (h0 : 0 < l.length) (h : (l.getD 0 z34).f0 ≤ t) : 0 < upTo l t := by
  cases l with
  | nil => simp at h0
  | cons a l =>
    rw [upTo_cons_pos (by simpa using h)]
    omega
theorem fold_value {l : List S34} {t : Int} (hr : rising l = true) : ∀ v, l.foldl (fun v c => if c.f0 ≤ t then c.f1 else v) v = if upTo l t = 0 then v else (l.getD (upTo l t - 1) z34).f1 := by
  induction l with
  | nil => intro v; rfl
  | cons a l ih =>
    intro v
    rw [List.foldl_cons, ih (rising_cons hr)]
    by_cases h : a.f0 ≤ t
    · rw [if_pos h, upTo_cons_pos h, if_neg (show ¬ upTo l t + 1 = 0 by omega), Nat.add_sub_cancel]
      split
      · rename_i h0
        rw [h0]
        simp
      · rename_i h0
        obtain ⟨j, hj⟩ : ∃ j, upTo l t = j + 1 := ⟨upTo l t - 1, by omega⟩
        rw [hj]
        simp
    · rw [if_neg h, upTo_cons_neg h]
      have : upTo l t = 0 := by
        cases l with
        | nil => rfl
        | cons b l =>
          have := rising_tail hr b (by simp)
          exact upTo_cons_neg (by omega)
      rw [this, if_pos rfl, if_pos rfl]
theorem value_at {l : List S34} {t : Int} (hr : rising l = true) (hp : 0 < upTo l t) : valueOf l t = (l.getD (upTo l t - 1) z34).f1 := by
  unfold valueOf
  rw [fold_value hr, if_neg (by omega)]

/-! ### At -/
theorem place_some {l : List S34} (hr : rising l = true) (t : Int) : steps_place.f l t = some ((upTo l t : Int) - 1) := by
  unfold steps_place.f
  rw [if_pos hr]
theorem right_upTo {l : List S34} (h : RightP l) {t : Int} (ht : 0 ≤ t) : 0 < upTo l t := upTo_pos h.1 (by rw [h.2.2.1]; exact ht)
theorem at_ev (l : List S34) (t : Int) : ∃ r, Ev (fun k => steps_At.f k l t) r ∧ Ev (fun k => musterref11_At.f k l t) r := by
  unfold steps_At.f musterref11_At.f
  by_cases hR : RightP l
  · have h1 := (right_ev l).yes hR
    have h2 := (ref_right_ev l).yes hR
    by_cases c1 : t < 0
    · simp only [if_pos c1]
      exact ⟨_, Ev.now _, Ev.bind h2 (by simp only [if_true]; exact Ev.now _)⟩
    · simp only [if_neg c1]
      by_cases c2 : t > 2199023255552
      · simp only [if_pos c2]
        exact ⟨_, Ev.now _, Ev.bind h2 (by simp only [if_true]; exact Ev.now _)⟩
      · simp only [if_neg c2]
        have hr := right_rising hR
        have hp := right_upTo hR (t := t) (by omega)
        have hl := upTo_length l t
        refine ⟨(valueOf l t, 0), Ev.bind h1 ?_, Ev.bind h2 ?_⟩
        · simp only [if_true]
          rw [place_some hr]
          simp only [Option.bind_some]
          rw [show ((upTo l t : Int) - 1) = ((upTo l t - 1 : Nat) : Int) by omega, if_pos (by omega), if_pos (by omega), rd_nat, value_at hr hp]
          exact Ev.now _
        · simp only [if_true]
          exact Ev.bind (value_ev l t (by have := hR.2.1; omega)) (Ev.now _)
  · have h1 := (right_ev l).no hR
    have h2 := (ref_right_ev l).no hR
    refine ⟨(0, 2), ?_, Ev.bind h2 (by simp only [Bool.false_eq_true, if_false]; exact Ev.now _)⟩
    by_cases c1 : t < 0
    · simp only [if_pos c1]
      exact Ev.now _
    · simp only [if_neg c1]
      by_cases c2 : t > 2199023255552
      · simp only [if_pos c2]
        exact Ev.now _
      · simp only [if_neg c2]
        exact Ev.bind h1 (by simp only [Bool.false_eq_true, if_false]; exact Ev.now _)
/-! ### Least -/
def leastW (b : Int) (v : Int) (y : List S34) : Int := (y.takeWhile fun c => decide (c.f0 < b)).foldl (fun v c => mn v c.f1) v
def refLeast (a b : Int) (v : Int) (y : List S34) : Int := y.foldl (fun v c => if c.f0 > a then if c.f0 < b then if c.f1 < v then c.f1 else v else v else v) v
theorem least_loop (y : List S34) (b : Int) (hl : y.length ≤ 9223372036854775806) (d : Nat) : ∀ (i : Nat) (v : Int), y.length - i = d → i ≤ y.length → Ev (fun k => steps_least.l0 k b v y (y.length : Int) i) (leastW b v (y.drop i)) := by
  induction d with
  | zero =>
    intro i v hd hi
    refine Ev.step (f := fun _ => some v) (fun k => ?_) ?_
    · simp only [steps_least.l0]
      rw [if_neg (by omega)]
    · rw [List.drop_of_length_le (by omega)]
      exact Ev.now _
  | succ d ih =>
    intro i v hd hi
    have hw := wrap_succ i (by omega)
    rw [List.drop_eq_getElem_cons (by omega), ← getD_at y i (by omega)]
    by_cases hb : (y.getD i z34).f0 ≥ b
    · refine Ev.step (f := fun _ => some v) (fun k => ?_) ?_
      · simp only [steps_least.l0]
        rw [if_pos (by omega), if_pos (by omega), if_pos (by omega), rd_nat, if_pos hb]
      · unfold leastW
        rw [List.takeWhile_cons_of_neg (by simp only [decide_eq_true_eq]; omega)]
        exact Ev.now _
    · have := ih (i + 1) (mn v (y.getD i z34).f1) (by omega) (by omega)
      unfold leastW at this ⊢
      rw [List.takeWhile_cons_of_pos (by simp only [decide_eq_true_eq]; omega), List.foldl_cons]
      refine Ev.step (fun k => ?_) this
      simp only [steps_least.l0]
      rw [if_pos (by omega), if_pos (by omega), if_pos (by omega), rd_nat, if_neg hb, hw]
theorem ref_least_loop (l : List S34) (a b : Int) (hl : l.length ≤ 9223372036854775806) (d : Nat) : ∀ (i : Nat) (v : Int), l.length - i = d → i ≤ l.length → Ev (fun k => musterref11_least.l0 k l a b v i) (refLeast a b v (l.drop i)) := by
  induction d with
  | zero =>
    intro i v hd hi
    refine Ev.step (f := fun _ => some v) (fun k => ?_) ?_
    · simp only [musterref11_least.l0]
      rw [if_neg (by omega)]
    · rw [List.drop_of_length_le (by omega)]
      exact Ev.now _
  | succ d ih =>
    intro i v hd hi
    have hw := wrap_succ i (by omega)
    rw [List.drop_eq_getElem_cons (by omega), ← getD_at l i (by omega)]
    unfold refLeast
    rw [List.foldl_cons]
    refine Ev.step (fun k => ?_) (ih (i + 1) _ (by omega) (by omega))
    simp only [musterref11_least.l0]
    rw [if_pos (by omega), if_pos (by omega), rd_nat, hw]
    split
    · split
      · split <;> rfl
      · rfl
    · rfl
theorem refLeast_lo (a b v : Int) : ∀ y : List S34, (∀ c ∈ y, c.f0 ≤ a) → refLeast a b v y = v
  | [], _ => rfl
  | c :: y, h => by
    unfold refLeast
    rw [List.foldl_cons, if_neg (by have := h c (by simp); omega)]
    exact refLeast_lo a b v y fun c hc => h c (by simp [hc])
theorem refLeast_hi (a b : Int) : ∀ (y : List S34) (v : Int), (∀ c ∈ y, b ≤ c.f0) → refLeast a b v y = v
  | [], _, _ => rfl
  | c :: y, v, h => by
    unfold refLeast
    rw [List.foldl_cons]
    have h1 : ¬ c.f0 < b := by have := h c (by simp); omega
    rw [if_neg h1, ite_self]
    exact refLeast_hi a b y v fun c hc => h c (by simp [hc])
theorem leasts (a b : Int) : ∀ (y : List S34) (v : Int), rising y = true → (∀ c ∈ y, a < c.f0) → leastW b v y = refLeast a b v y
  | [], _, _, _ => rfl
  | c :: y, v, hr, h => by
    by_cases hb : c.f0 < b
    · have ih := leasts a b y (mn v c.f1) (rising_cons hr) fun c hc => h c (by simp [hc])
      unfold leastW refLeast at ih ⊢
      rw [List.takeWhile_cons_of_pos (by simpa using hb), List.foldl_cons, List.foldl_cons, if_pos (by have := h c (by simp); omega), if_pos hb, ih]
      rfl
    · have h2 := refLeast_hi a b (c :: y) v (by
        intro d hd
        rcases List.mem_cons.1 hd with rfl | hd
        · omega
        · have := rising_tail hr d hd
          omega)
      rw [h2]
      unfold leastW
      rw [List.takeWhile_cons_of_neg (by simpa using hb)]
      rfl
theorem rising_drop {l : List S34} (h : rising l = true) : ∀ i, rising (l.drop i) = true := by
  intro i
  induction i generalizing l with
  | zero => simpa using h
  | succ i ih =>
    cases l with
    | nil => simpa using h
    | cons a l => simpa using ih (rising_cons h)
/-- The least value of a window, by whatever way. -/
def leastOf (l : List S34) (a b : Int) : Int := refLeast a b (valueOf l a) l
theorem leasts_at {l : List S34} {a b : Int} (hr : rising l = true) (hp : 0 < upTo l a) (hab : a < b) : leastW b (l.getD (upTo l a - 1) z34).f1 (l.drop (upTo l a - 1)) = leastOf l a b := by
  obtain ⟨i, hi⟩ : ∃ i, upTo l a = i + 1 := ⟨upTo l a - 1, by omega⟩
  have hl := upTo_length l a
  have hil : i < l.length := by omega
  have hlo : (l.getD i z34).f0 ≤ a := upTo_lo i (by omega)
  have hv := value_at hr hp
  rw [hi, Nat.add_sub_cancel] at hv ⊢
  unfold leastOf
  rw [hv]
  have h1 : ∀ v, refLeast a b v l = refLeast a b v (l.drop (i + 1)) := by
    intro v
    have e : l = l.take (i + 1) ++ l.drop (i + 1) := (List.take_append_drop _ _).symm
    have h2 := refLeast_lo a b v (l.take (i + 1)) (by
      intro c hc
      obtain ⟨j, hj, rfl⟩ := List.mem_iff_getElem.1 hc
      rw [List.length_take] at hj
      have := upTo_lo (l := l) (t := a) j (by omega)
      rw [getD_at l j (by omega)] at this
      simpa using this)
    conv => lhs; rw [e]
    unfold refLeast at h2 ⊢
    rw [List.foldl_append, h2]
  rw [h1, ← leasts a b _ _ (rising_drop hr _) (by
    intro c hc
    obtain ⟨j, hj, rfl⟩ := List.mem_iff_getElem.1 hc
    rw [List.length_drop] at hj
    have := upTo_hi (t := a) hr (i + 1 + j) (by omega) (by omega)
    rw [getD_at l _ (by omega)] at this
    simpa using this), List.drop_eq_getElem_cons hil, ← getD_at l i hil]
  unfold leastW
  rw [List.takeWhile_cons_of_pos (by simp only [decide_eq_true_eq]; omega), List.foldl_cons]
  congr 1
  unfold mn
  split <;> rfl
theorem least_ev {l : List S34} {a b : Int} (hR : RightP l) (ha : 0 ≤ a) (hab : a < b) : Ev (fun k => steps_least.f k l a b) (leastOf l a b) := by
  have hr := right_rising hR
  have hp := right_upTo hR ha
  have hl := upTo_length l a
  unfold steps_least.f
  rw [place_some hr]
  simp only [Option.bind_some]
  rw [show ((upTo l a : Int) - 1) = ((upTo l a - 1 : Nat) : Int) by omega]
  simp only [if_pos (show (0 : Int) ≤ ((upTo l a - 1 : Nat) : Int) by omega), if_pos (show ((upTo l a - 1 : Nat) : Int) < (l.length : Int) by omega), if_pos (show ((upTo l a - 1 : Nat) : Int) ≤ (l.length : Int) by omega), Int.toNat_natCast]
  rw [rd_nat, ← leasts_at hr hp hab]
  exact least_loop (l.drop (upTo l a - 1)) b (by rw [List.length_drop]; have := hR.2.1; omega) _ 0 _ rfl (by omega)
theorem ref_least_ev {l : List S34} {a b : Int} (hl : l.length ≤ 4096) : Ev (fun k => musterref11_least.f k l a b) (leastOf l a b) :=
  Ev.bind (value_ev l a (by omega)) (ref_least_loop l a b (by omega) _ 0 _ rfl (by omega))
def WindowP (l : List S34) (a b : Int) : Prop := RightP l ∧ 0 ≤ a ∧ a < b ∧ b ≤ 2199023255552
theorem window_ev (l : List S34) (a b : Int) : Tells (fun k => steps_window.f k l a b) (WindowP l a b) := by
  unfold steps_window.f
  by_cases c1 : a ≥ 0
  · simp only [if_pos c1]
    by_cases c2 : a < b
    · simp only [if_pos c2]
      by_cases c3 : b ≤ 2199023255552
      · simp only [if_pos c3]
        obtain ⟨r, h1, h2⟩ := right_ev l
        exact ⟨r, Ev.bind h1 (Ev.now _), h2.trans ⟨fun h => ⟨h, by omega, c2, c3⟩, fun h => h.1⟩⟩
      · simp only [if_neg c3]
        exact Tells.of_no (Ev.now _) fun h => c3 h.2.2.2
    · simp only [if_neg c2]
      exact Tells.of_no (Ev.now _) fun h => c2 h.2.2.1
  · simp only [if_neg c1]
    exact Tells.of_no (Ev.now _) fun h => c1 h.2.1
theorem ref_window_ev (l : List S34) (a b : Int) : Tells (fun k => musterref11_window.f k l a b) (WindowP l a b) := by
  unfold musterref11_window.f
  by_cases hR : RightP l
  · have h1 := (ref_right_ev l).yes hR
    by_cases c1 : a ≥ 0
    · by_cases c2 : a < b
      · exact ⟨decide (b ≤ 2199023255552), Ev.bind h1 (by simp only [if_true, if_pos c1, if_pos c2]; exact Ev.now _), by rw [decide_eq_true_eq]; exact ⟨fun h => ⟨hR, by omega, c2, h⟩, fun h => h.2.2.2⟩⟩
      · exact Tells.of_no (Ev.bind h1 (by simp only [if_true, if_pos c1, if_neg c2]; exact Ev.now _)) fun h => c2 h.2.2.1
    · exact Tells.of_no (Ev.bind h1 (by simp only [if_true, if_neg c1]; exact Ev.now _)) fun h => c1 h.2.1
  · exact Tells.of_no (Ev.bind ((ref_right_ev l).no hR) (by simp only [Bool.false_eq_true, if_false]; exact Ev.now _)) fun h => hR h.1
theorem Least_ev (l : List S34) (a b : Int) : ∃ r, Ev (fun k => steps_Least.f k l a b) r ∧ Ev (fun k => musterref11_Least.f k l a b) r := by
  unfold steps_Least.f musterref11_Least.f
  by_cases hW : WindowP l a b
  · exact ⟨(leastOf l a b, 0), Ev.bind ((window_ev l a b).yes hW) (by simp only [if_true]; exact Ev.bind (least_ev hW.1 hW.2.1 hW.2.2.1) (Ev.now _)), Ev.bind ((ref_window_ev l a b).yes hW) (by simp only [if_true]; exact Ev.bind (ref_least_ev hW.1.2.1) (Ev.now _))⟩
  · exact ⟨(0, 2), Ev.bind ((window_ev l a b).no hW) (by simp only [Bool.false_eq_true, if_false]; exact Ev.now _), Ev.bind ((ref_window_ev l a b).no hW) (by simp only [Bool.false_eq_true, if_false]; exact Ev.now _)⟩
end Go.Proofs.Yteipoopdnimiaaa.Q
