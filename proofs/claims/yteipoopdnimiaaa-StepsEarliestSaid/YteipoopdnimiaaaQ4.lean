/-
  The fit that is found fits, and nothing earlier does, in plain lists.
-/
import Derived.Test.YteipoopdnimiaaaQ3
import Derived.Test.YteipoopdnimiaaaQA
import Derived.Test.YteipoopdnimiaaaPr16
namespace Go.Proofs.Yteipoopdnimiaaa.Q
open Go.RowKit Go.Proofs.Yteipoopdnimiaaa.Pr Go.Proofs.YteipoopdnimiaaaW.PrintWords Go.Proofs.YteipoopdnimiaaaW.PrintLast
set_option linter.unusedVariables false
set_option linter.unusedSimpArgs false
theorem fit_spec {l : List S34} {fr len n : Int} : ∀ y : List S34, rising y = true →
    (fitSearch l fr len n y = (0, 120) ∧ ∀ c ∈ y, fr < c.f0 → c.f0 ≤ 1099511627776 → ¬ n ≤ leastOf l c.f0 (c.f0 + len)) ∨
    ∃ c ∈ y, fitSearch l fr len n y = (c.f0, 0) ∧ fr < c.f0 ∧ c.f0 ≤ 1099511627776 ∧ n ≤ leastOf l c.f0 (c.f0 + len) ∧ ∀ d ∈ y, fr < d.f0 → d.f0 ≤ 1099511627776 → n ≤ leastOf l d.f0 (d.f0 + len) → c.f0 ≤ d.f0
  | [], _ => .inl ⟨rfl, by simp⟩
  | c :: y, hr => by
    rw [fitSearch]
    by_cases h : fr < c.f0 ∧ c.f0 ≤ 1099511627776 ∧ n ≤ leastOf l c.f0 (c.f0 + len)
    · rw [if_pos h]
      refine .inr ⟨c, by simp, rfl, h.1, h.2.1, h.2.2, fun d hd _ _ _ => ?_⟩
      rcases List.mem_cons.1 hd with rfl | hd
      · exact Int.le_refl _
      · exact Int.le_of_lt (rising_tail hr d hd)
    · rw [if_neg h]
      rcases fit_spec y (rising_cons hr) with ⟨h1, h2⟩ | ⟨d, hd, h1, h2, h3, h4, h5⟩
      · refine .inl ⟨h1, fun e he h6 h7 h8 => ?_⟩
        rcases List.mem_cons.1 he with rfl | he
        · exact h ⟨h6, h7, h8⟩
        · exact h2 e he h6 h7 h8
      · refine .inr ⟨d, by simp [hd], h1, h2, h3, h4, fun e he h6 h7 h8 => ?_⟩
        rcases List.mem_cons.1 he with rfl | he
        · exact absurd ⟨h6, h7, h8⟩ h
        · exact h5 e he h6 h7 h8
/-- What fits at a time fits at the begin of its piece, and anywhere between. -/
theorem fits_back {l : List S34} {s t len n : Int} {i : Nat} (hr : rising l = true) (hi : upTo l t = i + 1) (h1 : (l.getD i z34).f0 ≤ s) (h2 : s ≤ t) (hf : n ≤ leastOf l t (t + len)) : n ≤ leastOf l s (s + len) := by
  have hl := upTo_length l t
  have hs : upTo l s = i + 1 := upTo_of _ _ (by omega) (fun j hj => by
      rcases Nat.lt_or_eq_of_le (Nat.le_of_lt_succ hj) with h | rfl
      · have := rising_lt hr j i h (by omega)
        omega
      · exact h1)
    (fun j hj hjl => by
      have := upTo_hi (t := t) hr j (by omega) hjl
      omega)
  rw [leastOf_ge] at hf ⊢
  have v1 := value_at (t := s) hr (by omega)
  have v2 := value_at (t := t) hr (by omega)
  rw [hs] at v1
  rw [hi] at v2
  rw [v1, ← v2]
  refine ⟨hf.1, fun c hc h3 h4 => ?_⟩
  obtain ⟨j, hj, rfl⟩ := List.mem_iff_getElem.1 hc
  rw [← getD_at l j hj] at h3 h4 ⊢
  have hji : i < j := by
    rcases Nat.lt_or_ge i j with h | h
    · exact h
    · have : (l.getD j z34).f0 ≤ s := upTo_lo j (by omega)
      omega
  have := upTo_hi (t := t) hr j (by omega) hj
  exact hf.2 _ (mem_getD hj) this (by omega)
theorem ans_spec {l : List S34} {len n fr : Int} (h : FitP l fr len n) :
    ((ansAt l len n fr).2 = 0 ∧ fr ≤ (ansAt l len n fr).1 ∧ (ansAt l len n fr).1 ≤ 1099511627776 ∧ n ≤ leastOf l (ansAt l len n fr).1 ((ansAt l len n fr).1 + len) ∧ ((ansAt l len n fr).1 = fr ∨ ∃ c ∈ l, c.f0 = (ansAt l len n fr).1) ∧
      ∀ e, fr ≤ e → e ≤ 1099511627776 → e < (ansAt l len n fr).1 → ¬ n ≤ leastOf l e (e + len)) ∨
    ((ansAt l len n fr).2 = 120 ∧ ∀ e, fr ≤ e → e ≤ 1099511627776 → ¬ n ≤ leastOf l e (e + len)) := by
  obtain ⟨hR, h1, h2, h3, h4, h5, h6⟩ := h
  have hr := right_rising hR
  have key : ∀ e, fr ≤ e → e ≤ 1099511627776 → n ≤ leastOf l e (e + len) → n ≤ leastOf l fr (fr + len) ∨ ∃ c ∈ l.drop (upTo l fr), fr < c.f0 ∧ c.f0 ≤ 1099511627776 ∧ c.f0 ≤ e ∧ n ≤ leastOf l c.f0 (c.f0 + len) := by
    intro e he hm hf
    have hp := right_upTo hR (t := e) (by omega)
    have hl := upTo_length l e
    obtain ⟨i, hi⟩ : ∃ i, upTo l e = i + 1 := ⟨upTo l e - 1, by omega⟩
    have hil : i < l.length := by omega
    have hlo : (l.getD i z34).f0 ≤ e := upTo_lo i (by omega)
    rcases Int.lt_or_le fr (l.getD i z34).f0 with hc | hc
    · right
      refine ⟨l.getD i z34, ?_, hc, by omega, hlo, fits_back hr hi (Int.le_refl _) hlo hf⟩
      have hu : upTo l fr ≤ i := by
        rcases Nat.lt_or_ge i (upTo l fr) with h | h
        · have : (l.getD i z34).f0 ≤ fr := upTo_lo i h
          omega
        · exact h
      rw [List.mem_iff_getElem]
      refine ⟨i - upTo l fr, by rw [List.length_drop]; omega, ?_⟩
      rw [List.getElem_drop, getD_at l i hil]
      congr 1
      omega
    · exact .inl (fits_back hr hi hc he hf)
  unfold ansAt
  rw [if_neg (by omega)]
  by_cases c : n ≤ leastOf l fr (fr + len)
  · rw [if_pos c]
    exact .inl ⟨rfl, Int.le_refl _, h2, c, .inl rfl, fun e h7 _ h8 => absurd h8 (by simp only; omega)⟩
  · rw [if_neg c]
    rcases fit_spec (l := l) (fr := fr) (len := len) (n := n) (l.drop (upTo l fr)) (rising_drop hr _) with ⟨e1, e2⟩ | ⟨d, hd, e1, e2, e3, e4, e5⟩
    · rw [e1]
      refine .inr ⟨rfl, fun e h7 h8 hf => ?_⟩
      rcases key e h7 h8 hf with h | ⟨c', hc', h9, h10, _, h11⟩
      · exact c h
      · exact e2 c' hc' h9 h10 h11
    · rw [e1]
      refine .inl ⟨rfl, Int.le_of_lt e2, e3, e4, .inr ⟨d, List.mem_of_mem_drop hd, rfl⟩, fun e h7 h8 h9 hf => ?_⟩
      rcases key e h7 h8 hf with h | ⟨c', hc', h10, h11, h12, h13⟩
      · exact c h
      · have := e5 c' hc' h10 h11 h13
        simp only at h9
        omega
theorem Least_yes {l : List S34} {a b : Int} (hW : WindowP l a b) : Ev (fun k => steps_Least.f k l a b) (leastOf l a b, 0) := by
  unfold steps_Least.f
  exact Ev.bind ((window_ev l a b).yes hW) (by simp only [if_true]; exact Ev.bind (least_ev hW.1 hW.2.1 hW.2.2.1) (Ev.now _))
theorem cut_loop (l : List S34) (t lv fr fl n : Int) (hl : l.length ≤ 4096) (hv : lv ≥ n) (ht : t ≥ fr) (d : Nat) : ∀ (i : Nat) (b : Bool), l.length - i = d → i ≤ l.length → (b = true ∨ ∃ c ∈ l.drop i, c.f0 = t) →
    Ev (fun k => musterlaw11_StepsEarliest.l0 k l t lv 0 b i fr fl n) true := by
  induction d with
  | zero =>
    intro i b hd hi hb
    have hb' : b = true := by
      rcases hb with h | ⟨c, hc, _⟩
      · exact h
      · rw [List.drop_of_length_le (by omega)] at hc
        cases hc
    subst hb'
    refine Ev.step (f := fun k => (musterlaw11_awake.f k).bind fun t => some t) (fun k => ?_) (Ev.bind awake_ev (Ev.now _))
    simp only [musterlaw11_StepsEarliest.l0]
    rw [if_neg (by omega), if_pos trivial, if_pos hv, if_pos ht, if_pos trivial]
  | succ d ih =>
    intro i b hd hi hb
    have hw := fun (_ : Unit) => wrap_succ i (by omega)
    cases b with
    | true =>
      refine Ev.step (fun k => ?_) (ih (i + 1) true (by omega) (by omega) (.inl rfl))
      simp only [musterlaw11_StepsEarliest.l0]
      rw [if_pos (by omega), if_pos trivial, hw ()]
    | false =>
      have hb2 : ((l.getD i z34).f0 == t) = true ∨ ∃ c ∈ l.drop (i + 1), c.f0 = t := by
        rcases hb with h | ⟨c, hc, h⟩
        · cases h
        · rw [List.drop_eq_getElem_cons (by omega), ← getD_at l i (by omega)] at hc
          rcases List.mem_cons.1 hc with rfl | hc
          · exact .inl (by rw [h]; simp)
          · exact .inr ⟨c, hc, h⟩
      refine Ev.step (fun k => ?_) (ih (i + 1) _ (by omega) (by omega) hb2)
      simp only [musterlaw11_StepsEarliest.l0]
      rw [if_pos (by omega), if_neg (by simp), if_pos (by omega), rd_nat, hw ()]
theorem earliest_ev (l : List S34) (fr fl n len early z : Int) : Ev (fun k => musterlaw11_StepsEarliest.f k l fr fl n len early z) true := by
  unfold musterlaw11_StepsEarliest.f
  have haw : Ev (fun k => (musterlaw11_awake.f k).bind fun t => some t) true := Ev.bind awake_ev (Ev.now _)
  by_cases hF : FitP l fr len n
  · refine Ev.bind (fit_yes hF) ?_
    have hspec := ans_spec hF
    obtain ⟨hR, h1, h2, h3, h4, h5, h6⟩ := hF
    generalize ansAt l len n fr = r at *
    obtain ⟨t, e⟩ := r
    simp only at hspec ⊢
    have he2 : ¬ e = 2 := by rcases hspec with h | h <;> omega
    simp only [if_neg he2]
    have hwrap : ∀ x : Int, 0 ≤ x → x ≤ 1099511627776 → wrap64 (x + len) = x + len := fun x _ _ => by unfold wrap64; omega
    have hj1 : Ev (fun k => musterlaw11_StepsEarliest.j1 k l t e fr fl n len early z) true := by
      rcases hspec with ⟨rfl, g1, g2, g3, g4, g5⟩ | ⟨rfl, _⟩
      · refine Ev.step (f := fun k => (steps_Least.f k l t (t + len)).bind fun b => musterlaw11_StepsEarliest.l0 k l t b.1 b.2 (t == fr) ((0 : Nat) : Int) fr fl n) (fun k => ?_) (Ev.bind (Least_yes (l := l) (a := t) (b := t + len) ⟨hR, by omega, by omega, by omega⟩) (f := fun k b => musterlaw11_StepsEarliest.l0 k l t b.1 b.2 (t == fr) ((0 : Nat) : Int) fr fl n) ?_)
        · simp only [musterlaw11_StepsEarliest.j1]
          rw [if_pos trivial, hwrap t (by omega) g2]
          rfl
        · refine cut_loop l t _ fr fl n hR.2.1 g3 g1 _ 0 _ rfl (by omega) ?_
          rcases g4 with rfl | ⟨c, hc, g6⟩
          · exact .inl (by simp)
          · exact .inr ⟨c, by simpa using hc, g6⟩
      · refine Ev.step (f := fun k => (musterlaw11_awake.f k).bind fun t => some t) (fun k => ?_) haw
        simp only [musterlaw11_StepsEarliest.j1]
        rw [if_neg (by omega)]
    have hj0f : Ev (fun k => musterlaw11_StepsEarliest.j0 k l t e early false fr fl n len early z) true := Ev.step (fun k => by simp only [musterlaw11_StepsEarliest.j0]; rw [if_neg (by simp)]) hj1
    by_cases c1 : early ≥ fr
    · simp only [if_pos c1]
      by_cases c2 : early ≤ 1099511627776
      · simp only [if_pos c2]
        have hj0t : ¬ n ≤ leastOf l early (early + len) → Ev (fun k => musterlaw11_StepsEarliest.j0 k l t e early true fr fl n len early z) true := fun hno => by
          refine Ev.step (f := fun k => (steps_Least.f k l early (early + len)).bind fun b => (if b.2 = 0 then (if b.1 ≥ n then (some false) else (musterlaw11_StepsEarliest.j1 k l t e fr fl n len early z)) else (some false))) (fun k => ?_) (Ev.bind (Least_yes (l := l) (a := early) (b := early + len) ⟨hR, by omega, by omega, by omega⟩) (f := fun k b => (if b.2 = 0 then (if b.1 ≥ n then (some false) else (musterlaw11_StepsEarliest.j1 k l t e fr fl n len early z)) else (some false))) ?_)
          · simp only [musterlaw11_StepsEarliest.j0]
            rw [if_pos trivial, hwrap early (by omega) c2]
          · simp only [if_true, if_neg (show ¬ leastOf l early (early + len) ≥ n from hno)]
            exact hj1
        rcases hspec with ⟨rfl, g1, g2, g3, g4, g5⟩ | ⟨rfl, g5⟩
        · simp only [if_true]
          by_cases c3 : early < t
          · simp only [decide_eq_true c3]
            exact hj0t (g5 early (by omega) c2 c3)
          · simp only [decide_eq_false c3]
            exact hj0f
        · simp only [if_neg (show ¬ (120 : Int) = 0 by omega)]
          exact hj0t (g5 early (by omega) c2)
      · simp only [if_neg c2]
        exact hj0f
    · simp only [if_neg c1]
      exact hj0f
  · refine Ev.bind (fit_no hF) ?_
    simp only [if_true]
    exact haw
end Go.Proofs.Yteipoopdnimiaaa.Q
