/-
  The earliest fit, in plain lists: the program's way and the document's come to the same.
-/
import Derived.Test.YteipoopdnimiaaaQ2
import Derived.Test.YteipoopdnimiaaaPr5
namespace Go.Proofs.Yteipoopdnimiaaa.Q
open Go.RowKit Go.Proofs.Yteipoopdnimiaaa.Pr Go.Proofs.YteipoopdnimiaaaW.PrintWords Go.Proofs.YteipoopdnimiaaaW.PrintLast
set_option linter.unusedVariables false
set_option linter.unusedSimpArgs false
theorem refLeast_cons (a b v : Int) (c : S34) (y : List S34) : refLeast a b v (c :: y) = refLeast a b (if c.f0 > a then if c.f0 < b then if c.f1 < v then c.f1 else v else v else v) y := rfl
theorem refLeast_ge (a b n : Int) : ∀ (y : List S34) (v : Int), n ≤ refLeast a b v y ↔ n ≤ v ∧ ∀ c ∈ y, a < c.f0 → c.f0 < b → n ≤ c.f1
  | [], v => by simp [refLeast]
  | c :: y, v => by
    rw [refLeast_cons, refLeast_ge a b n y]
    constructor
    · rintro ⟨h1, h2⟩
      have h3 : n ≤ v ∧ (a < c.f0 → c.f0 < b → n ≤ c.f1) := by
        split at h1
        · split at h1
          · split at h1
            · exact ⟨by omega, fun _ _ => h1⟩
            · exact ⟨h1, fun _ _ => by omega⟩
          · exact ⟨h1, fun _ _ => by omega⟩
        · exact ⟨h1, fun _ _ => by omega⟩
      exact ⟨h3.1, fun d hd => by
        rcases List.mem_cons.1 hd with rfl | hd
        · exact h3.2
        · exact h2 d hd⟩
    · rintro ⟨h1, h2⟩
      refine ⟨?_, fun d hd => h2 d (by simp [hd])⟩
      have h3 := h2 c (by simp)
      split
      · split
        · split
          · exact h3 (by omega) (by omega)
          · exact h1
        · exact h1
      · exact h1
theorem leastOf_ge {l : List S34} {a b n : Int} : n ≤ leastOf l a b ↔ n ≤ valueOf l a ∧ ∀ c ∈ l, a < c.f0 → c.f0 < b → n ≤ c.f1 := refLeast_ge a b n l _
theorem mem_getD {l : List S34} {j : Nat} (h : j < l.length) : l.getD j z34 ∈ l := by rw [getD_at l j h]; exact List.getElem_mem h
/-- The document's search, over the cuts that are left. -/
def fitSearch (l : List S34) (fr len n : Int) : List S34 → Int × Int
  | [] => (0, 120)
  | c :: y => if fr < c.f0 ∧ c.f0 ≤ 1099511627776 ∧ n ≤ leastOf l c.f0 (c.f0 + len) then (c.f0, 0) else fitSearch l fr len n y
theorem ref_fit_loop (l : List S34) (fr len n : Int) (hl : l.length ≤ 4096) (hlen : 1 ≤ len ∧ len ≤ 1099511627776) (hfr : 0 ≤ fr) (d : Nat) : ∀ i : Nat, l.length - i = d → i ≤ l.length → Ev (fun k => musterref11_Fit.l0 k l fr len n i) (fitSearch l fr len n (l.drop i)) := by
  induction d with
  | zero =>
    intro i hd hi
    refine Ev.step (f := fun _ => some (0, 120)) (fun k => ?_) ?_
    · simp only [musterref11_Fit.l0]
      rw [if_neg (by omega)]
    · rw [List.drop_of_length_le (by omega)]
      exact Ev.now _
  | succ d ih =>
    intro i hd hi
    have hw := wrap_succ i (by omega)
    have ih' := ih (i + 1) (by omega) (by omega)
    rw [List.drop_eq_getElem_cons (by omega), ← getD_at l i (by omega), fitSearch]
    by_cases c1 : (l.getD i z34).f0 > fr
    · by_cases c2 : (l.getD i z34).f0 ≤ 1099511627776
      · have hww : wrap64 ((l.getD i z34).f0 + len) = (l.getD i z34).f0 + len := by unfold wrap64; omega
        have he := ref_least_ev (l := l) (a := (l.getD i z34).f0) (b := (l.getD i z34).f0 + len) hl
        by_cases c3 : leastOf l (l.getD i z34).f0 ((l.getD i z34).f0 + len) ≥ n
        · rw [if_pos ⟨c1, c2, c3⟩]
          refine Ev.step (fun k => ?_) (Ev.bind he (f := fun k t => if t ≥ n then (some ((l.getD i z34).f0, 0)) else (musterref11_Fit.l0 k l fr len n ((i + 1 : Nat) : Int))) (by simp only [if_pos c3]; exact Ev.now _))
          simp only [musterref11_Fit.l0]
          rw [if_pos (by omega), if_pos (by omega), rd_nat, if_pos c1, if_pos c2, hww, hw]
        · rw [if_neg (by intro h; exact c3 h.2.2)]
          refine Ev.step (fun k => ?_) (Ev.bind he (f := fun k t => if t ≥ n then (some ((l.getD i z34).f0, 0)) else (musterref11_Fit.l0 k l fr len n ((i + 1 : Nat) : Int))) (by simp only [if_neg c3]; exact ih'))
          simp only [musterref11_Fit.l0]
          rw [if_pos (by omega), if_pos (by omega), rd_nat, if_pos c1, if_pos c2, hww, hw]
      · rw [if_neg (by intro h; exact c2 h.2.1)]
        refine Ev.step (fun k => ?_) ih'
        simp only [musterref11_Fit.l0]
        rw [if_pos (by omega), if_pos (by omega), rd_nat, if_pos c1, if_neg c2, hw]
    · rw [if_neg (by intro h; exact c1 h.1)]
      refine Ev.step (fun k => ?_) ih'
      simp only [musterref11_Fit.l0]
      rw [if_pos (by omega), if_pos (by omega), rd_nat, if_neg c1, hw]
/-! ### the program's way -/
def lowOf (te n : Int) : List S34 → Int → Int → Int
  | [], _, low => low
  | c :: y, i, low => if c.f0 < te then if c.f1 < n then lowOf te n y (i + 1) i else lowOf te n y (i + 1) low else low
/-- What the program does behind the scan. -/
def finish (k : Nat) (l : List S34) (len n t low : Int) : Option (Int × Int) :=
  if low < 0 then (some (t, 0)) else (if (wrap64 (low + 1)) = (l.length : Int) then (some (0, 120)) else (if 0 ≤ (wrap64 (low + 1)) then (if (wrap64 (low + 1)) < (l.length : Int) then (steps_Fit.l0 k l len n ((rd_T34 l (wrap64 (low + 1))).f0)) else (none)) else (none)))
theorem scan_loop (l : List S34) (len n t : Int) (r : Int × Int) (hl : l.length ≤ 4096) (ht : 0 ≤ t ∧ t ≤ 1099511627776) (hlen : 1 ≤ len ∧ len ≤ 1099511627776) (d : Nat) : ∀ (i : Nat) (low : Int), l.length - i = d → i ≤ l.length → Ev (fun k => finish k l len n t (lowOf (t + len) n (l.drop i) i low)) r → Ev (fun k => steps_Fit.l1 k l len n t low i) r := by
  have hww : wrap64 (t + len) = t + len := by unfold wrap64; omega
  have hfin : ∀ (i : Nat) (low : Int), Ev (fun k => finish k l len n t low) r → Ev (fun k => steps_Fit.j3 k l len n t low i false) r := fun i low h => by
    refine Ev.step (fun k => ?_) h
    simp only [steps_Fit.j3]
    rw [if_neg (by simp)]
    rfl
  induction d with
  | zero =>
    intro i low hd hi h
    rw [List.drop_of_length_le (by omega)] at h
    refine Ev.step (fun k => ?_) (hfin i low h)
    simp only [steps_Fit.l1]
    rw [if_neg (by omega)]
  | succ d ih =>
    intro i low hd hi h
    have hw := wrap_succ i (by omega)
    rw [List.drop_eq_getElem_cons (by omega), ← getD_at l i (by omega), lowOf] at h
    by_cases c1 : (l.getD i z34).f0 < t + len
    · rw [if_pos c1] at h
      have hi2 : ((i : Int) + 1) = ((i + 1 : Nat) : Int) := by omega
      rw [hi2] at h
      have hj : Ev (fun k => steps_Fit.j3 k l len n t low i true) r := by
        by_cases c2 : (l.getD i z34).f1 < n
        · rw [if_pos c2] at h
          refine Ev.step (fun k => ?_) (ih (i + 1) i (by omega) (by omega) h)
          simp only [steps_Fit.j3]
          rw [if_pos trivial, if_pos (by omega), if_pos (by omega), rd_nat, if_pos c2, hw]
        · rw [if_neg c2] at h
          refine Ev.step (fun k => ?_) (ih (i + 1) low (by omega) (by omega) h)
          simp only [steps_Fit.j3]
          rw [if_pos trivial, if_pos (by omega), if_pos (by omega), rd_nat, if_neg c2, hw]
      refine Ev.step (fun k => ?_) hj
      simp only [steps_Fit.l1]
      rw [if_pos (by omega), if_pos (by omega), rd_nat, hww, decide_eq_true c1]
    · rw [if_neg c1] at h
      refine Ev.step (fun k => ?_) (hfin i low h)
      simp only [steps_Fit.l1]
      rw [if_pos (by omega), if_pos (by omega), rd_nat, hww, decide_eq_false c1]
/-- What a scan tells. -/
theorem lowOf_spec (l : List S34) (te n : Int) (d : Nat) : ∀ (i : Nat) (low : Int), l.length - i = d → i ≤ l.length → low < i →
    (lowOf te n (l.drop i) i low = low ∧ ∀ c ∈ (l.drop i).takeWhile (fun c => decide (c.f0 < te)), n ≤ c.f1) ∨
    ∃ j : Nat, i ≤ j ∧ j < l.length ∧ lowOf te n (l.drop i) i low = j ∧ (l.getD j z34).f0 < te ∧ (l.getD j z34).f1 < n := by
  induction d with
  | zero =>
    intro i low hd hi hlow
    rw [List.drop_of_length_le (by omega)]
    exact .inl ⟨rfl, by simp⟩
  | succ d ih =>
    intro i low hd hi hlow
    rw [List.drop_eq_getElem_cons (by omega), ← getD_at l i (by omega), lowOf]
    have hi2 : ((i : Int) + 1) = ((i + 1 : Nat) : Int) := by omega
    by_cases c1 : (l.getD i z34).f0 < te
    · rw [if_pos c1, hi2]
      by_cases c2 : (l.getD i z34).f1 < n
      · rw [if_pos c2]
        right
        rcases ih (i + 1) i (by omega) (by omega) (by omega) with ⟨h1, _⟩ | ⟨j, h1, h2, h3, h4, h5⟩
        · exact ⟨i, Nat.le_refl _, by omega, h1, c1, c2⟩
        · exact ⟨j, by omega, h2, h3, h4, h5⟩
      · rw [if_neg c2]
        rcases ih (i + 1) low (by omega) (by omega) (by omega) with ⟨h1, h0⟩ | ⟨j, h1, h2, h3, h4, h5⟩
        · left
          refine ⟨h1, ?_⟩
          rw [List.takeWhile_cons_of_pos (by simp only [decide_eq_true_eq]; exact c1)]
          intro c hc
          rcases List.mem_cons.1 hc with rfl | hc
          · omega
          · exact h0 c hc
        · right
          exact ⟨j, by omega, h2, h3, h4, h5⟩
    · rw [if_neg c1]
      left
      refine ⟨rfl, ?_⟩
      rw [List.takeWhile_cons_of_neg (by simp only [decide_eq_true_eq]; exact c1)]
      simp
theorem fold_mn_ge (n : Int) : ∀ (y : List S34) (v : Int), n ≤ y.foldl (fun v c => mn v c.f1) v ↔ n ≤ v ∧ ∀ c ∈ y, n ≤ c.f1
  | [], v => by simp
  | c :: y, v => by
    rw [List.foldl_cons, fold_mn_ge n y]
    have hm : n ≤ mn v c.f1 ↔ n ≤ v ∧ n ≤ c.f1 := by unfold mn; split <;> omega
    rw [hm]
    simp only [List.mem_cons, forall_eq_or_imp]
    exact ⟨fun h => ⟨h.1.1, h.1.2, h.2⟩, fun h => ⟨⟨h.1, h.2.1⟩, h.2.2⟩⟩
/-- The document's answer from a time on. -/
def ansAt (l : List S34) (len n t : Int) : Int × Int :=
  if 1099511627776 < t then (0, 120) else if n ≤ leastOf l t (t + len) then (t, 0) else fitSearch l t len n (l.drop (upTo l t))
theorem fit_far {l : List S34} {fr len n : Int} : ∀ y : List S34, (∀ c ∈ y, 1099511627776 < c.f0) → fitSearch l fr len n y = (0, 120)
  | [], _ => rfl
  | c :: y, h => by
    rw [fitSearch, if_neg (by intro h2; have := h c (by simp); omega)]
    exact fit_far y fun c hc => h c (by simp [hc])
theorem fit_skip {l : List S34} {fr len n : Int} : ∀ y z : List S34, (∀ c ∈ y, ¬ n ≤ leastOf l c.f0 (c.f0 + len)) → fitSearch l fr len n (y ++ z) = fitSearch l fr len n z
  | [], _, _ => rfl
  | c :: y, z, h => by
    rw [List.cons_append, fitSearch, if_neg (by intro h2; exact h c (by simp) h2.2.2)]
    exact fit_skip y z fun c hc => h c (by simp [hc])
theorem fit_from {l : List S34} {fr fr' len n : Int} : ∀ y : List S34, (∀ c ∈ y, fr < c.f0 ∧ fr' < c.f0) → fitSearch l fr len n y = fitSearch l fr' len n y
  | [], _ => rfl
  | c :: y, h => by
    rw [fitSearch, fitSearch, fit_from y fun c hc => h c (by simp [hc])]
    have := h c (by simp)
    by_cases h2 : c.f0 ≤ 1099511627776 ∧ n ≤ leastOf l c.f0 (c.f0 + len)
    · rw [if_pos ⟨this.1, h2⟩, if_pos ⟨this.2, h2⟩]
    · rw [if_neg (fun h => h2 h.2), if_neg (fun h => h2 h.2)]
theorem upTo_cut {l : List S34} (hr : rising l = true) {m : Nat} (hm : m < l.length) : upTo l (l.getD m z34).f0 = m + 1 := by
  refine upTo_of _ (m + 1) hm (fun i hi => ?_) (fun i hi hn => ?_)
  · rcases Nat.lt_or_eq_of_le (Nat.le_of_lt_succ hi) with h | rfl
    · have := rising_lt hr i m h hm
      omega
    · omega
  · exact rising_lt hr m i (by omega) hn
theorem skip_cuts {l : List S34} {len n t : Int} {i j : Nat} (hr : rising l = true) (hi : upTo l t = i + 1) (h2 : j < l.length) (h4 : (l.getD j z34).f0 < t + len) (h5 : (l.getD j z34).f1 < n) :
    ∀ c ∈ (l.drop (i + 1)).take (j - i), ¬ n ≤ leastOf l c.f0 (c.f0 + len) := by
  intro c hc hfit
  obtain ⟨q, hq, rfl⟩ := List.mem_iff_getElem.1 hc
  rw [List.length_take, List.length_drop] at hq
  have hql : i + 1 + q < l.length := by omega
  have e : ((l.drop (i + 1)).take (j - i))[q] = l.getD (i + 1 + q) z34 := by
    rw [getD_at l _ hql]
    simp
  rw [e] at hfit
  rw [leastOf_ge] at hfit
  have hgt := upTo_hi (t := t) hr (i + 1 + q) (by omega) hql
  rcases Nat.lt_or_ge (i + 1 + q) j with hlt | hge
  · have h6 := rising_lt hr (i + 1 + q) j hlt h2
    have := hfit.2 _ (mem_getD h2) h6 (by omega)
    omega
  · have e2 : i + 1 + q = j := by omega
    have hv := value_at (t := (l.getD j z34).f0) hr (by rw [upTo_cut hr h2]; omega)
    rw [upTo_cut hr h2, Nat.add_sub_cancel] at hv
    rw [e2, hv] at hfit
    have := hfit.1
    omega
theorem fit_loop (l : List S34) (len n : Int) (hR : RightP l) (hlen : 1 ≤ len ∧ len ≤ 1099511627776) (d : Nat) : ∀ t : Int, l.length - upTo l t ≤ d → 0 ≤ t → Ev (fun k => steps_Fit.l0 k l len n t) (ansAt l len n t) := by
  have hr := right_rising hR
  have hl := hR.2.1
  induction d using Nat.strongRecOn with
  | _ d ih =>
  intro t hd ht
  have hp := right_upTo hR ht
  have hul := upTo_length l t
  unfold ansAt
  by_cases c1 : 1099511627776 < t
  · rw [if_pos c1]
    refine Ev.step (f := fun _ => some (0, 120)) (fun k => ?_) (Ev.now _)
    simp only [steps_Fit.l0]
    rw [if_neg (by omega)]
  · rw [if_neg c1]
    obtain ⟨i, hi⟩ : ∃ i, upTo l t = i + 1 := ⟨upTo l t - 1, by omega⟩
    have hL := leasts_at hr hp (show t < t + len by omega)
    rw [hi, Nat.add_sub_cancel] at hL
    have hil : i < l.length := by omega
    have hlo : (l.getD i z34).f0 ≤ t := upTo_lo i (by omega)
    refine Ev.step (f := fun k => steps_Fit.l1 k l len n t (-1) (i : Int)) (fun k => ?_) ?_
    · simp only [steps_Fit.l0]
      rw [if_pos (by omega), place_some hr, hi]
      simp only [Option.bind_some]
      rw [show ((i + 1 : Nat) : Int) - 1 = (i : Int) by omega]
    refine scan_loop l len n t _ hl ⟨ht, by omega⟩ hlen _ i (-1) rfl (by omega) ?_
    rcases lowOf_spec l (t + len) n _ i (-1) rfl (by omega) (by omega) with ⟨h1, h2⟩ | ⟨j, h1, h2, h3, h4, h5⟩
    · have hfit : n ≤ leastOf l t (t + len) := by
        rw [← hL]
        unfold leastW
        rw [fold_mn_ge]
        refine ⟨h2 _ ?_, h2⟩
        rw [List.drop_eq_getElem_cons hil, ← getD_at l i hil, List.takeWhile_cons_of_pos (by simp only [decide_eq_true_eq]; omega)]
        simp
      rw [if_pos hfit, h1]
      exact Ev.now _
    · have hval : valueOf l t = (l.getD i z34).f1 := by
        have := value_at hr hp
        rwa [hi, Nat.add_sub_cancel] at this
      have hnofit : ¬ n ≤ leastOf l t (t + len) := by
        intro h
        rw [leastOf_ge] at h
        rcases Nat.eq_or_lt_of_le h1 with rfl | hij
        · rw [hval] at h
          omega
        · have := upTo_hi (t := t) hr j (by omega) h2
          have := h.2 _ (mem_getD h2) this h4
          omega
      rw [if_neg hnofit, h3, hi]
      clear hL hval hnofit h3
      have hjw : ∀ _ : Unit, wrap64 ((j : Int) + 1) = ((j + 1 : Nat) : Int) := fun _ => wrap_succ j (by omega)
      -- the cuts up to j do not fit
      have hskip := skip_cuts hr (i := i) (j := j) (by rw [hi]) h2 h4 h5 (len := len) (t := t)
      have hsplit : fitSearch l t len n (l.drop (i + 1)) = fitSearch l t len n (l.drop (j + 1)) := by
        conv => lhs; rw [← List.take_append_drop (j - i) (l.drop (i + 1))]
        rw [fit_skip _ _ hskip, List.drop_drop, show i + 1 + (j - i) = j + 1 by omega]
      rw [hsplit]
      by_cases hend : j + 1 = l.length
      · rw [List.drop_of_length_le (by omega)]
        refine Ev.congr (f := fun _ => some (0, 120)) (fun k => ?_) (Ev.now _)
        unfold finish
        rw [if_neg (by omega), hjw (), if_pos (by omega)]
      · have hj1 : j + 1 < l.length := by omega
        have hut := upTo_cut hr hj1
        have hgt : t < (l.getD (j + 1) z34).f0 := upTo_hi hr (j + 1) (by omega) hj1
        have hrec := ih (l.length - (j + 2)) (by omega) (l.getD (j + 1) z34).f0 (by rw [hut]; exact Nat.le_refl _) (by omega)
        refine Ev.congr (f := fun k => steps_Fit.l0 k l len n (l.getD (j + 1) z34).f0) (fun k => ?_) ?_
        · unfold finish
          rw [if_neg (by omega), hjw (), if_neg (by omega), if_pos (by omega), if_pos (by omega), rd_nat]
        · have e : ansAt l len n (l.getD (j + 1) z34).f0 = fitSearch l t len n (l.drop (j + 1)) := by
            unfold ansAt
            rw [hut, List.drop_eq_getElem_cons hj1, ← getD_at l (j + 1) hj1, fitSearch]
            have hgo : fitSearch l (l.getD (j + 1) z34).f0 len n (l.drop (j + 1 + 1)) = fitSearch l t len n (l.drop (j + 1 + 1)) := by
              refine fit_from _ fun c hc => ?_
              obtain ⟨q, hq, rfl⟩ := List.mem_iff_getElem.1 hc
              rw [List.length_drop] at hq
              have := rising_lt hr (j + 1) (j + 1 + 1 + q) (by omega) (by omega)
              rw [getD_at l (j + 1 + 1 + q) (by omega)] at this
              simp only [List.getElem_drop]
              omega
            by_cases c3 : 1099511627776 < (l.getD (j + 1) z34).f0
            · rw [if_pos c3, if_neg (by omega)]
              symm
              refine fit_far _ fun c hc => ?_
              obtain ⟨q, hq, rfl⟩ := List.mem_iff_getElem.1 hc
              rw [List.length_drop] at hq
              have := rising_lt hr (j + 1) (j + 1 + 1 + q) (by omega) (by omega)
              rw [getD_at l (j + 1 + 1 + q) (by omega)] at this
              simp only [List.getElem_drop]
              omega
            · rw [if_neg c3]
              by_cases c4 : n ≤ leastOf l (l.getD (j + 1) z34).f0 ((l.getD (j + 1) z34).f0 + len)
              · rw [if_pos c4, if_pos ⟨hgt, by omega, c4⟩]
              · rw [if_neg c4, if_neg (fun h => c4 h.2.2), hgo]
          rw [← e]
          exact hrec
/-- What may be asked of Fit. -/
def FitP (l : List S34) (fr len n : Int) : Prop := RightP l ∧ 0 ≤ fr ∧ fr ≤ 1099511627776 ∧ 1 ≤ len ∧ len ≤ 1099511627776 ∧ 0 ≤ n ∧ n ≤ 1073741824
theorem fit_no {l : List S34} {fr len n : Int} (h : ¬ FitP l fr len n) : Ev (fun k => steps_Fit.f k l fr len n) (0, 2) := by
  have hj : Ev (fun k => steps_Fit.j0 k l fr len n true) (0, 2) := Ev.step (f := fun _ => some (0, 2)) (fun k => by simp only [steps_Fit.j0]; rfl) (Ev.now _)
  unfold steps_Fit.f
  by_cases c1 : fr < 0
  · simp only [if_pos c1]; exact hj
  · simp only [if_neg c1]
    by_cases c2 : fr > 1099511627776
    · simp only [if_pos c2]; exact hj
    · simp only [if_neg c2]
      by_cases c3 : len < 1
      · simp only [if_pos c3]; exact hj
      · simp only [if_neg c3]
        by_cases c4 : len > 1099511627776
        · simp only [if_pos c4]; exact hj
        · simp only [if_neg c4]
          by_cases c5 : n < 0
          · simp only [if_pos c5]; exact hj
          · simp only [if_neg c5]
            by_cases c6 : n > 1073741824
            · simp only [if_pos c6]; exact hj
            · simp only [if_neg c6]
              have hR : ¬ RightP l := fun hR => h ⟨hR, by omega, by omega, by omega, by omega, by omega, by omega⟩
              exact Ev.bind ((right_ev l).no hR) (by simp only [Bool.not_false]; exact hj)
theorem fit_yes {l : List S34} {fr len n : Int} (h : FitP l fr len n) : Ev (fun k => steps_Fit.f k l fr len n) (ansAt l len n fr) := by
  obtain ⟨hR, h1, h2, h3, h4, h5, h6⟩ := h
  unfold steps_Fit.f
  simp only [if_neg (show ¬ fr < 0 by omega), if_neg (show ¬ fr > 1099511627776 by omega), if_neg (show ¬ len < 1 by omega), if_neg (show ¬ len > 1099511627776 by omega), if_neg (show ¬ n < 0 by omega), if_neg (show ¬ n > 1073741824 by omega)]
  refine Ev.bind ((right_ev l).yes hR) ?_
  refine Ev.step (f := fun k => steps_Fit.l0 k l len n fr) (fun k => ?_) (fit_loop l len n hR ⟨h3, h4⟩ _ fr (Nat.le_refl _) h1)
  simp only [Bool.not_true, steps_Fit.j0]
  rfl
theorem ref_fit_no {l : List S34} {fr len n : Int} (h : ¬ FitP l fr len n) : Ev (fun k => musterref11_Fit.f k l fr len n) (0, 2) := by
  have hj : Ev (fun k => musterref11_Fit.j0 k l fr len n true) (0, 2) := Ev.step (f := fun _ => some (0, 2)) (fun k => by simp only [musterref11_Fit.j0]; rfl) (Ev.now _)
  unfold musterref11_Fit.f
  by_cases hR : RightP l
  · refine Ev.bind ((ref_right_ev l).yes hR) ?_
    simp only [if_true]
    by_cases c1 : fr < 0
    · simp only [if_pos c1]; exact hj
    · simp only [if_neg c1]
      by_cases c2 : fr > 1099511627776
      · simp only [if_pos c2]; exact hj
      · simp only [if_neg c2]
        by_cases c3 : len < 1
        · simp only [if_pos c3]; exact hj
        · simp only [if_neg c3]
          by_cases c4 : len > 1099511627776
          · simp only [if_pos c4]; exact hj
          · simp only [if_neg c4]
            by_cases c5 : n < 0
            · simp only [if_pos c5]; exact hj
            · simp only [if_neg c5]
              have c6 : n > 1073741824 := by
                by_cases c6 : n > 1073741824
                · exact c6
                · exact absurd ⟨hR, by omega, by omega, by omega, by omega, by omega, by omega⟩ h
              rw [decide_eq_true c6]
              exact hj
  · refine Ev.bind ((ref_right_ev l).no hR) ?_
    simp only [Bool.false_eq_true, if_false]
    exact hj
theorem ref_fit_yes {l : List S34} {fr len n : Int} (h : FitP l fr len n) : Ev (fun k => musterref11_Fit.f k l fr len n) (ansAt l len n fr) := by
  obtain ⟨hR, h1, h2, h3, h4, h5, h6⟩ := h
  have hr := right_rising hR
  unfold musterref11_Fit.f
  refine Ev.bind ((ref_right_ev l).yes hR) ?_
  simp only [if_true, if_neg (show ¬ fr < 0 by omega), if_neg (show ¬ fr > 1099511627776 by omega), if_neg (show ¬ len < 1 by omega), if_neg (show ¬ len > 1099511627776 by omega), if_neg (show ¬ n < 0 by omega), decide_eq_false (show ¬ n > 1073741824 by omega)]
  have hww : wrap64 (fr + len) = fr + len := by unfold wrap64; omega
  refine Ev.step (f := fun k => (musterref11_least.f k l fr (fr + len)).bind fun t => (if t ≥ n then (some (fr, 0)) else (musterref11_Fit.l0 k l fr len n ((0 : Nat) : Int)))) (fun k => ?_) (Ev.bind (ref_least_ev (l := l) (a := fr) (b := fr + len) hR.2.1) (f := fun k t => (if t ≥ n then (some (fr, 0)) else (musterref11_Fit.l0 k l fr len n ((0 : Nat) : Int)))) ?_)
  · simp only [musterref11_Fit.j0]
    rw [if_neg (by simp), hww]
    rfl
  · clear hww
    unfold ansAt
    rw [if_neg (by omega)]
    by_cases c : n ≤ leastOf l fr (fr + len)
    · simp only [if_pos c]
      exact Ev.now _
    · simp only [if_neg c]
      have e : fitSearch l fr len n (l.drop (upTo l fr)) = fitSearch l fr len n l := by
        symm
        have hs : ∀ y : List S34, (∀ d ∈ y, d.f0 ≤ fr) → ∀ z, fitSearch l fr len n (y ++ z) = fitSearch l fr len n z := by
          intro y
          induction y with
          | nil => intro _ z; rfl
          | cons d y ih =>
            intro hd z
            rw [List.cons_append, fitSearch, if_neg (by intro h; have := hd d (by simp); omega)]
            exact ih (fun d' hd' => hd d' (by simp [hd'])) z
        rw [show fitSearch l fr len n l = fitSearch l fr len n (l.take (upTo l fr) ++ l.drop (upTo l fr)) by rw [List.take_append_drop]]
        refine hs _ (fun d hd => ?_) _
        obtain ⟨j, hj, rfl⟩ := List.mem_iff_getElem.1 hd
        rw [List.length_take] at hj
        have := upTo_lo (l := l) (t := fr) j (by omega)
        rw [getD_at l j (by omega)] at this
        simpa using this
      rw [e]
      have := ref_fit_loop l fr len n hR.2.1 ⟨h3, h4⟩ h1 _ 0 rfl (by omega)
      simpa using this
theorem Fit_ev (l : List S34) (fr len n : Int) : ∃ r, Ev (fun k => steps_Fit.f k l fr len n) r ∧ Ev (fun k => musterref11_Fit.f k l fr len n) r := by
  by_cases h : FitP l fr len n
  · exact ⟨_, fit_yes h, ref_fit_yes h⟩
  · exact ⟨_, fit_no h, ref_fit_no h⟩
end Go.Proofs.Yteipoopdnimiaaa.Q
