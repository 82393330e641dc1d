/-
  What Look and Done leave of the clients, in plain lists.
-/
import Derived.Test.YtafnjlgdjhegaaaHDone
namespace Go.Proofs.Ytafnjlgdjhegaaa.Pr
open Go.RowKit Go.Proofs.YtafnjlgdjhegaaaW.PrintWords Go.Proofs.YtafnjlgdjhegaaaW.PrintLast
set_option linter.unusedVariables false
set_option linter.unusedSimpArgs false
/-- The client of a number. -/
def at44 (l : List S44) (cl : Int) : Option S44 := l.find? fun c => decide (c.f0 = cl)
def RightP (l : List S44) : Prop := rightB l = true ∧ small44 l
theorem right_len {l : List S44} (h : rightB l = true) : l.length ≤ 16 ∧ rises 0 (l.map S44.f0) = true ∧ ∀ c ∈ l, wrongB c = false := by
  unfold rightB at h
  simp only [Bool.and_eq_true, decide_eq_true_eq, Bool.not_eq_true'] at h
  exact ⟨h.1.1, h.1.2, fun c hc => by simpa using List.any_eq_false.1 h.2 c hc⟩
theorem right_of {l : List S44} (h1 : l.length ≤ 16) (h2 : rises 0 (l.map S44.f0) = true) (h3 : ∀ c ∈ l, wrongB c = false) : rightB l = true := by
  unfold rightB
  simp only [Bool.and_eq_true, decide_eq_true_eq, Bool.not_eq_true']
  exact ⟨⟨h1, h2⟩, List.any_eq_false.2 fun c hc => by simp [h3 c hc]⟩
theorem wrong_iff {c : S44} : wrongB c = false ↔ 0 ≤ c.f1 ∧ c.f1 ≤ 4611686018427387904 ∧ c.f2.length ≤ 8 ∧ rises c.f1 (c.f2.map S46.f0) = true := by
  unfold wrongB
  simp only [Bool.or_eq_false_iff, decide_eq_false_iff_not, Bool.not_eq_false']
  constructor
  · rintro ⟨⟨⟨h1, h2⟩, h3⟩, h4⟩
    exact ⟨by omega, by omega, by omega, h4⟩
  · rintro ⟨h1, h2, h3, h4⟩
    exact ⟨⟨⟨by omega, by omega⟩, by omega⟩, h4⟩
/-- How many are below, told by its two sides. -/
theorem under_sides {T : List Int} (h : T.Pairwise (· < ·)) (n : Int) : under T n ≤ T.length ∧ (∀ j, j < under T n → T.getD j 0 < n) ∧ ∀ j, under T n ≤ j → j < T.length → n ≤ T.getD j 0 := by
  induction T with
  | nil => exact ⟨by simp [under], fun j hj => by simp [under] at hj, fun j _ hj => by simp at hj⟩
  | cons a T ih =>
    rw [List.pairwise_cons] at h
    obtain ⟨i1, i2, i3⟩ := ih h.2
    unfold under at i1 i2 i3 ⊢
    by_cases ha : a < n
    · rw [List.takeWhile_cons_of_pos (by simpa using ha)]
      refine ⟨by simpa using i1, fun j hj => ?_, fun j h1 h2 => ?_⟩
      · cases j with
        | zero => simpa using ha
        | succ j => simpa using i2 j (by simpa using hj)
      · cases j with
        | zero => simp at h1
        | succ j => simpa using i3 j (by simpa using h1) (by simpa using h2)
    · rw [List.takeWhile_cons_of_neg (by simpa using ha)]
      refine ⟨by simp, fun j hj => by simp at hj, fun j h1 h2 => ?_⟩
      cases j with
      | zero => simp; omega
      | succ j =>
        have hj : j < T.length := by simpa using h2
        have := h.1 (T[j]) (List.getElem_mem hj)
        simp [List.getD_eq_getElem?_getD, hj]
        omega
theorem hasN_iff {T : List Int} (h : T.Pairwise (· < ·)) (n : Int) : hasN T n = true ↔ n ∈ T := by
  obtain ⟨h1, h2, h3⟩ := under_sides h n
  unfold hasN
  simp only [Bool.and_eq_true, decide_eq_true_eq]
  constructor
  · rintro ⟨h4, h5⟩
    rw [← h5, List.getD_eq_getElem?_getD, List.getElem?_eq_getElem h4]
    exact List.getElem_mem h4
  · intro hn
    obtain ⟨j, hj, rfl⟩ := List.mem_iff_getElem.1 hn
    have hg : ∀ i (hi : i < T.length), T.getD i 0 = T[i] := fun i hi => by simp [List.getD_eq_getElem?_getD, hi]
    have ej : under T T[j] = j := by
      rcases Nat.lt_trichotomy j (under T T[j]) with hlt | he | hgt
      · have := h2 j hlt
        rw [hg j hj] at this
        omega
      · exact he.symm
      · have h5 := h3 (under T T[j]) (Nat.le_refl _) (by omega)
        rw [hg _ (by omega)] at h5
        have := List.pairwise_iff_getElem.1 h (under T T[j]) j (by omega) hj hgt
        omega
    exact ⟨by omega, by rw [ej, hg j hj]⟩
theorem getD_ids (l : List S44) (i : Nat) (h : i < l.length) : (l.map S44.f0).getD i 0 = (l.getD i z44).f0 := by simp [List.getD_eq_getElem?_getD, h]
/-- Which clients there are behind one was put in its place. -/
theorem mem_put {L : List S44} {i : Nat} {c' : S44} {cl : Int} (hr : (L.map S44.f0).Pairwise (· < ·)) (hi : i < L.length) (hc : (L.getD i z44).f0 = cl) (c : S44) : c ∈ L.set i c' ↔ c = c' ∨ (c ∈ L ∧ c.f0 ≠ cl) := by
  rw [getD44_at L i hi] at hc
  have hp : ∀ a b (ha : a < L.length) (hb : b < L.length), a < b → L[a].f0 < L[b].f0 := fun a b ha hb hab => by
    have := List.pairwise_iff_getElem.1 hr a b (by simpa using ha) (by simpa using hb) hab
    simpa using this
  constructor
  · intro h
    obtain ⟨j, hj, rfl⟩ := List.mem_iff_getElem.1 h
    rw [List.length_set] at hj
    by_cases e : i = j
    · subst e
      exact .inl (by simp)
    · rw [List.getElem_set_ne e]
      refine .inr ⟨List.getElem_mem hj, fun h2 => ?_⟩
      rcases Nat.lt_or_gt_of_ne e with h3 | h3
      · have := hp i j hi hj h3; omega
      · have := hp j i hj hi h3; omega
  · rintro (rfl | ⟨h, hne⟩)
    · exact List.mem_set hi _
    · obtain ⟨j, hj, rfl⟩ := List.mem_iff_getElem.1 h
      have e : i ≠ j := fun e => hne (by subst e; exact hc)
      rw [List.mem_iff_getElem]
      exact ⟨j, by rw [List.length_set]; exact hj, by rw [List.getElem_set_ne e]⟩
/-- The clients with one that is known: it stands at its place, in order. -/
theorem with_place {l : List S44} (h : (l.map S44.f0).Pairwise (· < ·)) (cl : Int) :
    under (l.map S44.f0) cl < (withCl l cl).length ∧ ((withCl l cl).getD (under (l.map S44.f0) cl) z44).f0 = cl ∧ ((withCl l cl).map S44.f0).Pairwise (· < ·) ∧ (∀ c, c.f0 ≠ cl → (c ∈ withCl l cl ↔ c ∈ l)) ∧
      (∀ c ∈ l, c.f0 = cl → (withCl l cl).getD (under (l.map S44.f0) cl) z44 = c) ∧ ((∀ c ∈ l, c.f0 ≠ cl) → (withCl l cl).getD (under (l.map S44.f0) cl) z44 = ⟨cl, 0, []⟩) ∧ (withCl l cl).length = l.length + (if hasN (l.map S44.f0) cl = true then 0 else 1) := by
  obtain ⟨h1, h2, h3⟩ := under_sides h cl
  have hN := hasN_iff h cl
  obtain ⟨i, hi⟩ : ∃ i, under (l.map S44.f0) cl = i := ⟨_, rfl⟩
  rw [List.length_map] at h1 h3
  have hp : ∀ a b (ha : a < l.length) (hb : b < l.length), a < b → l[a].f0 < l[b].f0 := fun a b ha hb hab => by
    have := List.pairwise_iff_getElem.1 h a b (by simpa using ha) (by simpa using hb) hab
    simpa using this
  cases hb : hasN (l.map S44.f0) cl with
  | true =>
    have hd := hb
    unfold hasN at hd
    rw [hi] at hd
    simp only [Bool.and_eq_true, decide_eq_true_eq, List.length_map] at hd
    have e : withCl l cl = l := by unfold withCl; rw [if_pos hb]
    rw [e, hi]
    have hc := hd.2
    rw [getD_ids l i hd.1] at hc
    refine ⟨hd.1, hc, h, fun c _ => Iff.rfl, fun c hcm hcc => ?_, fun hno => absurd hc (hno _ (by rw [getD44_at l i hd.1]; exact List.getElem_mem _)), by simp⟩
    obtain ⟨j, hj, rfl⟩ := List.mem_iff_getElem.1 hcm
    rw [getD44_at l i hd.1] at hc ⊢
    rcases Nat.lt_trichotomy i j with h4 | h4 | h4
    · have := hp i j hd.1 hj h4; omega
    · subst h4; rfl
    · have := hp j i hj hd.1 h4; omega
  | false =>
    have hno : ∀ c ∈ l, c.f0 ≠ cl := fun c hc e => by
      have := hN.2 (List.mem_map.2 ⟨c, hc, e⟩)
      rw [hb] at this
      cases this
    have e : withCl l cl = l.take i ++ [⟨cl, 0, []⟩] ++ l.drop i := by unfold withCl; rw [if_neg (by rw [hb]; simp), hi]
    rw [hi] at h1 h2 h3
    rw [e, hi]
    have hg : (l.take i ++ [(⟨cl, 0, []⟩ : S44)] ++ l.drop i).getD i z44 = ⟨cl, 0, []⟩ := by rw [List.getD_eq_getElem?_getD, ins_getElem? l _ i i h1, if_neg (by omega), if_pos rfl]; rfl
    have hlo : ∀ c ∈ l.take i, c.f0 < cl := fun c hc => by
      obtain ⟨j, hj, rfl⟩ := List.mem_iff_getElem.1 hc
      rw [List.length_take] at hj
      have := h2 j (by omega)
      rw [getD_ids l j (by omega), getD44_at l j (by omega)] at this
      simpa using this
    have hhi : ∀ c ∈ l.drop i, cl < c.f0 := fun c hc => by
      obtain ⟨j, hj, rfl⟩ := List.mem_iff_getElem.1 hc
      rw [List.length_drop] at hj
      have := h3 (i + j) (by omega) (by omega)
      rw [getD_ids l _ (by omega), getD44_at l _ (by omega)] at this
      have h5 := hno l[i + j] (List.getElem_mem _)
      simp only [List.getElem_drop]
      omega
    refine ⟨by simp; omega, by rw [hg], ?_, fun c hc => ?_, fun c hcm hcc => absurd hcc (hno c hcm), fun _ => hg, by simp; omega⟩
    · have hh := h
      rw [← List.take_append_drop i l, List.map_append, List.pairwise_append] at hh
      obtain ⟨p1, p2, p3⟩ := hh
      rw [List.map_append, List.map_append, List.pairwise_append, List.pairwise_append]
      refine ⟨⟨p1, by simp, fun a ha b hb => ?_⟩, p2, fun a ha b hbm => ?_⟩
      · simp only [List.map_cons, List.map_nil, List.mem_singleton] at hb
        subst hb
        obtain ⟨c, hc, rfl⟩ := List.mem_map.1 ha
        exact hlo c hc
      · rcases List.mem_append.1 ha with ha | ha
        · exact p3 a ha b hbm
        · simp only [List.map_cons, List.map_nil, List.mem_singleton] at ha
          rw [ha]
          obtain ⟨c, hc, rfl⟩ := List.mem_map.1 hbm
          exact hhi c hc
    · conv => rhs; rw [← List.take_append_drop i l]
      simp only [List.mem_append, List.mem_singleton]
      constructor
      · rintro ((h | h) | h)
        · exact .inl h
        · subst h; exact absurd rfl hc
        · exact .inr h
      · rintro (h | h)
        · exact .inl (.inl h)
        · exact .inr h
end Go.Proofs.Ytafnjlgdjhegaaa.Pr
