/-
  Texts of this session, laid together by wip/tools/merge.py: Q1, Q2, Q3.
-/
import Derived.Test.YtafnjlgdjhegaaaHDone
section
namespace Go.Proofs.Ytafnjlgdjhegaaa.Pr
open Go.RowKit Go.Proofs.YtafnjlgdjhegaaaW.PrintWords Go.Proofs.YtafnjlgdjhegaaaW.PrintLast
set_option linter.unusedVariables false
set_option linter.unusedSimpArgs false
/-- The client of a number. -/
def at44 (l : List S44) (cl : Int) : Option S44 := l.find? fun c => decide (c.f0 = cl)
def RightP (l : List S44) : Prop := rightB l = true ∧ small44 l
theorem right_len {l : List S44} (h : rightB l = true) : l.length ≤ 16 ∧ rises 0 (l.map S44.f0) = true ∧ ∀ c ∈ l, wrongB c = false := by
  unfold rightB at h
  simp only [Bool.and_eq_true, decide_eq_true_eq, Bool.not_eq_true'] at h
  exact ⟨h.1.1, h.1.2, fun c hc => by simpa using List.any_eq_false.1 h.2 c hc⟩
theorem right_of {l : List S44} (h1 : l.length ≤ 16) (h2 : rises 0 (l.map S44.f0) = true) (h3 : ∀ c ∈ l, wrongB c = false) : rightB l = true := by
  unfold rightB
  simp only [Bool.and_eq_true, decide_eq_true_eq, Bool.not_eq_true']
  exact ⟨⟨h1, h2⟩, List.any_eq_false.2 fun c hc => by simp [h3 c hc]⟩
theorem wrong_iff {c : S44} : wrongB c = false ↔ 0 ≤ c.f1 ∧ c.f1 ≤ 4611686018427387904 ∧ c.f2.length ≤ 8 ∧ rises c.f1 (c.f2.map S46.f0) = true := by
  unfold wrongB
  simp only [Bool.or_eq_false_iff, decide_eq_false_iff_not, Bool.not_eq_false']
  constructor
  · rintro ⟨⟨⟨h1, h2⟩, h3⟩, h4⟩
    exact ⟨by omega, by omega, by omega, h4⟩
  · rintro ⟨h1, h2, h3, h4⟩
    exact ⟨⟨⟨by omega, by omega⟩, by omega⟩, h4⟩
/-- How many are below, told by its two sides. -/
theorem under_sides {T : List Int} (h : T.Pairwise (· < ·)) (n : Int) : under T n ≤ T.length ∧ (∀ j, j < under T n → T.getD j 0 < n) ∧ ∀ j, under T n ≤ j → j < T.length → n ≤ T.getD j 0 := by
  induction T with
  | nil => exact ⟨by simp [under], fun j hj => by simp [under] at hj, fun j _ hj => by simp at hj⟩
  | cons a T ih =>
    rw [List.pairwise_cons] at h
    obtain ⟨i1, i2, i3⟩ := ih h.2
    unfold under at i1 i2 i3 ⊢
    by_cases ha : a < n
    · rw [List.takeWhile_cons_of_pos (by simpa using ha)]
      refine ⟨by simpa using i1, fun j hj => ?_, fun j h1 h2 => ?_⟩
      · cases j with
        | zero => simpa using ha
        | succ j => simpa using i2 j (by simpa using hj)
      · cases j with
        | zero => simp at h1
        | succ j => simpa using i3 j (by simpa using h1) (by simpa using h2)
    · rw [List.takeWhile_cons_of_neg (by simpa using ha)]
      refine ⟨by simp, fun j hj => by simp at hj, fun j h1 h2 => ?_⟩
      cases j with
      | zero => simp; omega
      | succ j =>
        have hj : j < T.length := by simpa using h2
        have := h.1 (T[j]) (List.getElem_mem hj)
        simp [List.getD_eq_getElem?_getD, hj]
        omega
theorem hasN_iff {T : List Int} (h : T.Pairwise (· < ·)) (n : Int) : hasN T n = true ↔ n ∈ T := by
  obtain ⟨h1, h2, h3⟩ := under_sides h n
  unfold hasN
  simp only [Bool.and_eq_true, decide_eq_true_eq]
  constructor
  · rintro ⟨h4, h5⟩
    rw [← h5, List.getD_eq_getElem?_getD, List.getElem?_eq_getElem h4]
    exact List.getElem_mem h4
  · intro hn
    obtain ⟨j, hj, rfl⟩ := List.mem_iff_getElem.1 hn
    have hg : ∀ i (hi : i < T.length), T.getD i 0 = T[i] := fun i hi => by simp [List.getD_eq_getElem?_getD, hi]
    have ej : under T T[j] = j := by
      rcases Nat.lt_trichotomy j (under T T[j]) with hlt | he | hgt
      · have := h2 j hlt
        rw [hg j hj] at this
        omega
      · exact he.symm
      · have h5 := h3 (under T T[j]) (Nat.le_refl _) (by omega)
        rw [hg _ (by omega)] at h5
        have := List.pairwise_iff_getElem.1 h (under T T[j]) j (by omega) hj hgt
        omega
    exact ⟨by omega, by rw [ej, hg j hj]⟩
theorem getD_ids (l : List S44) (i : Nat) (h : i < l.length) : (l.map S44.f0).getD i 0 = (l.getD i z44).f0 := by simp [List.getD_eq_getElem?_getD, h]
/-- Which clients there are behind one was put in its place. -/
theorem mem_put {L : List S44} {i : Nat} {c' : S44} {cl : Int} (hr : (L.map S44.f0).Pairwise (· < ·)) (hi : i < L.length) (hc : (L.getD i z44).f0 = cl) (c : S44) : c ∈ L.set i c' ↔ c = c' ∨ (c ∈ L ∧ c.f0 ≠ cl) := by
  rw [getD44_at L i hi] at hc
  have hp : ∀ a b (ha : a < L.length) (hb : b < L.length), a < b → L[a].f0 < L[b].f0 := fun a b ha hb hab => by
    have := List.pairwise_iff_getElem.1 hr a b (by simpa using ha) (by simpa using hb) hab
    simpa using this
  constructor
  · intro h
    obtain ⟨j, hj, rfl⟩ := List.mem_iff_getElem.1 h
    rw [List.length_set] at hj
    by_cases e : i = j
    · subst e
      exact .inl (by simp)
    · rw [List.getElem_set_ne e]
      refine .inr ⟨List.getElem_mem hj, fun h2 => ?_⟩
      rcases Nat.lt_or_gt_of_ne e with h3 | h3
      · have := hp i j hi hj h3; omega
      · have := hp j i hj hi h3; omega
  · rintro (rfl | ⟨h, hne⟩)
    · exact List.mem_set hi _
    · obtain ⟨j, hj, rfl⟩ := List.mem_iff_getElem.1 h
      have e : i ≠ j := fun e => hne (by subst e; exact hc)
      rw [List.mem_iff_getElem]
      exact ⟨j, by rw [List.length_set]; exact hj, by rw [List.getElem_set_ne e]⟩
/-- The clients with one that is known: it stands at its place, in order. -/
theorem with_place {l : List S44} (h : (l.map S44.f0).Pairwise (· < ·)) (cl : Int) :
    under (l.map S44.f0) cl < (withCl l cl).length ∧ ((withCl l cl).getD (under (l.map S44.f0) cl) z44).f0 = cl ∧ ((withCl l cl).map S44.f0).Pairwise (· < ·) ∧ (∀ c, c.f0 ≠ cl → (c ∈ withCl l cl ↔ c ∈ l)) ∧
      (∀ c ∈ l, c.f0 = cl → (withCl l cl).getD (under (l.map S44.f0) cl) z44 = c) ∧ ((∀ c ∈ l, c.f0 ≠ cl) → (withCl l cl).getD (under (l.map S44.f0) cl) z44 = ⟨cl, 0, []⟩) ∧ (withCl l cl).length = l.length + (if hasN (l.map S44.f0) cl = true then 0 else 1) := by
  obtain ⟨h1, h2, h3⟩ := under_sides h cl
  have hN := hasN_iff h cl
  obtain ⟨i, hi⟩ : ∃ i, under (l.map S44.f0) cl = i := ⟨_, rfl⟩
  rw [List.length_map] at h1 h3
  have hp : ∀ a b (ha : a < l.length) (hb : b < l.length), a < b → l[a].f0 < l[b].f0 := fun a b ha hb hab => by
    have := List.pairwise_iff_getElem.1 h a b (by simpa using ha) (by simpa using hb) hab
    simpa using this
  cases hb : hasN (l.map S44.f0) cl with
  | true =>
    have hd := hb
    unfold hasN at hd
    rw [hi] at hd
    simp only [Bool.and_eq_true, decide_eq_true_eq, List.length_map] at hd
    have e : withCl l cl = l := by unfold withCl; rw [if_pos hb]
    rw [e, hi]
    have hc := hd.2
    rw [getD_ids l i hd.1] at hc
    refine ⟨hd.1, hc, h, fun c _ => Iff.rfl, fun c hcm hcc => ?_, fun hno => absurd hc (hno _ (by rw [getD44_at l i hd.1]; exact List.getElem_mem _)), by simp⟩
    obtain ⟨j, hj, rfl⟩ := List.mem_iff_getElem.1 hcm
    rw [getD44_at l i hd.1] at hc ⊢
    rcases Nat.lt_trichotomy i j with h4 | h4 | h4
    · have := hp i j hd.1 hj h4; omega
    · subst h4; rfl
    · have := hp j i hj hd.1 h4; omega
  | false =>
    have hno : ∀ c ∈ l, c.f0 ≠ cl := fun c hc e => by
      have := hN.2 (List.mem_map.2 ⟨c, hc, e⟩)
      rw [hb] at this
      cases this
    have e : withCl l cl = l.take i ++ [⟨cl, 0, []⟩] ++ l.drop i := by unfold withCl; rw [if_neg (by rw [hb]; simp), hi]
    rw [hi] at h1 h2 h3
    rw [e, hi]
    have hg : (l.take i ++ [(⟨cl, 0, []⟩ : S44)] ++ l.drop i).getD i z44 = ⟨cl, 0, []⟩ := by rw [List.getD_eq_getElem?_getD, ins_getElem? l _ i i h1, if_neg (by omega), if_pos rfl]; rfl
    have hlo : ∀ c ∈ l.take i, c.f0 < cl := fun c hc => by
      obtain ⟨j, hj, rfl⟩ := List.mem_iff_getElem.1 hc
      rw [List.length_take] at hj
      have := h2 j (by omega)
      rw [getD_ids l j (by omega), getD44_at l j (by omega)] at this
      simpa using this
    have hhi : ∀ c ∈ l.drop i, cl < c.f0 := fun c hc => by
      obtain ⟨j, hj, rfl⟩ := List.mem_iff_getElem.1 hc
      rw [List.length_drop] at hj
      have := h3 (i + j) (by omega) (by omega)
      rw [getD_ids l _ (by omega), getD44_at l _ (by omega)] at this
      have h5 := hno l[i + j] (List.getElem_mem _)
      simp only [List.getElem_drop]
      omega
    refine ⟨by simp; omega, by rw [hg], ?_, fun c hc => ?_, fun c hcm hcc => absurd hcc (hno c hcm), fun _ => hg, by simp; omega⟩
    · have hh := h
      rw [← List.take_append_drop i l, List.map_append, List.pairwise_append] at hh
      obtain ⟨p1, p2, p3⟩ := hh
      rw [List.map_append, List.map_append, List.pairwise_append, List.pairwise_append]
      refine ⟨⟨p1, by simp, fun a ha b hb => ?_⟩, p2, fun a ha b hbm => ?_⟩
      · simp only [List.map_cons, List.map_nil, List.mem_singleton] at hb
        subst hb
        obtain ⟨c, hc, rfl⟩ := List.mem_map.1 ha
        exact hlo c hc
      · rcases List.mem_append.1 ha with ha | ha
        · exact p3 a ha b hbm
        · simp only [List.map_cons, List.map_nil, List.mem_singleton] at ha
          rw [ha]
          obtain ⟨c, hc, rfl⟩ := List.mem_map.1 hbm
          exact hhi c hc
    · conv => rhs; rw [← List.take_append_drop i l]
      simp only [List.mem_append, List.mem_singleton]
      constructor
      · rintro ((h | h) | h)
        · exact .inl h
        · subst h; exact absurd rfl hc
        · exact .inr h
      · rintro (h | h)
        · exact .inl (.inl h)
        · exact .inr h
end Go.Proofs.Ytafnjlgdjhegaaa.Pr
end
section
namespace Go.Proofs.Ytafnjlgdjhegaaa.Pr
open Go.RowKit Go.Proofs.YtafnjlgdjhegaaaW.PrintWords Go.Proofs.YtafnjlgdjhegaaaW.PrintLast
set_option linter.unusedVariables false
set_option linter.unusedSimpArgs false
/-- The client of a number, or one that is new. -/
def Cl (l : List S44) (cl : Int) (c : S44) : Prop := (c ∈ l ∧ c.f0 = cl) ∨ ((∀ d ∈ l, d.f0 ≠ cl) ∧ c = ⟨cl, 0, []⟩)
theorem getD_ids46 (l : List S46) (i : Nat) (h : i < l.length) : (l.map S46.f0).getD i 0 = (l.getD i z46).f0 := by simp [List.getD_eq_getElem?_getD, h]
theorem rises_pw {T : List Int} {a : Int} (h : rises a T = true) : T.Pairwise (· < ·) := (rises_iff.1 h).1
theorem right_put {L : List S44} {i : Nat} {c' : S44} {cl : Int} (hp : (L.map S44.f0).Pairwise (· < ·)) (hi : i < L.length) (hc : (L.getD i z44).f0 = cl) (hc' : c'.f0 = cl) (hl : L.length ≤ 16) (h1 : ∀ c ∈ L, c.f0 ≠ cl → (0 < c.f0 ∧ c.f0 ≤ 4611686018427387904) ∧ wrongB c = false ∧ small46 c.f2)
    (hcl : 1 ≤ cl ∧ cl ≤ 4611686018427387904) (hw : wrongB c' = false) (hs : small46 c'.f2) : RightP (L.set i c') := by
  have hm := mem_put (c' := c') hp hi hc
  have hids : (L.set i c').map S44.f0 = L.map S44.f0 := by
    rw [List.map_set]
    apply List.ext_getElem?
    intro j
    rw [List.getElem?_set]
    split
    · rename_i e
      subst e
      rw [if_pos (by rw [List.length_map]; exact hi), List.getElem?_map, List.getElem?_eq_getElem hi]
      rw [getD44_at L i hi] at hc
      simp [hc, hc']
    · rfl
  refine ⟨right_of (by rw [List.length_set]; exact hl) ?_ (fun c hcm => ?_), by rw [List.length_set]; omega, fun c hcm => ?_⟩
  · rw [hids, rises_iff]
    refine ⟨hp, fun x hx => ?_⟩
    obtain ⟨c, hcm, rfl⟩ := List.mem_map.1 hx
    by_cases e : c.f0 = cl
    · omega
    · exact (h1 c hcm e).1
  · rcases (hm c).1 hcm with rfl | ⟨h2, h3⟩
    · exact hw
    · exact (h1 c h2 h3).2.1
  · rcases (hm c).1 hcm with rfl | ⟨h2, h3⟩
    · exact hs
    · exact (h1 c h2 h3).2.2
/-- What Look tells, where it is asked rightly. -/
structure Looked (l : List S44) (cl rq ak : Int) (r : List S44 × Int × List Int × Int) (c c' : S44) : Prop where
  ofcl : Cl l cl c
  num : c'.f0 = cl
  floor : c'.f1 = mx c.f1 ak
  kept : c'.f2 = c.f2.filter fun x => decide (c'.f1 < x.f0)
  right : RightP r.1
  mem : ∀ d, d ∈ r.1 ↔ d = c' ∨ (d ∈ l ∧ d.f0 ≠ cl)
  wrong : wrongB c' = false
  tells : (rq ≤ c'.f1 ∧ r.2 = (3, [], 0)) ∨ (c'.f1 < rq ∧ ∃ x ∈ c'.f2, x.f0 = rq ∧ r.2 = (2, x.f1, 0)) ∨ (c'.f1 < rq ∧ (∀ x ∈ c'.f2, x.f0 ≠ rq) ∧ 8 ≤ c'.f2.length ∧ r.2 = (4, [], 0)) ∨ (c'.f1 < rq ∧ (∀ x ∈ c'.f2, x.f0 ≠ rq) ∧ c'.f2.length < 8 ∧ r.2 = (1, [], 0))
theorem look_facts {l : List S44} {cl rq ak : Int} (hR : RightP l) (ha : lookArgs cl rq ak) : ((∀ c ∈ l, c.f0 ≠ cl) ∧ 16 ≤ l.length ∧ lookGood l cl rq ak = ([], 0, [], 5)) ∨ ∃ c c', Looked l cl rq ak (lookGood l cl rq ak) c c' := by
  obtain ⟨hlen, hri, hwr⟩ := right_len hR.1
  have hp := rises_pw hri
  have hN := hasN_iff hp cl
  obtain ⟨w1, w2, w3, w4, w5, w6, w7⟩ := with_place hp cl
  obtain ⟨a1, a2, a3, a4, a5, a6⟩ := ha
  by_cases hfull : hasN (l.map S44.f0) cl = false ∧ 16 ≤ l.length
  · left
    refine ⟨fun c hc e => ?_, hfull.2, by unfold lookGood; rw [if_pos hfull]⟩
    have := hN.2 (List.mem_map.2 ⟨c, hc, e⟩)
    rw [hfull.1] at this
    cases this
  · right
    have e0 : lookGood l cl rq ak = lookTail (withCl l cl) (under (l.map S44.f0) cl) rq ak := by unfold lookGood; rw [if_neg hfull]
    obtain ⟨i, hi⟩ : ∃ i, under (l.map S44.f0) cl = i := ⟨_, rfl⟩
    obtain ⟨L, hL⟩ : ∃ L, withCl l cl = L := ⟨_, rfl⟩
    rw [hi] at w1 w2 w5 w6 e0
    rw [hL] at w1 w2 w3 w4 w5 w6 w7 e0
    obtain ⟨c, hc⟩ : ∃ c, L.getD i z44 = c := ⟨_, rfl⟩
    rw [hc] at w2 w5 w6
    have hLl : L.length ≤ 16 := by
      rw [w7]
      by_cases hb : hasN (l.map S44.f0) cl = true
      · rw [if_pos hb]; omega
      · rw [if_neg hb]
        have : ¬ 16 ≤ l.length := fun h => hfull ⟨by simpa using hb, h⟩
        omega
    have hcl : Cl l cl c := by
      by_cases h : ∃ d ∈ l, d.f0 = cl
      · obtain ⟨d, hd, hde⟩ := h
        exact .inl (by rw [w5 d hd hde]; exact ⟨hd, hde⟩)
      · exact .inr ⟨fun d hd e => h ⟨d, hd, e⟩, w6 fun d hd e => h ⟨d, hd, e⟩⟩
    have hcw : wrongB c = false ∧ small46 c.f2 := by
      rcases hcl with ⟨h1, _⟩ | ⟨_, rfl⟩
      · exact ⟨hwr c h1, hR.2.2 c h1⟩
      · exact ⟨by simp [wrongB, rises], by simp, by simp⟩
    obtain ⟨k1, k2, k3, k4⟩ := wrong_iff.1 hcw.1
    obtain ⟨c', hc'⟩ : ∃ c', client' c ak = c' := ⟨_, rfl⟩
    have f0 : c'.f0 = cl := by rw [← hc']; exact w2
    have f1 : c'.f1 = mx c.f1 ak := by rw [← hc']; rfl
    have f2 : c'.f2 = c.f2.filter fun x => decide (c'.f1 < x.f0) := by rw [← hc']; rfl
    have hmx : c.f1 ≤ mx c.f1 ak ∧ ak ≤ mx c.f1 ak ∧ (mx c.f1 ak = c.f1 ∨ mx c.f1 ak = ak) := by
      unfold mx
      split <;> omega
    have hw' : wrongB c' = false := by
      rw [wrong_iff]
      have hle : c'.f2.length ≤ c.f2.length := by rw [f2]; exact List.length_filter_le _ _
      refine ⟨by omega, by omega, by omega, ?_⟩
      rw [rises_iff] at k4 ⊢
      refine ⟨by rw [f2]; exact k4.1.sublist (List.filter_sublist.map _), fun x hx => ?_⟩
      obtain ⟨y, hy, rfl⟩ := List.mem_map.1 hx
      rw [f2] at hy
      obtain ⟨hy1, hy2⟩ := List.mem_filter.1 hy
      have := k4.2 y.f0 (List.mem_map.2 ⟨y, hy1, rfl⟩)
      exact ⟨by simpa using hy2, this.2⟩
    have hs' : small46 c'.f2 := by
      refine ⟨?_, fun x hx => ?_⟩
      · have hle : c'.f2.length ≤ c.f2.length := by rw [f2]; exact List.length_filter_le _ _
        have := hcw.2.1
        omega
      · rw [f2] at hx
        exact hcw.2.2 x (List.mem_filter.1 hx).1
    have hmem := mem_put (c' := c') (cl := cl) w3 w1 (by rw [hc]; exact w2)
    have hright : RightP (L.set i c') := right_put (cl := cl) w3 w1 (by rw [hc]; exact w2) f0 hLl (fun d hd hne => by
      have hdl := (w4 d hne).1 hd
      exact ⟨(rises_iff.1 hri).2 d.f0 (List.mem_map.2 ⟨d, hdl, rfl⟩), hwr d hdl, hR.2.2 d hdl⟩) ⟨a1, a2⟩ hw' hs'
    have hm2 : ∀ d, d ∈ L.set i c' ↔ d = c' ∨ (d ∈ l ∧ d.f0 ≠ cl) := fun d => by
      rw [hmem]
      constructor
      · rintro (h | ⟨h1, h2⟩)
        · exact .inl h
        · exact .inr ⟨(w4 d h2).1 h1, h2⟩
      · rintro (h | ⟨h1, h2⟩)
        · exact .inl h
        · exact .inr ⟨(w4 d h2).2 h1, h2⟩
    have hpk := rises_pw (wrong_iff.1 hw').2.2.2
    have hK := hasN_iff hpk rq
    have et : lookTail L i rq ak = if rq ≤ c'.f1 then (L.set i c', 3, [], 0) else if hasN (c'.f2.map S46.f0) rq = true then (L.set i c', 2, (c'.f2.getD (under (c'.f2.map S46.f0) rq) z46).f1, 0) else if 8 ≤ c'.f2.length then (L.set i c', 4, [], 0) else (L.set i c', 1, [], 0) := by
      unfold lookTail
      simp only [hc, hc']
    rw [e0, et]
    by_cases d1 : rq ≤ c'.f1
    · rw [if_pos d1]
      exact ⟨c, c', hcl, f0, f1, f2, hright, hm2, hw', .inl ⟨d1, rfl⟩⟩
    · rw [if_neg d1]
      by_cases d2 : hasN (c'.f2.map S46.f0) rq = true
      · rw [if_pos d2]
        refine ⟨c, c', hcl, f0, f1, f2, hright, hm2, hw', .inr (.inl ⟨by omega, c'.f2.getD (under (c'.f2.map S46.f0) rq) z46, ?_, ?_, rfl⟩)⟩
        · have := d2
          unfold hasN at this
          simp only [Bool.and_eq_true, decide_eq_true_eq, List.length_map] at this
          rw [getD46_at _ _ this.1]
          exact List.getElem_mem _
        · have := d2
          unfold hasN at this
          simp only [Bool.and_eq_true, decide_eq_true_eq, List.length_map] at this
          rw [← getD_ids46 _ _ this.1]
          exact this.2
      · rw [if_neg d2]
        have hno : ∀ x ∈ c'.f2, x.f0 ≠ rq := fun x hx e => d2 (hK.2 (List.mem_map.2 ⟨x, hx, e⟩))
        by_cases d3 : 8 ≤ c'.f2.length
        · rw [if_pos d3]
          exact ⟨c, c', hcl, f0, f1, f2, hright, hm2, hw', .inr (.inr (.inl ⟨by omega, hno, d3, rfl⟩))⟩
        · rw [if_neg d3]
          exact ⟨c, c', hcl, f0, f1, f2, hright, hm2, hw', .inr (.inr (.inr ⟨by omega, hno, by omega, rfl⟩))⟩
end Go.Proofs.Ytafnjlgdjhegaaa.Pr
end
section
namespace Go.Proofs.Ytafnjlgdjhegaaa.Pr
open Go.RowKit Go.Proofs.YtafnjlgdjhegaaaW.PrintWords Go.Proofs.YtafnjlgdjhegaaaW.PrintLast
set_option linter.unusedVariables false
set_option linter.unusedSimpArgs false
theorem one44 {l : List S44} (h : (l.map S44.f0).Pairwise (· < ·)) {c d : S44} (hc : c ∈ l) (hd : d ∈ l) (e : c.f0 = d.f0) : c = d := by
  obtain ⟨i, hi, rfl⟩ := List.mem_iff_getElem.1 hc
  obtain ⟨j, hj, rfl⟩ := List.mem_iff_getElem.1 hd
  have hp : ∀ a b (ha : a < l.length) (hb : b < l.length), a < b → l[a].f0 < l[b].f0 := fun a b ha hb hab => by
    have := List.pairwise_iff_getElem.1 h a b (by simpa using ha) (by simpa using hb) hab
    simpa using this
  rcases Nat.lt_trichotomy i j with h4 | h4 | h4
  · have := hp i j hi hj h4; omega
  · subst h4; rfl
  · have := hp j i hj hi h4; omega
theorem one46 {l : List S46} (h : (l.map S46.f0).Pairwise (· < ·)) {c d : S46} (hc : c ∈ l) (hd : d ∈ l) (e : c.f0 = d.f0) : c = d := by
  obtain ⟨i, hi, rfl⟩ := List.mem_iff_getElem.1 hc
  obtain ⟨j, hj, rfl⟩ := List.mem_iff_getElem.1 hd
  have hp : ∀ a b (ha : a < l.length) (hb : b < l.length), a < b → l[a].f0 < l[b].f0 := fun a b ha hb hab => by
    have := List.pairwise_iff_getElem.1 h a b (by simpa using ha) (by simpa using hb) hab
    simpa using this
  rcases Nat.lt_trichotomy i j with h4 | h4 | h4
  · have := hp i j hi hj h4; omega
  · subst h4; rfl
  · have := hp j i hj hi h4; omega
/-- What Done leaves, where it is told OK. -/
structure Doned (l : List S44) (cl rq : Int) (rep : List Int) (m : List S44) (c c' : S44) : Prop where
  old : c ∈ l
  ofcl : c.f0 = cl
  num : c'.f0 = cl
  floor : c'.f1 = c.f1
  kept : ∀ x, x ∈ c'.f2 ↔ x = ⟨rq, rep⟩ ∨ x ∈ c.f2
  right : RightP m
  mem : ∀ d, d ∈ m ↔ d = c' ∨ (d ∈ l ∧ d.f0 ≠ cl)
theorem done_facts {l : List S44} {cl rq : Int} {rep : List Int} (hR : RightP l) {c : S44} (hc : c ∈ l) (hcl : c.f0 = cl) (h1 : c.f1 < rq) (h2 : rq ≤ 4611686018427387904) (h3 : ∀ x ∈ c.f2, x.f0 ≠ rq) (h4 : c.f2.length < 8) (h5 : rep.length ≤ 65536) :
    ∃ m c', donePure l cl rq rep = (m, 0) ∧ Doned l cl rq rep m c c' := by
  obtain ⟨hlen, hri, hwr⟩ := right_len hR.1
  have hp := rises_pw hri
  have hN := hasN_iff hp cl
  have hhas : hasN (l.map S44.f0) cl = true := hN.2 (List.mem_map.2 ⟨c, hc, hcl⟩)
  obtain ⟨i, hi⟩ : ∃ i, under (l.map S44.f0) cl = i := ⟨_, rfl⟩
  have hd := hhas
  unfold hasN at hd
  rw [hi] at hd
  simp only [Bool.and_eq_true, decide_eq_true_eq, List.length_map] at hd
  have hgi : (l.getD i z44).f0 = cl := by have := hd.2; rwa [getD_ids l i hd.1] at this
  have hgc : l.getD i z44 = c := one44 hp (by rw [getD44_at l i hd.1]; exact List.getElem_mem _) hc (by rw [hgi, hcl])
  obtain ⟨k1, k2, k3, k4⟩ := wrong_iff.1 (hwr c hc)
  have hpk := rises_pw k4
  have hK := hasN_iff hpk rq
  have hnk : hasN (c.f2.map S46.f0) rq = false := by
    cases hb : hasN (c.f2.map S46.f0) rq with
    | false => rfl
    | true =>
      obtain ⟨x, hx, e⟩ := List.mem_map.1 (hK.1 hb)
      exact absurd e (h3 x hx)
  obtain ⟨u1, u2, u3⟩ := under_sides hpk rq
  obtain ⟨k, hk⟩ : ∃ k, under (c.f2.map S46.f0) rq = k := ⟨_, rfl⟩
  rw [hk] at u1 u2 u3
  rw [List.length_map] at u1 u3
  obtain ⟨c', hc'⟩ : ∃ c' : S44, (⟨c.f0, c.f1, c.f2.take k ++ [⟨rq, rep⟩] ++ c.f2.drop k⟩ : S44) = c' := ⟨_, rfl⟩
  have e : donePure l cl rq rep = (l.set i c', 0) := by
    unfold donePure doneArgs
    rw [hR.1, hhas, hi, hgc, if_pos (by simp; omega)]
    unfold doneGood
    simp only [hgc]
    rw [if_neg (by rw [hnk]; simp), if_neg (by omega), if_neg (by omega)]
    unfold doneRow
    simp only [hgc, hk, hc']
  have m1 : ∀ x, x ∈ c'.f2 ↔ x = ⟨rq, rep⟩ ∨ x ∈ c.f2 := fun x => by
    rw [← hc']
    show x ∈ c.f2.take k ++ [(⟨rq, rep⟩ : S46)] ++ c.f2.drop k ↔ _
    conv => rhs; rw [← List.take_append_drop k c.f2]
    simp only [List.mem_append, List.mem_singleton]
    constructor
    · rintro ((h | h) | h)
      · exact .inr (.inl h)
      · exact .inl h
      · exact .inr (.inr h)
    · rintro (h | h | h)
      · exact .inl (.inr h)
      · exact .inl (.inl h)
      · exact .inr h
  have hg46 : ∀ j (hj : j < c.f2.length), (c.f2.map S46.f0).getD j 0 = c.f2[j].f0 := fun j hj => by simp [List.getD_eq_getElem?_getD, hj]
  have hw' : wrongB c' = false := by
    rw [wrong_iff]
    have hl' : c'.f2.length = c.f2.length + 1 := by rw [← hc']; simp; omega
    have hf1 : c'.f1 = c.f1 := by rw [← hc']
    refine ⟨by omega, by omega, by omega, ?_⟩
    rw [rises_iff] at k4 ⊢
    have hmem : ∀ x ∈ c'.f2, c'.f1 < x.f0 ∧ x.f0 ≤ 4611686018427387904 := fun x hx => by
      rcases (m1 x).1 hx with rfl | hx
      · rw [hf1]; exact ⟨h1, h2⟩
      · have := k4.2 x.f0 (List.mem_map.2 ⟨x, hx, rfl⟩)
        rw [hf1]; exact this
    refine ⟨?_, fun x hx => ?_⟩
    · rw [← hc']
      show ((c.f2.take k ++ [(⟨rq, rep⟩ : S46)] ++ c.f2.drop k).map S46.f0).Pairwise (· < ·)
      have hh := hpk
      rw [← List.take_append_drop k c.f2, List.map_append, List.pairwise_append] at hh
      obtain ⟨p1, p2, p3⟩ := hh
      rw [List.map_append, List.map_append, List.pairwise_append, List.pairwise_append]
      refine ⟨⟨p1, by simp, fun a ha b hb => ?_⟩, p2, fun a ha b hbm => ?_⟩
      · simp only [List.map_cons, List.map_nil, List.mem_singleton] at hb
        subst hb
        obtain ⟨x, hx, rfl⟩ := List.mem_map.1 ha
        obtain ⟨j, hj, rfl⟩ := List.mem_iff_getElem.1 hx
        rw [List.length_take] at hj
        have := u2 j (by omega)
        rw [hg46 j (by omega)] at this
        simpa using this
      · rcases List.mem_append.1 ha with ha | ha
        · exact p3 a ha b hbm
        · simp only [List.map_cons, List.map_nil, List.mem_singleton] at ha
          rw [ha]
          obtain ⟨x, hx, rfl⟩ := List.mem_map.1 hbm
          obtain ⟨j, hj, rfl⟩ := List.mem_iff_getElem.1 hx
          rw [List.length_drop] at hj
          have h5 := u3 (k + j) (by omega) (by omega)
          rw [hg46 _ (by omega)] at h5
          have h6 := h3 c.f2[k + j] (List.getElem_mem _)
          simp only [List.getElem_drop]
          omega
    · obtain ⟨y, hy, rfl⟩ := List.mem_map.1 hx
      exact hmem y hy
  have hs' : small46 c'.f2 := by
    have := hR.2.2 c hc
    refine ⟨?_, fun x hx => ?_⟩
    · have hl' : c'.f2.length = c.f2.length + 1 := by rw [← hc']; simp; omega
      omega
    · rcases (m1 x).1 hx with rfl | hx
      · show rep.length < _
        omega
      · exact this.2 x hx
  have hri' := (rises_iff.1 hri).2
  have hmem := mem_put (c' := c') hp hd.1 hgi
  have hcr := hri' c.f0 (List.mem_map.2 ⟨c, hc, rfl⟩)
  refine ⟨l.set i c', c', e, hc, hcl, by rw [← hc']; exact hcl, by rw [← hc'], m1, right_put hp hd.1 hgi (by rw [← hc']; exact hcl) hlen (fun d hdm hne => ⟨hri' d.f0 (List.mem_map.2 ⟨d, hdm, rfl⟩), hwr d hdm, hR.2.2 d hdm⟩) (by omega) hw' hs', hmem⟩
end Go.Proofs.Ytafnjlgdjhegaaa.Pr
end
