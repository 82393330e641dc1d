/-
  What Look and Done tell and leave, in plain lists.
-/
import Derived.Test.YtafnjlgdjhegaaaQ1
namespace Go.Proofs.Ytafnjlgdjhegaaa.Pr
open Go.RowKit Go.Proofs.YtafnjlgdjhegaaaW.PrintWords Go.Proofs.YtafnjlgdjhegaaaW.PrintLast
set_option linter.unusedVariables false
set_option linter.unusedSimpArgs false
/-- The client of a number, or one that is new. -/
def Cl (l : List S44) (cl : Int) (c : S44) : Prop := (c ∈ l ∧ c.f0 = cl) ∨ ((∀ d ∈ l, d.f0 ≠ cl) ∧ c = ⟨cl, 0, []⟩)
theorem getD_ids46 (l : List S46) (i : Nat) (h : i < l.length) : (l.map S46.f0).getD i 0 = (l.getD i z46).f0 := by simp [List.getD_eq_getElem?_getD, h]
theorem rises_pw {T : List Int} {a : Int} (h : rises a T = true) : T.Pairwise (· < ·) := (rises_iff.1 h).1
theorem right_put {L : List S44} {i : Nat} {c' : S44} {cl : Int} (hp : (L.map S44.f0).Pairwise (· < ·)) (hi : i < L.length) (hc : (L.getD i z44).f0 = cl) (hc' : c'.f0 = cl) (hl : L.length ≤ 16) (h1 : ∀ c ∈ L, c.f0 ≠ cl → (0 < c.f0 ∧ c.f0 ≤ 4611686018427387904) ∧ wrongB c = false ∧ small46 c.f2)
    (hcl : 1 ≤ cl ∧ cl ≤ 4611686018427387904) (hw : wrongB c' = false) (hs : small46 c'.f2) : RightP (L.set i c') := by
  have hm := mem_put (c' := c') hp hi hc
  have hids : (L.set i c').map S44.f0 = L.map S44.f0 := by
    rw [List.map_set]
    apply List.ext_getElem?
    intro j
    rw [List.getElem?_set]
    split
    · rename_i e
      subst e
      rw [if_pos (by rw [List.length_map]; exact hi), List.getElem?_map, List.getElem?_eq_getElem hi]
      rw [getD44_at L i hi] at hc
      simp [hc, hc']
    · rfl
  refine ⟨right_of (by rw [List.length_set]; exact hl) ?_ (fun c hcm => ?_), by rw [List.length_set]; omega, fun c hcm => ?_⟩
  · rw [hids, rises_iff]
    refine ⟨hp, fun x hx => ?_⟩
    obtain ⟨c, hcm, rfl⟩ := List.mem_map.1 hx
    by_cases e : c.f0 = cl
    · omega
    · exact (h1 c hcm e).1
  · rcases (hm c).1 hcm with rfl | ⟨h2, h3⟩
    · exact hw
    · exact (h1 c h2 h3).2.1
  · rcases (hm c).1 hcm with rfl | ⟨h2, h3⟩
    · exact hs
    · exact (h1 c h2 h3).2.2
/-- What Look tells, where it is asked rightly. -/
structure Looked (l : List S44) (cl rq ak : Int) (r : List S44 × Int × List Int × Int) (c c' : S44) : Prop where
  ofcl : Cl l cl c
  num : c'.f0 = cl
  floor : c'.f1 = mx c.f1 ak
  kept : c'.f2 = c.f2.filter fun x => decide (c'.f1 < x.f0)
  right : RightP r.1
  mem : ∀ d, d ∈ r.1 ↔ d = c' ∨ (d ∈ l ∧ d.f0 ≠ cl)
  wrong : wrongB c' = false
  tells : (rq ≤ c'.f1 ∧ r.2 = (3, [], 0)) ∨ (c'.f1 < rq ∧ ∃ x ∈ c'.f2, x.f0 = rq ∧ r.2 = (2, x.f1, 0)) ∨ (c'.f1 < rq ∧ (∀ x ∈ c'.f2, x.f0 ≠ rq) ∧ 8 ≤ c'.f2.length ∧ r.2 = (4, [], 0)) ∨ (c'.f1 < rq ∧ (∀ x ∈ c'.f2, x.f0 ≠ rq) ∧ c'.f2.length < 8 ∧ r.2 = (1, [], 0))
theorem look_facts {l : List S44} {cl rq ak : Int} (hR : RightP l) (ha : lookArgs cl rq ak) : ((∀ c ∈ l, c.f0 ≠ cl) ∧ 16 ≤ l.length ∧ lookGood l cl rq ak = ([], 0, [], 5)) ∨ ∃ c c', Looked l cl rq ak (lookGood l cl rq ak) c c' := by
  obtain ⟨hlen, hri, hwr⟩ := right_len hR.1
  have hp := rises_pw hri
  have hN := hasN_iff hp cl
  obtain ⟨w1, w2, w3, w4, w5, w6, w7⟩ := with_place hp cl
  obtain ⟨a1, a2, a3, a4, a5, a6⟩ := ha
  by_cases hfull : hasN (l.map S44.f0) cl = false ∧ 16 ≤ l.length
  · left
    refine ⟨fun c hc e => ?_, hfull.2, by unfold lookGood; rw [if_pos hfull]⟩
    have := hN.2 (List.mem_map.2 ⟨c, hc, e⟩)
    rw [hfull.1] at this
    cases this
  · right
    have e0 : lookGood l cl rq ak = lookTail (withCl l cl) (under (l.map S44.f0) cl) rq ak := by unfold lookGood; rw [if_neg hfull]
    obtain ⟨i, hi⟩ : ∃ i, under (l.map S44.f0) cl = i := ⟨_, rfl⟩
    obtain ⟨L, hL⟩ : ∃ L, withCl l cl = L := ⟨_, rfl⟩
    rw [hi] at w1 w2 w5 w6 e0
    rw [hL] at w1 w2 w3 w4 w5 w6 w7 e0
    obtain ⟨c, hc⟩ : ∃ c, L.getD i z44 = c := ⟨_, rfl⟩
    rw [hc] at w2 w5 w6
    have hLl : L.length ≤ 16 := by
      rw [w7]
      by_cases hb : hasN (l.map S44.f0) cl = true
      · rw [if_pos hb]; omega
      · rw [if_neg hb]
        have : ¬ 16 ≤ l.length := fun h => hfull ⟨by simpa using hb, h⟩
        omega
    have hcl : Cl l cl c := by
      by_cases h : ∃ d ∈ l, d.f0 = cl
      · obtain ⟨d, hd, hde⟩ := h
        exact .inl (by rw [w5 d hd hde]; exact ⟨hd, hde⟩)
      · exact .inr ⟨fun d hd e => h ⟨d, hd, e⟩, w6 fun d hd e => h ⟨d, hd, e⟩⟩
    have hcw : wrongB c = false ∧ small46 c.f2 := by
      rcases hcl with ⟨h1, _⟩ | ⟨_, rfl⟩
      · exact ⟨hwr c h1, hR.2.2 c h1⟩
      · exact ⟨by simp [wrongB, rises], by simp, by simp⟩
    obtain ⟨k1, k2, k3, k4⟩ := wrong_iff.1 hcw.1
    obtain ⟨c', hc'⟩ : ∃ c', client' c ak = c' := ⟨_, rfl⟩
    have f0 : c'.f0 = cl := by rw [← hc']; exact w2
    have f1 : c'.f1 = mx c.f1 ak := by rw [← hc']; rfl
    have f2 : c'.f2 = c.f2.filter fun x => decide (c'.f1 < x.f0) := by rw [← hc']; rfl
    have hmx : c.f1 ≤ mx c.f1 ak ∧ ak ≤ mx c.f1 ak ∧ (mx c.f1 ak = c.f1 ∨ mx c.f1 ak = ak) := by
      unfold mx
      split <;> omega
    have hw' : wrongB c' = false := by
      rw [wrong_iff]
      have hle : c'.f2.length ≤ c.f2.length := by rw [f2]; exact List.length_filter_le _ _
      refine ⟨by omega, by omega, by omega, ?_⟩
      rw [rises_iff] at k4 ⊢
      refine ⟨by rw [f2]; exact k4.1.sublist (List.filter_sublist.map _), fun x hx => ?_⟩
      obtain ⟨y, hy, rfl⟩ := List.mem_map.1 hx
      rw [f2] at hy
      obtain ⟨hy1, hy2⟩ := List.mem_filter.1 hy
      have := k4.2 y.f0 (List.mem_map.2 ⟨y, hy1, rfl⟩)
      exact ⟨by simpa using hy2, this.2⟩
    have hs' : small46 c'.f2 := by
      refine ⟨?_, fun x hx => ?_⟩
      · have hle : c'.f2.length ≤ c.f2.length := by rw [f2]; exact List.length_filter_le _ _
        have := hcw.2.1
        omega
      · rw [f2] at hx
        exact hcw.2.2 x (List.mem_filter.1 hx).1
    have hmem := mem_put (c' := c') (cl := cl) w3 w1 (by rw [hc]; exact w2)
    have hright : RightP (L.set i c') := right_put (cl := cl) w3 w1 (by rw [hc]; exact w2) f0 hLl (fun d hd hne => by
      have hdl := (w4 d hne).1 hd
      exact ⟨(rises_iff.1 hri).2 d.f0 (List.mem_map.2 ⟨d, hdl, rfl⟩), hwr d hdl, hR.2.2 d hdl⟩) ⟨a1, a2⟩ hw' hs'
    have hm2 : ∀ d, d ∈ L.set i c' ↔ d = c' ∨ (d ∈ l ∧ d.f0 ≠ cl) := fun d => by
      rw [hmem]
      constructor
      · rintro (h | ⟨h1, h2⟩)
        · exact .inl h
        · exact .inr ⟨(w4 d h2).1 h1, h2⟩
      · rintro (h | ⟨h1, h2⟩)
        · exact .inl h
        · exact .inr ⟨(w4 d h2).2 h1, h2⟩
    have hpk := rises_pw (wrong_iff.1 hw').2.2.2
    have hK := hasN_iff hpk rq
    have et : lookTail L i rq ak = if rq ≤ c'.f1 then (L.set i c', 3, [], 0) else if hasN (c'.f2.map S46.f0) rq = true then (L.set i c', 2, (c'.f2.getD (under (c'.f2.map S46.f0) rq) z46).f1, 0) else if 8 ≤ c'.f2.length then (L.set i c', 4, [], 0) else (L.set i c', 1, [], 0) := by
      unfold lookTail
      simp only [hc, hc']
    rw [e0, et]
    by_cases d1 : rq ≤ c'.f1
    · rw [if_pos d1]
      exact ⟨c, c', hcl, f0, f1, f2, hright, hm2, hw', .inl ⟨d1, rfl⟩⟩
    · rw [if_neg d1]
      by_cases d2 : hasN (c'.f2.map S46.f0) rq = true
      · rw [if_pos d2]
        refine ⟨c, c', hcl, f0, f1, f2, hright, hm2, hw', .inr (.inl ⟨by omega, c'.f2.getD (under (c'.f2.map S46.f0) rq) z46, ?_, ?_, rfl⟩)⟩
        · have := d2
          unfold hasN at this
          simp only [Bool.and_eq_true, decide_eq_true_eq, List.length_map] at this
          rw [getD46_at _ _ this.1]
          exact List.getElem_mem _
        · have := d2
          unfold hasN at this
          simp only [Bool.and_eq_true, decide_eq_true_eq, List.length_map] at this
          rw [← getD_ids46 _ _ this.1]
          exact this.2
      · rw [if_neg d2]
        have hno : ∀ x ∈ c'.f2, x.f0 ≠ rq := fun x hx e => d2 (hK.2 (List.mem_map.2 ⟨x, hx, e⟩))
        by_cases d3 : 8 ≤ c'.f2.length
        · rw [if_pos d3]
          exact ⟨c, c', hcl, f0, f1, f2, hright, hm2, hw', .inr (.inr (.inl ⟨by omega, hno, d3, rfl⟩))⟩
        · rw [if_neg d3]
          exact ⟨c, c', hcl, f0, f1, f2, hright, hm2, hw', .inr (.inr (.inr ⟨by omega, hno, by omega, rfl⟩))⟩
end Go.Proofs.Ytafnjlgdjhegaaa.Pr
