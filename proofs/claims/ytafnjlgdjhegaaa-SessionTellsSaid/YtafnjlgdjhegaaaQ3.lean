/-
  What Done leaves, in plain lists; one client of a number there is at most.
-/
import Derived.Test.YtafnjlgdjhegaaaQ2
namespace Go.Proofs.Ytafnjlgdjhegaaa.Pr
open Go.RowKit Go.Proofs.YtafnjlgdjhegaaaW.PrintWords Go.Proofs.YtafnjlgdjhegaaaW.PrintLast
set_option linter.unusedVariables false
set_option linter.unusedSimpArgs false
theorem one44 {l : List S44} (h : (l.map S44.f0).Pairwise (· < ·)) {c d : S44} (hc : c ∈ l) (hd : d ∈ l) (e : c.f0 = d.f0) : c = d := by
  obtain ⟨i, hi, rfl⟩ := List.mem_iff_getElem.1 hc
  obtain ⟨j, hj, rfl⟩ := List.mem_iff_getElem.1 hd
  have hp : ∀ a b (ha : a < l.length) (hb : b < l.length), a < b → l[a].f0 < l[b].f0 := fun a b ha hb hab => by
    have := List.pairwise_iff_getElem.1 h a b (by simpa using ha) (by simpa using hb) hab
    simpa using this
  rcases Nat.lt_trichotomy i j with h4 | h4 | h4
  · have := hp i j hi hj h4; omega
  · subst h4; rfl
  · have := hp j i hj hi h4; omega
theorem one46 {l : List S46} (h : (l.map S46.f0).Pairwise (· < ·)) {c d : S46} (hc : c ∈ l) (hd : d ∈ l) (e : c.f0 = d.f0) : c = d := by
  obtain ⟨i, hi, rfl⟩ := List.mem_iff_getElem.1 hc
  obtain ⟨j, hj, rfl⟩ := List.mem_iff_getElem.1 hd
  have hp : ∀ a b (ha : a < l.length) (hb : b < l.length), a < b → l[a].f0 < l[b].f0 := fun a b ha hb hab => by
    have := List.pairwise_iff_getElem.1 h a b (by simpa using ha) (by simpa using hb) hab
    simpa using this
  rcases Nat.lt_trichotomy i j with h4 | h4 | h4
  · have := hp i j hi hj h4; omega
  · subst h4; rfl
  · have := hp j i hj hi h4; omega
/-- What Done leaves, where it is told OK. -/
structure Doned (l : List S44) (cl rq : Int) (rep : List Int) (m : List S44) (c c' : S44) : Prop where
  old : c ∈ l
  ofcl : c.f0 = cl
  num : c'.f0 = cl
  floor : c'.f1 = c.f1
  kept : ∀ x, x ∈ c'.f2 ↔ x = ⟨rq, rep⟩ ∨ x ∈ c.f2
  right : RightP m
  mem : ∀ d, d ∈ m ↔ d = c' ∨ (d ∈ l ∧ d.f0 ≠ cl)
theorem done_facts {l : List S44} {cl rq : Int} {rep : List Int} (hR : RightP l) {c : S44} (hc : c ∈ l) (hcl : c.f0 = cl) (h1 : c.f1 < rq) (h2 : rq ≤ 4611686018427387904) (h3 : ∀ x ∈ c.f2, x.f0 ≠ rq) (h4 : c.f2.length < 8) (h5 : rep.length ≤ 65536) :
    ∃ m c', donePure l cl rq rep = (m, 0) ∧ Doned l cl rq rep m c c' := by
  obtain ⟨hlen, hri, hwr⟩ := right_len hR.1
  have hp := rises_pw hri
  have hN := hasN_iff hp cl
  have hhas : hasN (l.map S44.f0) cl = true := hN.2 (List.mem_map.2 ⟨c, hc, hcl⟩)
  obtain ⟨i, hi⟩ : ∃ i, under (l.map S44.f0) cl = i := ⟨_, rfl⟩
  have hd := hhas
  unfold hasN at hd
  rw [hi] at hd
  simp only [Bool.and_eq_true, decide_eq_true_eq, List.length_map] at hd
  have hgi : (l.getD i z44).f0 = cl := by have := hd.2; rwa [getD_ids l i hd.1] at this
  have hgc : l.getD i z44 = c := one44 hp (by rw [getD44_at l i hd.1]; exact List.getElem_mem _) hc (by rw [hgi, hcl])
  obtain ⟨k1, k2, k3, k4⟩ := wrong_iff.1 (hwr c hc)
  have hpk := rises_pw k4
  have hK := hasN_iff hpk rq
  have hnk : hasN (c.f2.map S46.f0) rq = false := by
    cases hb : hasN (c.f2.map S46.f0) rq with
    | false => rfl
    | true =>
      obtain ⟨x, hx, e⟩ := List.mem_map.1 (hK.1 hb)
      exact absurd e (h3 x hx)
  obtain ⟨u1, u2, u3⟩ := under_sides hpk rq
  obtain ⟨k, hk⟩ : ∃ k, under (c.f2.map S46.f0) rq = k := ⟨_, rfl⟩
  rw [hk] at u1 u2 u3
  rw [List.length_map] at u1 u3
  obtain ⟨c', hc'⟩ : ∃ c' : S44, (⟨c.f0, c.f1, c.f2.take k ++ [⟨rq, rep⟩] ++ c.f2.drop k⟩ : S44) = c' := ⟨_, rfl⟩
  have e : donePure l cl rq rep = (l.set i c', 0) := by
    unfold donePure doneArgs
    rw [hR.1, hhas, hi, hgc, if_pos (by simp; omega)]
    unfold doneGood
    simp only [hgc]
    rw [if_neg (by rw [hnk]; simp), if_neg (by omega), if_neg (by omega)]
    unfold doneRow
    simp only [hgc, hk, hc']
  have m1 : ∀ x, x ∈ c'.f2 ↔ x = ⟨rq, rep⟩ ∨ x ∈ c.f2 := fun x => by
    rw [← hc']
    show x ∈ c.f2.take k ++ [(⟨rq, rep⟩ : S46)] ++ c.f2.drop k ↔ _
    conv => rhs; rw [← List.take_append_drop k c.f2]
    simp only [List.mem_append, List.mem_singleton]
    constructor
    · rintro ((h | h) | h)
      · exact .inr (.inl h)
      · exact .inl h
      · exact .inr (.inr h)
    · rintro (h | h | h)
      · exact .inl (.inr h)
      · exact .inl (.inl h)
      · exact .inr h
  have hg46 : ∀ j (hj : j < c.f2.length), (c.f2.map S46.f0).getD j 0 = c.f2[j].f0 := fun j hj => by simp [List.getD_eq_getElem?_getD, hj]
  have hw' : wrongB c' = false := by
    rw [wrong_iff]
    have hl' : c'.f2.length = c.f2.length + 1 := by rw [← hc']; simp; omega
    have hf1 : c'.f1 = c.f1 := by rw [← hc']
    refine ⟨by omega, by omega, by omega, ?_⟩
    rw [rises_iff] at k4 ⊢
    have hmem : ∀ x ∈ c'.f2, c'.f1 < x.f0 ∧ x.f0 ≤ 4611686018427387904 := fun x hx => by
      rcases (m1 x).1 hx with rfl | hx
      · rw [hf1]; exact ⟨h1, h2⟩
      · have := k4.2 x.f0 (List.mem_map.2 ⟨x, hx, rfl⟩)
        rw [hf1]; exact this
    refine ⟨?_, fun x hx => ?_⟩
    · rw [← hc']
      show ((c.f2.take k ++ [(⟨rq, rep⟩ : S46)] ++ c.f2.drop k).map S46.f0).Pairwise (· < ·)
      have hh := hpk
      rw [← List.take_append_drop k c.f2, List.map_append, List.pairwise_append] at hh
      obtain ⟨p1, p2, p3⟩ := hh
      rw [List.map_append, List.map_append, List.pairwise_append, List.pairwise_append]
      refine ⟨⟨p1, by simp, fun a ha b hb => ?_⟩, p2, fun a ha b hbm => ?_⟩
      · simp only [List.map_cons, List.map_nil, List.mem_singleton] at hb
        subst hb
        obtain ⟨x, hx, rfl⟩ := List.mem_map.1 ha
        obtain ⟨j, hj, rfl⟩ := List.mem_iff_getElem.1 hx
        rw [List.length_take] at hj
        have := u2 j (by omega)
        rw [hg46 j (by omega)] at this
        simpa using this
      · rcases List.mem_append.1 ha with ha | ha
        · exact p3 a ha b hbm
        · simp only [List.map_cons, List.map_nil, List.mem_singleton] at ha
          rw [ha]
          obtain ⟨x, hx, rfl⟩ := List.mem_map.1 hbm
          obtain ⟨j, hj, rfl⟩ := List.mem_iff_getElem.1 hx
          rw [List.length_drop] at hj
          have h5 := u3 (k + j) (by omega) (by omega)
          rw [hg46 _ (by omega)] at h5
          have h6 := h3 c.f2[k + j] (List.getElem_mem _)
          simp only [List.getElem_drop]
          omega
    · obtain ⟨y, hy, rfl⟩ := List.mem_map.1 hx
      exact hmem y hy
  have hs' : small46 c'.f2 := by
    have := hR.2.2 c hc
    refine ⟨?_, fun x hx => ?_⟩
    · have hl' : c'.f2.length = c.f2.length + 1 := by rw [← hc']; simp; omega
      omega
    · rcases (m1 x).1 hx with rfl | hx
      · show rep.length < _
        omega
      · exact this.2 x hx
  have hri' := (rises_iff.1 hri).2
  have hmem := mem_put (c' := c') hp hd.1 hgi
  have hcr := hri' c.f0 (List.mem_map.2 ⟨c, hc, rfl⟩)
  refine ⟨l.set i c', c', e, hc, hcl, by rw [← hc']; exact hcl, by rw [← hc'], m1, right_put hp hd.1 hgi (by rw [← hc']; exact hcl) hlen (fun d hdm hne => ⟨hri' d.f0 (List.mem_map.2 ⟨d, hdm, rfl⟩), hwr d hdm, hR.2.2 d hdm⟩) (by omega) hw' hs', hmem⟩
end Go.Proofs.Ytafnjlgdjhegaaa.Pr
