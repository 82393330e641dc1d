/-
  An addition and its way back, in plain lists.
-/
import Derived.Test.YteipoopdnimiaaaQ7
namespace Go.Proofs.Yteipoopdnimiaaa.Q
open Go.RowKit Go.Proofs.Yteipoopdnimiaaa.Pr Go.Proofs.YteipoopdnimiaaaW.PrintWords Go.Proofs.YteipoopdnimiaaaW.PrintLast
set_option linter.unusedVariables false
set_option linter.unusedSimpArgs false
/-- Neighbours differ in their amounts. -/
def diff : List S34 → Prop
  | a :: b :: l => ¬ b.f1 = a.f1 ∧ diff (b :: l)
  | _ => True
theorem diff_get : ∀ (l : List S34), diff l → ∀ i, i + 1 < l.length → ¬ (l.getD (i + 1) z34).f1 = (l.getD i z34).f1
  | [], _, i, hi => by simp at hi
  | [a], _, i, hi => by simp at hi
  | a :: b :: l, h, i, hi => by
    cases i with
    | zero => simpa using h.1
    | succ i =>
      have := diff_get (b :: l) h.2 i (by simpa using hi)
      simpa using this
theorem diff_of : ∀ (l : List S34), (∀ i, i + 1 < l.length → ¬ (l.getD (i + 1) z34).f1 = (l.getD i z34).f1) → diff l
  | [], _ => trivial
  | [a], _ => trivial
  | a :: b :: l, h => by
    refine ⟨by simpa using h 0 (by simp), diff_of (b :: l) fun i hi => ?_⟩
    have := h (i + 1) (by simpa using hi)
    simpa using this
theorem diff_tail {a : S34} {l : List S34} (h : diff (a :: l)) : diff l := by
  cases l with
  | nil => trivial
  | cons b l => exact h.2
theorem right_diff {l : List S34} (h : RightP l) : diff l := diff_of l fun i hi => by
  have := ((h.2.2.2 (i + 1) hi).2.2.2 (by omega)).2
  simpa using this
theorem dedup_diff : ∀ (R : List S34) (p q : S34), q.f1 = p.f1 → diff (q :: dedup p R)
  | [], p, q, h => trivial
  | c :: R, p, q, h => by
    rw [dedup]
    split
    · rename_i e
      exact dedup_diff R c q (by rw [h, e])
    · rename_i e
      exact ⟨by rw [h]; exact e, dedup_diff R c c rfl⟩
theorem compact_diff (R : List S34) : diff (compact R) := by
  cases R with
  | nil => trivial
  | cons c R => exact dedup_diff R c c rfl
theorem dedup_sub : ∀ (R : List S34) (p : S34), (dedup p R).Sublist R
  | [], p => List.Sublist.refl _
  | c :: R, p => by
    rw [dedup]
    split
    · exact (dedup_sub R c).cons _
    · exact (dedup_sub R c).cons_cons _
theorem compact_sub (R : List S34) : (compact R).Sublist R := by
  cases R with
  | nil => exact List.Sublist.refl _
  | cons c R => exact (dedup_sub R c).cons_cons _
theorem dedup_fold (t : Int) : ∀ (R : List S34) (p : S34) (v : Int), rising (p :: R) = true → (p.f0 ≤ t → v = p.f1) →
    (dedup p R).foldl (fun v c => if c.f0 ≤ t then c.f1 else v) v = R.foldl (fun v c => if c.f0 ≤ t then c.f1 else v) v
  | [], p, v, hr, hv => rfl
  | c :: R, p, v, hr, hv => by
    have hpc : p.f0 < c.f0 := rising_tail hr c (by simp)
    have hr' := rising_cons hr
    rw [dedup]
    split
    · rename_i e
      rw [List.foldl_cons]
      by_cases hc : c.f0 ≤ t
      · rw [if_pos hc, hv (by omega), ← e]
        exact dedup_fold t R c _ hr' fun _ => rfl
      · rw [if_neg hc]
        exact dedup_fold t R c _ hr' fun h => absurd h hc
    · rw [List.foldl_cons, List.foldl_cons]
      by_cases hc : c.f0 ≤ t
      · rw [if_pos hc]
        exact dedup_fold t R c _ hr' fun _ => rfl
      · rw [if_neg hc]
        exact dedup_fold t R c _ hr' fun h => absurd h hc
theorem compact_value {R : List S34} (hr : rising R = true) (t : Int) : valueOf (compact R) t = valueOf R t := by
  cases R with
  | nil => rfl
  | cons c R =>
    unfold valueOf
    rw [compact, List.foldl_cons, List.foldl_cons]
    by_cases hc : c.f0 ≤ t
    · rw [if_pos hc]
      exact dedup_fold t R c _ hr fun _ => rfl
    · rw [if_neg hc]
      exact dedup_fold t R c _ hr fun h => absurd h hc
/-! ### rows in order are what their values say -/
theorem value_lone {p : S34} {L : List S34} (hr : rising (p :: L) = true) {t : Int} (h1 : p.f0 ≤ t) (h2 : ∀ c ∈ L, t < c.f0) : valueOf (p :: L) t = p.f1 := by
  have hu : upTo (p :: L) t = 1 := by
    refine upTo_of _ 1 (by simp) (fun i hi => ?_) (fun i hi hn => ?_)
    · rw [show i = 0 by omega]
      simpa using h1
    · cases i with
      | zero => omega
      | succ i =>
        have hj : i < L.length := by simpa using hn
        have := h2 _ (List.getElem_mem hj)
        rw [← getD_at L i hj] at this
        simpa using this
  rw [value_at hr (by omega), hu]
  simp
theorem value_next {p c : S34} {L : List S34} {t : Int} (h : c.f0 ≤ t) : valueOf (p :: c :: L) t = valueOf (c :: L) t := by
  unfold valueOf
  rw [List.foldl_cons, List.foldl_cons, List.foldl_cons, if_pos h, if_pos h]
theorem rows_one : ∀ (L L' : List S34) (p : S34), rising (p :: L) = true → rising (p :: L') = true → diff (p :: L) → diff (p :: L') → (∀ t, p.f0 ≤ t → valueOf (p :: L) t = valueOf (p :: L') t) → L = L'
  | [], [], p, _, _, _, _, _ => rfl
  | [], d :: L', p, r1, r2, d1, d2, h => by
    have hd : p.f0 < d.f0 := rising_tail r2 d (by simp)
    have e1 := cut_value r2 (c := d) (by simp)
    have e2 := value_lone r1 (t := d.f0) (by omega) (by simp)
    have := h d.f0 (by omega)
    exact absurd (by rw [← e1, ← e2, this]) d2.1
  | c :: L, [], p, r1, r2, d1, d2, h => by
    have hd : p.f0 < c.f0 := rising_tail r1 c (by simp)
    have e1 := cut_value r1 (c := c) (by simp)
    have e2 := value_lone r2 (t := c.f0) (by omega) (by simp)
    have := h c.f0 (by omega)
    exact absurd (by rw [← e1, ← e2, this]) d1.1
  | c :: L, d :: L', p, r1, r2, d1, d2, h => by
    have hc : p.f0 < c.f0 := rising_tail r1 c (by simp)
    have hd : p.f0 < d.f0 := rising_tail r2 d (by simp)
    have e1 := cut_value r1 (c := c) (by simp)
    have e2 := cut_value r2 (c := d) (by simp)
    have hcd : c.f0 = d.f0 := by
      rcases Int.lt_trichotomy c.f0 d.f0 with hlt | he | hlt
      · have e3 := value_lone r2 (t := c.f0) (by omega) (fun x hx => by
          rcases List.mem_cons.1 hx with rfl | hx
          · exact hlt
          · have := rising_tail (rising_cons r2) x hx
            omega)
        have := h c.f0 (by omega)
        exact absurd (by rw [← e1, ← e3, this]) d1.1
      · exact he
      · have e3 := value_lone r1 (t := d.f0) (by omega) (fun x hx => by
          rcases List.mem_cons.1 hx with rfl | hx
          · exact hlt
          · have := rising_tail (rising_cons r1) x hx
            omega)
        have := h d.f0 (by omega)
        exact absurd (by rw [← e2, ← e3, this]) d2.1
    have hf : c.f1 = d.f1 := by rw [← e1, ← e2, ← hcd]; exact h c.f0 (by omega)
    have he : c = d := by cases c; cases d; simp only at hcd hf; rw [hcd, hf]
    subst he
    rw [rows_one L L' c (rising_cons r1) (rising_cons r2) (diff_tail d1) (diff_tail d2) fun t ht => ?_]
    have := h t (by omega)
    rwa [value_next ht, value_next ht] at this
/-- Two lists of rows in order that start at one time and have one value everywhere are one. -/
theorem rows_eq {L L' : List S34} (r1 : rising L = true) (r2 : rising L' = true) (d1 : diff L) (d2 : diff L') (h1 : 0 < L.length) (h2 : 0 < L'.length) (z1 : (L.getD 0 z34).f0 = 0) (z2 : (L'.getD 0 z34).f0 = 0) (h : ∀ t, 0 ≤ t → valueOf L t = valueOf L' t) : L = L' := by
  cases L with
  | nil => simp at h1
  | cons c L =>
    cases L' with
    | nil => simp at h2
    | cons d L' =>
      have z1 : c.f0 = 0 := by simpa using z1
      have z2 : d.f0 = 0 := by simpa using z2
      have e1 := cut_value r1 (c := c) (by simp)
      have e2 := cut_value r2 (c := d) (by simp)
      have hf : c.f1 = d.f1 := by rw [← e1, ← e2, z1, z2]; exact h 0 (by omega)
      have he : c = d := by
        cases c; cases d
        simp only at z1 z2 hf
        rw [z1, z2, hf]
      subst he
      rw [rows_one L L' c r1 r2 d1 d2 fun t ht => h t (by omega)]
section
variable {l : List S34} {a b n : Int}
/-! ### the rows behind an addition -/
theorem rows_value_at (h : WindowP l a b) {t : Int} (ht : 0 ≤ t) : valueOf (addRows l a b n) t = val l a b n t := by
  have hr := rising_iff.2 (rows_rising (n := n) h)
  have hR := h.1
  have ha := h.2.1
  have hm := fun s => rows_mem (n := n) h s
  obtain ⟨c0, hc0, hc0'⟩ : ∃ c ∈ addRows l a b n, c.f0 = 0 := by
    have : (0 : Int) ∈ (addRows l a b n).map S34.f0 := by
      rw [hm]
      refine List.mem_append_right _ (List.mem_map.2 ⟨l.getD 0 z34, ?_, hR.2.2.1⟩)
      rw [getD_at l 0 hR.1]
      exact List.getElem_mem _
    obtain ⟨c, h1, h2⟩ := List.mem_map.1 this
    exact ⟨c, h1, h2⟩
  obtain ⟨R, hR'⟩ : ∃ R, addRows l a b n = R := ⟨_, rfl⟩
  have hv := rows_value (n := n) h
  rw [hR'] at hr hm hc0 hv ⊢
  have hp : 0 < upTo R t := by
    obtain ⟨j, hj, hj2⟩ := List.mem_iff_getElem.1 hc0
    rcases Nat.eq_zero_or_pos (upTo R t) with hz | hz
    · have := upTo_hi hr j (t := t) (by omega) hj
      rw [getD_at R j hj, hj2] at this
      omega
    · exact hz
  have hlen := upTo_length R t
  have hmem : R.getD (upTo R t - 1) z34 ∈ R := by rw [getD_at R _ (by omega)]; exact List.getElem_mem _
  have hlo := upTo_lo (l := R) (t := t) (upTo R t - 1) (by omega)
  have hbt : ∀ s, s ∈ R.map S34.f0 → (s ≤ (R.getD (upTo R t - 1) z34).f0 ↔ s ≤ t) := by
    intro s hs
    refine ⟨fun h => by omega, fun h => ?_⟩
    obtain ⟨c, hc, rfl⟩ := List.mem_map.1 hs
    obtain ⟨j, hj, rfl⟩ := List.mem_iff_getElem.1 hc
    rw [← getD_at R j hj] at h ⊢
    rcases Nat.lt_or_ge j (upTo R t) with hlt | hge
    · rcases Nat.lt_or_eq_of_le (show j ≤ upTo R t - 1 by omega) with hlt | he
      · have := rising_lt hr j _ hlt (by omega)
        omega
      · rw [he]
        exact Int.le_refl _
    · have := upTo_hi hr j (t := t) hge hj
      omega
  have hval : valueOf l (R.getD (upTo R t - 1) z34).f0 = valueOf l t := by
    have hrl := right_rising hR
    have hs0 : 0 ≤ (R.getD (upTo R t - 1) z34).f0 := (hbt 0 (List.mem_map.2 ⟨c0, hc0, hc0'⟩)).2 ht
    have hu : upTo l (R.getD (upTo R t - 1) z34).f0 = upTo l t := by
      have hq := upTo_length l t
      refine upTo_of _ _ hq (fun i hi => ?_) (fun i hi hn => ?_)
      · refine (hbt _ ?_).2 (upTo_lo i hi)
        rw [hm]
        refine List.mem_append_right _ (List.mem_map.2 ⟨l.getD i z34, ?_, rfl⟩)
        rw [getD_at l i (by omega)]
        exact List.getElem_mem _
      · have := upTo_hi hrl i hi hn
        omega
    rw [value_at hrl (right_upTo hR hs0), value_at hrl (right_upTo hR ht), hu]
  rw [value_at hr hp, hv _ hmem]
  have ea := hbt a (by rw [hm]; simp)
  have eb := hbt b (by rw [hm]; simp)
  unfold val
  rw [hval]
  by_cases hc : a ≤ t ∧ t < b
  · rw [if_pos hc, if_pos ⟨ea.2 hc.1, by omega⟩]
  · rw [if_neg hc, if_neg (fun hh => hc ⟨ea.1 hh.1, by omega⟩)]
theorem rows_head (h : WindowP l a b) : 0 < (addRows l a b n).length ∧ ((addRows l a b n).getD 0 z34).f0 = 0 := by
  obtain ⟨i, j, hi, hj, hr, hr1, hr2⟩ := window_split h
  have hl1 := splitAt_len l a
  have hl2 := splitAt_len (splitAt l a) b
  have hp := h.1.1
  have e : (splitAt (splitAt l a) b).getD 0 z34 = l.getD 0 z34 := by rw [split_head hj, split_head hi]
  have hz := h.1.2.2.1
  rw [← e] at hz
  unfold addRows
  cases hs : splitAt (splitAt l a) b with
  | nil => rw [hs, List.length_nil] at hl2; omega
  | cons c L =>
    rw [hs] at hz
    refine ⟨by simp, ?_⟩
    simpa [addCut_f0] using hz
theorem compact_head (R : List S34) (h : 0 < R.length) : 0 < (compact R).length ∧ (compact R).getD 0 z34 = R.getD 0 z34 := by
  cases R with
  | nil => simp at h
  | cons c R => simp [compact]
theorem rows_right (h : WindowP l a b) (hg : (addRows l a b n).any isBad = false) (hl : (compact (addRows l a b n)).length ≤ 4096) : RightP (compact (addRows l a b n)) := by
  have hr := rows_rising (n := n) h
  have hr' : rising (compact (addRows l a b n)) = true := rising_iff.2 (hr.sublist (compact_sub _))
  obtain ⟨p1, p2⟩ := rows_head (n := n) h
  obtain ⟨c1, c2⟩ := compact_head _ p1
  have hd := compact_diff (addRows l a b n)
  refine ⟨c1, hl, by rw [c2]; exact p2, fun i hi => ?_⟩
  have hmem : (compact (addRows l a b n)).getD i z34 ∈ addRows l a b n := by
    rw [getD_at _ i hi]
    exact (compact_sub _).subset (List.getElem_mem _)
  have hb : isBad ((compact (addRows l a b n)).getD i z34) = false := by
    have := List.any_eq_false.1 hg _ hmem
    simpa using this
  unfold isBad at hb
  simp only [Bool.or_eq_false_iff, decide_eq_false_iff_not] at hb
  refine ⟨?_, by omega, by omega, fun h0 => ?_⟩
  · have := (rows_mem (n := n) h _).1 (List.mem_map.2 ⟨_, hmem, rfl⟩)
    simp only [List.mem_append, List.mem_cons, List.not_mem_nil, or_false] at this
    have hw := h.2.2
    rcases this with (e | e) | e
    · omega
    · omega
    · obtain ⟨d, hd, e⟩ := List.mem_map.1 e
      obtain ⟨j, hj, rfl⟩ := List.mem_iff_getElem.1 hd
      have := (h.1.2.2.2 j hj).1
      rw [getD_at l j hj] at this
      omega
  · obtain ⟨i, rfl⟩ : ∃ i', i = i' + 1 := ⟨i - 1, by omega⟩
    rw [Nat.add_sub_cancel]
    exact ⟨rising_lt hr' i (i + 1) (by omega) hi, diff_get _ hd i hi⟩
/-- The way back. -/
theorem rows_back (h : WindowP l a b) (h1 : ¬ n < -1073741824) (h2 : ¬ 1073741824 < n) (hg : (addRows l a b n).any isBad = false) (hl : (compact (addRows l a b n)).length ≤ 4096) :
    addAns (compact (addRows l a b n)) a b (wrap64 (-n)) = (l, 0) := by
  have hm := rows_right h hg hl
  have hw : WindowP (compact (addRows l a b n)) a b := ⟨hm, h.2⟩
  have hn : wrap64 (-n) = -n := by unfold wrap64; omega
  have hr := rows_rising (n := n) h
  have hvm : ∀ t, 0 ≤ t → valueOf (compact (addRows l a b n)) t = val l a b n t := fun t ht => by rw [compact_value (rising_iff.2 hr), rows_value_at h ht]
  have hlb : ∀ t, 0 ≤ t → 0 ≤ valueOf l t ∧ valueOf l t ≤ 1073741824 := by
    intro t ht
    have hp := right_upTo h.1 ht
    have hlen := upTo_length l t
    rw [value_at (right_rising h.1) hp]
    have := h.1.2.2.2 (upTo l t - 1) (by omega)
    exact ⟨this.2.1, this.2.2.1⟩
  have hback : ∀ t, 0 ≤ t → val (compact (addRows l a b n)) a b (-n) t = valueOf l t := by
    intro t ht
    have := hlb t ht
    unfold val
    rw [hvm t ht]
    unfold val
    split
    · unfold wrap64
      omega
    · rfl
  rw [addAns_yes hw (by omega) (by omega), hn]
  have hr' := rows_rising (n := -n) hw
  have hpos : ∀ c ∈ addRows (compact (addRows l a b n)) a b (-n), 0 ≤ c.f0 := by
    intro c hc
    have hmem := (rows_mem (n := -n) hw c.f0).1 (List.mem_map.2 ⟨c, hc, rfl⟩)
    simp only [List.mem_append, List.mem_cons, List.not_mem_nil, or_false] at hmem
    have hw' := h.2
    rcases hmem with (e | e) | e
    · omega
    · omega
    · obtain ⟨d, hd, e⟩ := List.mem_map.1 e
      obtain ⟨j, hj, rfl⟩ := List.mem_iff_getElem.1 hd
      have hz := hm.2.2.1
      rw [← getD_at _ j hj] at e
      rcases Nat.eq_zero_or_pos j with rfl | hjp
      · omega
      · have := rising_lt (right_rising hm) 0 j hjp hj
        omega
  have hgood : (addRows (compact (addRows l a b n)) a b (-n)).any isBad = false := by
    rw [List.any_eq_false]
    intro c hc
    have e := rows_value (n := -n) hw c hc
    rw [hback _ (hpos c hc)] at e
    have := hlb _ (hpos c hc)
    unfold isBad
    simp
    omega
  have hsame : compact (addRows (compact (addRows l a b n)) a b (-n)) = l := by
    obtain ⟨p1, p2⟩ := rows_head (n := -n) hw
    obtain ⟨c1, c2⟩ := compact_head _ p1
    refine rows_eq (rising_iff.2 (hr'.sublist (compact_sub _))) (right_rising h.1) (compact_diff _) (right_diff h.1) c1 h.1.1 (by rw [c2]; exact p2) h.1.2.2.1 fun t ht => ?_
    rw [compact_value (rising_iff.2 hr'), rows_value_at hw ht, hback t ht]
  unfold addPure
  rw [hgood, hsame, if_neg (by simp), if_neg (by have := h.1.2.1; omega)]
end
end Go.Proofs.Yteipoopdnimiaaa.Q
