/-
  Adding over a window, in plain lists: the program's rows and the document's times come to the same.
-/
import Derived.Test.YteipoopdnimiaaaQ2
import Derived.Test.YteipoopdnimiaaaPr7
import Derived.Test.YteipoopdnimiaaaPr11
namespace Go.Proofs.Yteipoopdnimiaaa.Q
open Go.RowKit Go.Proofs.Yteipoopdnimiaaa.Pr Go.Proofs.YteipoopdnimiaaaW.PrintWords Go.Proofs.YteipoopdnimiaaaW.PrintLast
set_option linter.unusedVariables false
set_option linter.unusedSimpArgs false
/-! ### rising rows -/
theorem rising_iff {l : List S34} : rising l = true ↔ l.Pairwise (fun a b => a.f0 < b.f0) := by
  induction l with
  | nil => simp [rising]
  | cons a l ih =>
    rw [List.pairwise_cons, ← ih]
    constructor
    · intro h
      exact ⟨rising_tail h, rising_cons h⟩
    · rintro ⟨h1, h2⟩
      cases l with
      | nil => rfl
      | cons b l =>
        simp only [rising, Bool.and_eq_true, decide_eq_true_eq]
        exact ⟨h1 b (by simp), h2⟩
theorem cut_value {l : List S34} (hr : rising l = true) {c : S34} (hc : c ∈ l) : valueOf l c.f0 = c.f1 := by
  obtain ⟨j, hj, rfl⟩ := List.mem_iff_getElem.1 hc
  rw [← getD_at l j hj]
  have hu : upTo l (l.getD j z34).f0 = j + 1 := by
    refine upTo_of _ (j + 1) hj (fun i hi => ?_) (fun i hi hn => ?_)
    · rcases Nat.lt_or_eq_of_le (Nat.le_of_lt_succ hi) with h | rfl
      · have := rising_lt hr i j h hj
        omega
      · omega
    · exact rising_lt hr j i (by omega) hn
  rw [value_at hr (by omega), hu, Nat.add_sub_cancel]
/-! ### a cut more -/
section
variable {l : List S34} {t : Int} {i : Nat}
theorem split_rising (hr : rising l = true) (hi : upTo l t = i + 1) : rising (splitAt l t) = true := by
  by_cases e : (l.getD i z34).f0 = t
  · rw [splitAt_yes hi e]; exact hr
  · rw [splitAt_no hi e, rising_iff]
    have hl := upTo_length l t
    have hp := rising_iff.1 hr
    rw [← List.take_append_drop (i + 1) l, List.pairwise_append] at hp
    obtain ⟨p1, p2, p3⟩ := hp
    have lo : ∀ c ∈ l.take (i + 1), c.f0 < t := by
      intro c hc
      obtain ⟨j, hj, rfl⟩ := List.mem_iff_getElem.1 hc
      rw [List.length_take] at hj
      have h1 := upTo_lo (l := l) (t := t) j (by omega)
      simp only [List.getElem_take]
      rw [← getD_at l j (by omega)]
      rcases Nat.lt_or_eq_of_le (show j ≤ i by omega) with h | rfl
      · have := rising_lt hr j i h (by omega)
        have := upTo_lo (l := l) (t := t) i (by omega)
        omega
      · omega
    have hi' : ∀ c ∈ l.drop (i + 1), t < c.f0 := by
      intro c hc
      obtain ⟨j, hj, rfl⟩ := List.mem_iff_getElem.1 hc
      rw [List.length_drop] at hj
      have := upTo_hi (t := t) hr (i + 1 + j) (by omega) (by omega)
      rw [getD_at l _ (by omega)] at this
      simpa using this
    rw [List.pairwise_append, List.pairwise_append]
    refine ⟨⟨p1, by simp, fun a ha b hb => ?_⟩, p2, fun a ha b hb => ?_⟩
    · simp only [List.mem_singleton] at hb
      subst hb
      exact lo a ha
    · rcases List.mem_append.1 ha with ha | ha
      · exact p3 a ha b hb
      · simp only [List.mem_singleton] at ha
        subst ha
        exact hi' b hb
theorem split_times (hi : upTo l t = i + 1) (s : Int) : (∃ c ∈ splitAt l t, c.f0 = s) ↔ (∃ c ∈ l, c.f0 = s) ∨ s = t := by
  have hl := upTo_length l t
  by_cases e : (l.getD i z34).f0 = t
  · rw [splitAt_yes hi e]
    refine ⟨.inl, ?_⟩
    rintro (h | rfl)
    · exact h
    · exact ⟨_, by rw [getD_at l i (by omega)]; exact List.getElem_mem _, e⟩
  · rw [splitAt_no hi e]
    constructor
    · rintro ⟨c, hc, rfl⟩
      rcases List.mem_append.1 hc with hc | hc
      · rcases List.mem_append.1 hc with hc | hc
        · exact .inl ⟨c, List.mem_of_mem_take hc, rfl⟩
        · simp only [List.mem_singleton] at hc
          subst hc
          exact .inr rfl
      · exact .inl ⟨c, List.mem_of_mem_drop hc, rfl⟩
    · rintro (⟨c, hc, rfl⟩ | rfl)
      · rw [← List.take_append_drop (i + 1) l] at hc
        refine ⟨c, ?_, rfl⟩
        rcases List.mem_append.1 hc with hc | hc
        · simp [hc]
        · simp [hc]
      · exact ⟨⟨s, (l.getD i z34).f1⟩, by simp, rfl⟩
theorem split_value (hr : rising l = true) (hi : upTo l t = i + 1) (s : Int) : valueOf (splitAt l t) s = valueOf l s := by
  have hl := upTo_length l t
  by_cases e : (l.getD i z34).f0 = t
  · rw [splitAt_yes hi e]
  · rw [splitAt_no hi e]
    unfold valueOf
    conv => rhs; rw [← List.take_append_drop (i + 1) l]
    rw [List.foldl_append, List.foldl_append, List.foldl_append, List.foldl_cons, List.foldl_nil]
    by_cases hs : t ≤ s
    · rw [if_pos hs]
      congr 1
      have hr2 : rising (l.take (i + 1)) = true := rising_iff.2 ((rising_iff.1 hr).sublist (List.take_sublist _ _))
      have hu : upTo (l.take (i + 1)) s = i + 1 := by
        refine upTo_of _ _ (by rw [List.length_take]; omega) (fun j hj => ?_) (fun j hj hn => ?_)
        · have := upTo_lo (l := l) (t := t) j (by omega)
          rw [getD_at l j (by omega)] at this
          rw [getD_at _ j (by rw [List.length_take]; omega)]
          simp only [List.getElem_take]
          omega
        · rw [List.length_take] at hn
          omega
      rw [fold_value hr2, hu, if_neg (by omega), Nat.add_sub_cancel, getD_at (l.take (i + 1)) i (by rw [List.length_take]; omega), getD_at l i (by omega)]
      simp
    · rw [if_neg hs]
theorem split_head (hi : upTo l t = i + 1) : (splitAt l t).getD 0 z34 = l.getD 0 z34 := by
  have hl := upTo_length l t
  by_cases e : (l.getD i z34).f0 = t
  · rw [splitAt_yes hi e]
  · rw [splitAt_no hi e]
    cases l with
    | nil => simp at hl; omega
    | cons a l => simp
end
/-! ### the document's rows -/
/-- The value behind the addition. -/
def val (l : List S34) (a b n t : Int) : Int := if a ≤ t ∧ t < b then wrap64 (valueOf l t + n) else valueOf l t
def badV (v : Int) : Bool := decide (v < 0) || decide (1073741824 < v)
/-- The document's rows, over the times that are left; none: a value is over. -/
def refOut (f : Int → Int) : List Int → List S34 → Option (List S34)
  | [], out => some out
  | t :: T, out => if badV (f t) = true then none else if out.length = 0 ∨ ¬ (out.getD (out.length - 1) z34).f1 = f t then refOut f T (out ++ [⟨t, f t⟩]) else refOut f T out
def uniq : List Int → List Int
  | a :: b :: l => if a = b then uniq (b :: l) else a :: uniq (b :: l)
  | l => l
theorem last_snoc (out : List S34) (c : S34) : (out ++ [c]).getD ((out ++ [c]).length - 1) z34 = c := by simp
theorem refOut_twice (f : Int → Int) (a : Int) (l : List Int) (out : List S34) : refOut f (a :: a :: l) out = refOut f (a :: l) out := by
  have e : ∀ (T : List Int) (o : List S34), refOut f (a :: T) o = if badV (f a) = true then none else if o.length = 0 ∨ ¬ (o.getD (o.length - 1) z34).f1 = f a then refOut f T (o ++ [⟨a, f a⟩]) else refOut f T o := fun _ _ => rfl
  rw [e (a :: l) out]
  by_cases hb : badV (f a) = true
  · rw [if_pos hb, e l out, if_pos hb]
  · rw [if_neg hb]
    by_cases h : out.length = 0 ∨ ¬ (out.getD (out.length - 1) z34).f1 = f a
    · have e2 : refOut f (a :: l) (out ++ [(⟨a, f a⟩ : S34)]) = refOut f l (out ++ [(⟨a, f a⟩ : S34)]) := by
        rw [e l (out ++ [(⟨a, f a⟩ : S34)]), if_neg hb, if_neg]
        rw [last_snoc]
        simp
      rw [if_pos h, e2, e l out, if_neg hb, if_pos h]
    · rw [if_neg h]
theorem refOut_uniq (f : Int → Int) : ∀ (T : List Int) (out : List S34), refOut f (uniq T) out = refOut f T out
  | [], out => rfl
  | [a], out => rfl
  | a :: b :: l, out => by
    rw [uniq]
    by_cases h : a = b
    · subst h
      rw [if_pos rfl, refOut_uniq f (a :: l) out, refOut_twice]
    · rw [if_neg h, refOut, refOut]
      simp only [refOut_uniq f (b :: l)]
theorem uniq_mem : ∀ (T : List Int) (t : Int), t ∈ uniq T ↔ t ∈ T
  | [], _ => Iff.rfl
  | [a], _ => Iff.rfl
  | a :: b :: l, t => by
    rw [uniq]
    split
    · rename_i h
      subst h
      rw [uniq_mem (a :: l) t]
      simp
    · rw [List.mem_cons, uniq_mem (b :: l) t]
      simp
theorem uniq_rises : ∀ (T : List Int), T.Pairwise (· ≤ ·) → (uniq T).Pairwise (· < ·)
  | [], _ => by simp [uniq]
  | [a], _ => by simp [uniq]
  | a :: b :: l, h => by
    rw [List.pairwise_cons] at h
    rw [uniq]
    split
    · exact uniq_rises (b :: l) h.2
    · rename_i hab
      rw [List.pairwise_cons]
      refine ⟨fun c hc => ?_, uniq_rises (b :: l) h.2⟩
      rw [uniq_mem] at hc
      have h1 := h.1 b (by simp)
      rcases List.mem_cons.1 hc with rfl | hc
      · omega
      · have := (List.pairwise_cons.1 h.2).1 c hc
        omega
theorem rises_eq : ∀ (A B : List Int), A.Pairwise (· < ·) → B.Pairwise (· < ·) → (∀ t, t ∈ A ↔ t ∈ B) → A = B
  | [], [], _, _, _ => rfl
  | [], b :: B, _, _, h => absurd ((h b).2 (by simp)) (by simp)
  | a :: A, [], _, _, h => absurd ((h a).1 (by simp)) (by simp)
  | a :: A, b :: B, hA, hB, h => by
    rw [List.pairwise_cons] at hA hB
    have e : a = b := by
      have h1 := (h a).1 (by simp)
      have h2 := (h b).2 (by simp)
      rcases List.mem_cons.1 h1 with h1 | h1
      · exact h1
      · rcases List.mem_cons.1 h2 with h2 | h2
        · exact h2.symm
        · have := hA.1 b h2
          have := hB.1 a h1
          omega
    subst e
    rw [rises_eq A B hA.2 hB.2 fun t => ?_]
    constructor
    · intro ht
      rcases List.mem_cons.1 ((h t).1 (by simp [ht])) with rfl | h3
      · exact absurd (hA.1 t ht) (by omega)
      · exact h3
    · intro ht
      rcases List.mem_cons.1 ((h t).2 (by simp [ht])) with rfl | h3
      · exact absurd (hB.1 t ht) (by omega)
      · exact h3
theorem refOut_dedup (f : Int → Int) : ∀ (R : List S34) (out : List S34) (p : S34), (∀ c ∈ R, c.f1 = f c.f0) → (out.getD (out.length - 1) z34).f1 = p.f1 → 0 < out.length →
    refOut f (R.map S34.f0) out = if R.any isBad = true then none else some (out ++ dedup p R)
  | [], out, p, _, _, _ => by simp [refOut, dedup]
  | c :: R, out, p, hR, hp, ho => by
    have hc := hR c (by simp)
    have hR' : ∀ d ∈ R, d.f1 = f d.f0 := fun d hd => hR d (by simp [hd])
    rw [List.map_cons, refOut, ← hc, List.any_cons, dedup]
    have hb : badV c.f1 = isBad c := rfl
    rw [hb]
    by_cases h1 : isBad c = true
    · rw [if_pos h1, h1]
      rfl
    · rw [if_neg h1]
      simp only [h1, Bool.false_or]
      rw [hp]
      by_cases h2 : c.f1 = p.f1
      · rw [if_neg (by omega), if_pos h2, refOut_dedup f R out c hR' (by rw [hp, h2]) ho]
      · rw [if_pos (by omega), if_neg h2, show (⟨c.f0, c.f1⟩ : S34) = c from rfl, refOut_dedup f R (out ++ [c]) c hR' (by rw [last_snoc]) (by simp)]
        simp
theorem refOut_compact (f : Int → Int) (R : List S34) (hR : ∀ c ∈ R, c.f1 = f c.f0) : refOut f (R.map S34.f0) [] = if R.any isBad = true then none else some (compact R) := by
  cases R with
  | nil => rfl
  | cons c R =>
    have hc := hR c (by simp)
    rw [List.map_cons, refOut, ← hc, List.any_cons, compact]
    have hb : badV c.f1 = isBad c := rfl
    rw [hb]
    by_cases h1 : isBad c = true
    · rw [if_pos h1, h1]
      rfl
    · rw [if_neg h1]
      simp only [h1, Bool.false_or]
      rw [if_pos (by simp), List.nil_append, show (⟨c.f0, c.f1⟩ : S34) = c from rfl, refOut_dedup f R [c] c (fun d hd => hR d (by simp [hd])) (by simp) (by simp)]
      rfl
end Go.Proofs.Yteipoopdnimiaaa.Q
