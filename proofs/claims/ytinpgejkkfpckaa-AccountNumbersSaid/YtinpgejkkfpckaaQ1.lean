/-
  Rising numbers in plain lists, and what a binary search among them finds.
-/
import Derived.Test.YtinpgejkkfpckaaPr3
namespace Go.Proofs.Ytinpgejkkfpckaa.Pr
open Go.RowKit Go.Proofs.YtinpgejkkfpckaaW.PrintWords
set_option linter.unusedVariables false
/-- Do numbers rise? -/
def Rise (l : List Int) : Prop := l.Pairwise (· < ·)
/-- How many are less. -/
def under (l : List Int) (x : Int) : Nat := (l.filter fun y => decide (y < x)).length
theorem under_le (l : List Int) (x : Int) : under l x ≤ l.length := List.length_filter_le _ _
theorem under_cons (y : Int) (l : List Int) (x : Int) : under (y :: l) x = (if y < x then 1 else 0) + under l x := by
  unfold under
  by_cases h : y < x
  · rw [List.filter_cons_of_pos (by simpa using h), if_pos h, List.length_cons]; omega
  · rw [List.filter_cons_of_neg (by simpa using h), if_neg h]; omega
theorem Rise.tail {y : Int} {l : List Int} (h : Rise (y :: l)) : Rise l := (List.pairwise_cons.1 h).2
theorem under_zero {l : List Int} {x : Int} (h : ∀ y ∈ l, x ≤ y) : under l x = 0 := by
  unfold under
  rw [List.length_eq_zero_iff, List.filter_eq_nil_iff]
  intro y hy
  have := h y hy
  simp
  omega
theorem under_iff : ∀ {l : List Int} (h : Rise l) (x : Int) (i : Nat) (hi : i < l.length), (l.getD i 0 < x ↔ i < under l x)
  | [], _, _, i, hi => by simp at hi
  | y :: l, h, x, 0, _ => by
    rw [under_cons]
    by_cases hy : y < x
    · simp [hy]; omega
    · have : under l x = 0 := under_zero fun z hz => by have := (List.pairwise_cons.1 h).1 z hz; omega
      simp [hy, this]
  | y :: l, h, x, i + 1, hi => by
    have ih := under_iff h.tail x i (by simpa using hi)
    rw [under_cons, List.getD_cons_succ, ih]
    by_cases hy : y < x
    · simp [hy]; omega
    · have : under l x = 0 := under_zero fun z hz => by have := (List.pairwise_cons.1 h).1 z hz; omega
      simp [hy, this]
theorem mem_under {l : List Int} (h : Rise l) (x : Int) : x ∈ l ↔ under l x < l.length ∧ l.getD (under l x) 0 = x := by
  constructor
  · intro hm
    obtain ⟨i, hi, he⟩ := List.mem_iff_getElem.1 hm
    have e1 : l.getD i 0 = x := by simp [List.getD_eq_getElem?_getD, hi, he]
    have h1 : ¬ i < under l x := fun hh => by have := (under_iff h x i hi).2 hh; omega
    have h2 : ∀ j, j < i → j < under l x := fun j hj => (under_iff h x j (by omega)).1 (by
      have := List.pairwise_iff_getElem.1 h j i (by omega) hi hj
      simp [List.getD_eq_getElem?_getD, show j < l.length by omega]
      omega)
    have e2 : under l x = i := by
      rcases Nat.lt_trichotomy (under l x) i with hlt | heq | hgt
      · have := h2 _ hlt; omega
      · exact heq
      · exact absurd hgt h1
    rw [e2]
    exact ⟨hi, e1⟩
  · rintro ⟨h1, h2⟩
    rw [← h2]
    simp [List.getD_eq_getElem?_getD, h1]
theorem less_eq (a b : Int) : cmp_Less_int.f a b = some (decide (a < b)) := by
  simp [cmp_Less_int.f, cmp_isNaN_int.f]
theorem nan_eq (a : Int) : slices_isNaN_int.f a = some false := by simp [slices_isNaN_int.f]
theorem mid_wrap (a b : Nat) (h : a < 9223372036854775808) (h' : b < 9223372036854775808) : wrap64 (IntKind.u64.wrap (wrap64 ((a : Int) + b)) / 2) = ((a + b) / 2 : Nat) := by
  simp [wrap64, IntKind.wrap, IntKind.bits, IntKind.signed]
  omega
theorem rd_nat (l : List Int) (n : Nat) : rd l (n : Int) = l.getD n 0 := by simp [rd]
theorem wrap_succ (n : Nat) (h : n < 9223372036854775807) : wrap64 ((n : Int) + 1) = ((n + 1 : Nat) : Int) := by unfold wrap64; omega
theorem bs_loop (l : List Int) (hr : Rise l) (x : Int) (hl : l.length < 9223372036854775807) : ∀ (d i j k : Nat), i ≤ under l x → under l x ≤ j → j ≤ l.length → j - i ≤ d → d < k →
    slices_BinarySearch_int_int.l0 k l x (l.length : Int) (i : Int) (j : Int) = some ((under l x : Int), decide (x ∈ l))
  | d, i, j, 0, _, _, _, _, hk => by omega
  | d, i, j, k + 1, h1, h2, h3, h4, h5 => by
    simp only [slices_BinarySearch_int_int.l0]
    by_cases hij : i < j
    · have hm := mid_wrap i j (by omega) (by omega)
      rw [if_pos (by clear hm; omega : (i : Int) < (j : Int)), hm]
      clear hm
      rw [if_pos (by omega), if_pos (by omega), less_eq]
      simp only [Option.bind_some]
      rw [rd_nat]
      have hi := under_iff hr x ((i + j) / 2) (by omega)
      by_cases hlt : l.getD ((i + j) / 2) 0 < x
      · rw [decide_eq_true hlt, if_pos rfl]
        have := hi.1 hlt
        rw [wrap_succ _ (by omega)]
        exact bs_loop l hr x hl (d - 1) _ _ k (by omega) h2 h3 (by omega) (by omega)
      · rw [decide_eq_false hlt, if_neg (by simp)]
        have : ¬ (i + j) / 2 < under l x := fun hh => hlt (hi.2 hh)
        exact bs_loop l hr x hl (d - 1) _ _ k h1 (by omega) (by omega) (by omega) (by omega)
    · have e : under l x = i := by omega
      have hmu := mem_under hr x
      rw [e] at hmu ⊢
      rw [if_neg (by omega)]
      by_cases hin : i < l.length
      · rw [if_pos (by omega), if_pos (by omega), if_pos (by omega)]
        rw [rd_nat]
        by_cases hx : l.getD i 0 = x
        · rw [if_pos hx, decide_eq_true (hmu.2 ⟨hin, hx⟩)]
        · rw [if_neg hx, nan_eq, decide_eq_false (fun hh => hx (hmu.1 hh).2)]
          simp
      · rw [if_neg (by omega), decide_eq_false (fun hh => hin (hmu.1 hh).1)]
theorem bs_spec (l : List Int) (hr : Rise l) (x : Int) (hl : l.length < 9223372036854775807) : slices_BinarySearch_int_int.f (l.length + 1) l x = some ((under l x : Int), decide (x ∈ l)) :=
  bs_loop l hr x hl l.length 0 l.length (l.length + 1) (by omega) (under_le l x) (Nat.le_refl _) (by omega) (by omega)
/-- A number laid in where it belongs. -/
def insI (l : List Int) (x : Int) : List Int := if x ∈ l then l else l.take (under l x) ++ [x] ++ l.drop (under l x)
theorem insI_mem (l : List Int) (x y : Int) : y ∈ insI l x ↔ y ∈ l ∨ y = x := by
  unfold insI
  by_cases h : x ∈ l
  · rw [if_pos h]
    constructor
    · exact .inl
    · rintro (h1 | rfl)
      · exact h1
      · exact h
  · rw [if_neg h]
    have : y ∈ l ↔ y ∈ l.take (under l x) ∨ y ∈ l.drop (under l x) := by
      conv => lhs; rw [← List.take_append_drop (under l x) l]
      exact List.mem_append
    rw [List.mem_append, List.mem_append, this, List.mem_singleton]
    constructor
    · rintro ((h1 | h1) | h1)
      · exact .inl (.inl h1)
      · exact .inr h1
      · exact .inl (.inr h1)
    · rintro ((h1 | h1) | h1)
      · exact .inl (.inl h1)
      · exact .inr h1
      · exact .inl (.inr h1)
theorem insI_rise {l : List Int} (h : Rise l) (x : Int) : Rise (insI l x) := by
  unfold insI
  by_cases hx : x ∈ l
  · rw [if_pos hx]; exact h
  · rw [if_neg hx]
    have a1 : ∀ y ∈ l.take (under l x), y < x := by
      intro y hy
      obtain ⟨i, hi, he⟩ := List.mem_iff_getElem.1 hy
      rw [List.length_take] at hi
      have := (under_iff h x i (by omega)).2 (by omega)
      rw [List.getElem_take] at he
      simp [List.getD_eq_getElem?_getD, show i < l.length by omega, he] at this
      exact this
    have a2 : ∀ y ∈ l.drop (under l x), x < y := by
      intro y hy
      obtain ⟨i, hi, he⟩ := List.mem_iff_getElem.1 hy
      rw [List.length_drop] at hi
      have h2 := (under_iff h x (under l x + i) (by omega))
      rw [List.getElem_drop] at he
      simp [List.getD_eq_getElem?_getD, show under l x + i < l.length by omega, he] at h2
      have : y ≠ x := fun e => hx (by rw [← e]; exact List.mem_of_mem_drop hy)
      omega
    have b : Rise (l.take (under l x) ++ l.drop (under l x)) := by rw [List.take_append_drop]; exact h
    obtain ⟨b1, b2, b3⟩ := List.pairwise_append.1 b
    unfold Rise
    rw [List.pairwise_append]
    refine ⟨List.pairwise_append.2 ⟨b1, by simp, fun y hy z hz => by rw [List.mem_singleton.1 hz]; exact a1 y hy⟩, b2, fun y hy z hz => ?_⟩
    rcases List.mem_append.1 hy with hy | hy
    · exact b3 y hy z hz
    · rw [List.mem_singleton.1 hy]; exact a2 z hz
theorem insI_len (l : List Int) (x : Int) : (insI l x).length = if x ∈ l then l.length else l.length + 1 := by
  unfold insI
  have := under_le l x
  split
  · rfl
  · simp
    omega
/-- Rising lists of the same numbers are the same. -/
theorem rise_ext {l m : List Int} (hl : Rise l) (hm : Rise m) (h : ∀ x, x ∈ l ↔ x ∈ m) : l = m := by
  induction l generalizing m with
  | nil =>
    cases m with
    | nil => rfl
    | cons y m => have := (h y).2 (by simp); cases this
  | cons x l ih =>
    cases m with
    | nil => have := (h x).1 (by simp); cases this
    | cons y m =>
      have hx := List.pairwise_cons.1 hl
      have hy := List.pairwise_cons.1 hm
      have e : x = y := by
        rcases List.mem_cons.1 ((h x).1 (by simp)) with e | h1
        · exact e
        · rcases List.mem_cons.1 ((h y).2 (by simp)) with e | h2
          · exact e.symm
          · have := hy.1 x h1
            have := hx.1 y h2
            omega
      subst e
      rw [ih hx.2 hy.2 fun z => ⟨fun hz => ?_, fun hz => ?_⟩]
      · rcases List.mem_cons.1 ((h z).1 (by simp [hz])) with rfl | h1
        · have := hx.1 z hz; omega
        · exact h1
      · rcases List.mem_cons.1 ((h z).2 (by simp [hz])) with rfl | h1
        · have := hy.1 z hz; omega
        · exact h1
end Go.Proofs.Ytinpgejkkfpckaa.Pr
