/-
  Rising numbers and where one stands among them, in plain lists.
-/
import Derived.Test.YtafnjlgdjhegaaaPr0
namespace Go.Proofs.Ytafnjlgdjhegaaa.Pr
open Go.RowKit Go.Proofs.YtafnjlgdjhegaaaW.PrintWords
set_option linter.unusedVariables false
/-- Do numbers rise, from above one, to the greatest? -/
def rises : Int → List Int → Bool
  | _, [] => true
  | a, x :: l => !decide (x ≤ a) && !decide (4611686018427387904 < x) && rises x l
theorem rises_mem {l : List Int} : ∀ {a : Int}, rises a l = true → ∀ x ∈ l, a < x ∧ x ≤ 4611686018427387904 := by
  induction l with
  | nil => intro a _ x hx; cases hx
  | cons y l ih =>
    intro a h x hx
    simp only [rises, Bool.and_eq_true, Bool.not_eq_true', decide_eq_false_iff_not] at h
    rcases List.mem_cons.1 hx with rfl | hx
    · omega
    · have := ih h.2 x hx
      omega
theorem rises_iff {l : List Int} : ∀ {a : Int}, rises a l = true ↔ l.Pairwise (· < ·) ∧ ∀ x ∈ l, a < x ∧ x ≤ 4611686018427387904 := by
  induction l with
  | nil => intro a; simp [rises]
  | cons y l ih =>
    intro a
    constructor
    · intro h
      refine ⟨?_, rises_mem h⟩
      simp only [rises, Bool.and_eq_true] at h
      exact List.pairwise_cons.2 ⟨fun x hx => (rises_mem h.2 x hx).1, (ih.1 h.2).1⟩
    · rintro ⟨h1, h2⟩
      rw [List.pairwise_cons] at h1
      simp only [rises, Bool.and_eq_true, Bool.not_eq_true', decide_eq_false_iff_not]
      have := h2 y (by simp)
      exact ⟨⟨by omega, by omega⟩, ih.2 ⟨h1.2, fun x hx => ⟨h1.1 x hx, (h2 x (by simp [hx])).2⟩⟩⟩
theorem drop_getD {l : List Int} {j : Nat} (h : j < l.length) : l.drop j = l.getD j 0 :: l.drop (j + 1) := by
  rw [List.drop_eq_getElem_cons h]
  simp [List.getD_eq_getElem?_getD, h]
theorem mid_wrap (a b : Nat) (h : a < 9223372036854775808) (h' : b < 9223372036854775808) : wrap64 (IntKind.u64.wrap (wrap64 ((a : Int) + b)) / 2) = ((a + b) / 2 : Nat) := by
  simp [wrap64, IntKind.wrap, IntKind.bits, IntKind.signed]
  omega
/-- Is it a whole number of 64 bits? -/
def i64 (x : Int) : Prop := -9223372036854775808 ≤ x ∧ x ≤ 9223372036854775807
theorem rises_lt {T : List Int} (h : rises 0 T = true) {i j : Nat} (hij : i < j) (hj : j < T.length) : T.getD i 0 < T.getD j 0 := by
  have := List.pairwise_iff_getElem.1 (rises_iff.1 h).1 i j (by omega) hj hij
  simpa [List.getD_eq_getElem?_getD, hj, show i < T.length by omega] using this
theorem rises_at {T : List Int} (h : rises 0 T = true) {i : Nat} (hi : i < T.length) : 1 ≤ T.getD i 0 ∧ T.getD i 0 ≤ 4611686018427387904 := by
  have := (rises_iff.1 h).2 (T.getD i 0) (by simp [List.getD_eq_getElem?_getD, hi])
  omega
/-- Where a number stands among numbers, or would; whether it does. -/
def Found (T : List Int) (n : Int) (i : Nat) (b : Bool) : Prop := i ≤ T.length ∧ (b = true ↔ i < T.length ∧ T.getD i 0 = n) ∧ (rises 0 T = true → 1 ≤ n → (∀ j, j < i → T.getD j 0 < n) ∧ ∀ j, i ≤ j → j < T.length → n ≤ T.getD j 0)
theorem cmp_zero {x n : Int} (hx : i64 x) (hn : i64 n) : wrap64 (x - n) = 0 ↔ x = n := by
  unfold wrap64
  obtain ⟨_, _⟩ := hx
  obtain ⟨_, _⟩ := hn
  omega
theorem cmp_neg {x n : Int} (h1 : 1 ≤ x) (h2 : x ≤ 4611686018427387904) (hn : i64 n) (h3 : 1 ≤ n) : wrap64 (x - n) < 0 ↔ x < n := by
  unfold wrap64
  obtain ⟨_, _⟩ := hn
  omega
end Go.Proofs.Ytafnjlgdjhegaaa.Pr
