/-
  Sums that stop at the greatest number, in plain lists: the program's and the document's are the same.
-/
import Derived.Test.YtinpgejkkfpckaaPr2
import Derived.Test.YtinpgejkkfpckaaQ1
namespace Go.Proofs.Ytinpgejkkfpckaa.Pr
open Go.RowKit Go.Proofs.YtinpgejkkfpckaaW.PrintWords
set_option linter.unusedVariables false
def i64 (x : Int) : Prop := -9223372036854775808 ≤ x ∧ x ≤ 9223372036854775807
/-- Numbers added up from n on, those below nought left out; past the greatest number: that, and 'true'. -/
def sumP : Int → List Int → Int × Bool
  | n, [] => (n, false)
  | n, x :: l => if 9223372036854775807 < n + (if 0 < x then x else 0) then (9223372036854775807, true) else sumP (n + (if 0 < x then x else 0)) l
theorem mx0 (x : Int) : mx x 0 = if 0 < x then x else 0 := by unfold mx; split <;> split <;> omega
theorem w64 {x : Int} (h : i64 x) : wrap64 x = x := by unfold wrap64; obtain ⟨h1, h2⟩ := h; omega
theorem u64w {x : Int} (h : 0 ≤ x) (h' : x < 18446744073709551616) : IntKind.u64.wrap x = x := by simp [IntKind.wrap, IntKind.bits, IntKind.signed]; omega
theorem sum_loop (l : List Int) (hl : l.length < 9223372036854775807) (hx : ∀ x ∈ l, i64 x) : ∀ (d i k : Nat) (n : Int), i ≤ l.length → l.length - i ≤ d → d < k → 0 ≤ n → n ≤ 9223372036854775807 →
    account_Sum.l0 k n l (l.length : Int) (i : Int) = some (sumP n (l.drop i))
  | d, i, 0, n, _, _, hk, _, _ => by omega
  | d, i, k + 1, n, h1, h2, h3, h4, h5 => by
    simp only [account_Sum.l0]
    by_cases hi : i < l.length
    · rw [if_pos (by omega), if_pos (by omega), if_pos (by omega), rd_nat]
      have e : l.drop i = l.getD i 0 :: l.drop (i + 1) := by
        rw [List.drop_eq_getElem_cons hi]
        simp [List.getD_eq_getElem?_getD, hi]
      have hm : i64 (l.getD i 0) := hx _ (by simp [List.getD_eq_getElem?_getD, hi])
      rw [e]
      generalize l.getD i 0 = x at hm ⊢
      unfold sumP
      rw [mx0]
      have hq : 0 ≤ (if 0 < x then x else 0) ∧ (if 0 < x then x else 0) ≤ 9223372036854775807 := by obtain ⟨_, _⟩ := hm; split <;> omega
      generalize (if 0 < x then x else 0) = y at hq ⊢
      obtain ⟨q1, q2⟩ := hq
      rw [w64 (x := 9223372036854775807 - y) ⟨by omega, by omega⟩]
      by_cases hb : 9223372036854775807 < n + y
      · rw [if_pos (by omega), if_pos hb]
      · rw [if_neg (by omega), if_neg hb, w64 (x := n + y) ⟨by omega, by omega⟩, wrap_succ i (by omega)]
        exact sum_loop l hl hx (d - 1) (i + 1) k (n + y) (by omega) (by omega) (by omega) (by omega) (by omega)
    · rw [if_neg (by omega), List.drop_of_length_le (by omega)]
      rfl
theorem sum_spec (l : List Int) (hl : l.length < 9223372036854775807) (hx : ∀ x ∈ l, i64 x) (k : Nat) (hk : l.length < k) : account_Sum.f k l = some (sumP 0 l) :=
  sum_loop l hl hx l.length 0 k 0 (by omega) (by omega) hk (by omega) (by omega)
theorem ref_sum_loop (l : List Int) (hl : l.length < 9223372036854775807) (hx : ∀ x ∈ l, i64 x) : ∀ (d i k : Nat) (n : Int), i ≤ l.length → l.length - i ≤ d → d < k → 0 ≤ n → n ≤ 9223372036854775807 →
    musterref27_Sum.l0 k l n (i : Int) = some (sumP n (l.drop i))
  | d, i, 0, n, _, _, hk, _, _ => by omega
  | d, i, k + 1, n, h1, h2, h3, h4, h5 => by
    simp only [musterref27_Sum.l0]
    by_cases hi : i < l.length
    · rw [if_pos (by omega), if_pos (by omega), rd_nat]
      have e : l.drop i = l.getD i 0 :: l.drop (i + 1) := by
        rw [List.drop_eq_getElem_cons hi]
        simp [List.getD_eq_getElem?_getD, hi]
      have hm : i64 (l.getD i 0) := hx _ (by simp [List.getD_eq_getElem?_getD, hi])
      rw [e]
      generalize l.getD i 0 = x at hm ⊢
      obtain ⟨m1, m2⟩ := hm
      unfold sumP
      rw [wrap_succ i (by omega)]
      by_cases hp : 0 < x
      · rw [if_pos (show x > 0 from hp), if_pos hp, u64w (x := x) (by omega) (by omega), u64w (x := n + x) (by omega) (by omega)]
        by_cases hb : 9223372036854775807 < n + x
        · rw [if_pos (by omega), if_pos hb]
        · rw [if_neg (by omega), if_neg hb]
          exact ref_sum_loop l hl hx (d - 1) (i + 1) k (n + x) (by omega) (by omega) (by omega) (by omega) (by omega)
      · rw [if_neg (by omega), if_neg (by omega), if_neg hp, if_neg (by omega), Int.add_zero]
        exact ref_sum_loop l hl hx (d - 1) (i + 1) k n (by omega) (by omega) (by omega) (by omega) (by omega)
    · rw [if_neg (by omega), List.drop_of_length_le (by omega), w64 ⟨by omega, by omega⟩]
      rfl
theorem ref_sum_spec (l : List Int) (hl : l.length < 9223372036854775807) (hx : ∀ x ∈ l, i64 x) (k : Nat) (hk : l.length < k) : musterref27_Sum.f k l = some (sumP 0 l) :=
  ref_sum_loop l hl hx l.length 0 k 0 (by omega) (by omega) hk (by omega) (by omega)
/-- What is told of a sum is between nought and the greatest number. -/
theorem sumP_le : ∀ (l : List Int) (n : Int), 0 ≤ n → n ≤ 9223372036854775807 → 0 ≤ (sumP n l).1 ∧ (sumP n l).1 ≤ 9223372036854775807
  | [], n, h1, h2 => ⟨h1, h2⟩
  | x :: l, n, h1, h2 => by
    unfold sumP
    have hq : 0 ≤ (if 0 < x then x else 0) := by split <;> omega
    generalize (if 0 < x then x else 0) = y at hq ⊢
    by_cases hb : 9223372036854775807 < n + y
    · rw [if_pos hb]
      exact ⟨by decide, by decide⟩
    · rw [if_neg hb]
      exact sumP_le l _ (by omega) (by omega)
theorem same_loop (l : List Int) (hl : l.length < 9223372036854775807) : ∀ (d i k : Nat), i ≤ l.length → l.length - i ≤ d → d < k → musterlow_SameNumbers.l0 k l l (i : Int) = some true
  | d, i, 0, _, _, hk => by omega
  | d, i, k + 1, h1, h2, h3 => by
    simp only [musterlow_SameNumbers.l0]
    by_cases hi : i < l.length
    · rw [if_pos (by omega), if_pos (by omega), if_pos (by omega)]
      rw [if_pos trivial, wrap_succ i (by omega)]
      exact same_loop l hl (d - 1) (i + 1) k (by omega) (by omega) (by omega)
    · rw [if_neg (by omega)]
theorem same_spec (l : List Int) (hl : l.length < 9223372036854775807) (k : Nat) (hk : l.length < k) : musterlow_SameNumbers.f k l l = some true := by
  unfold musterlow_SameNumbers.f
  rw [if_pos rfl]
  exact same_loop l hl l.length 0 k (by omega) (by omega) hk
end Go.Proofs.Ytinpgejkkfpckaa.Pr
