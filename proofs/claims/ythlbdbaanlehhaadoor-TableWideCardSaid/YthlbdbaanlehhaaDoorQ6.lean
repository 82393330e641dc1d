/-
  A text that is not broken bears no line's end; no line of a table does but behind it.
-/
import Derived.Test.YthlbdbaanlehhaaDoorQ5
import Derived.Test.YthlbdbaanlehhaaDoorHBroken
namespace Go.Proofs.YthlbdbaanlehhaaDoor.Pr
open Go.RowKit Go.Lib Go.Proofs.YthlbdbaanlehhaaDoorW.PrintWords Go.Proofs.YthlbdbaanlehhaaDoorW.PrintLast Go.Proofs.YthlbdbaanlehhaaDoor
set_option linter.unusedVariables false
theorem dn_cont (n b0 b1 b2 b3 : Nat) : (1 < (decodeN n b0 b1 b2 b3).2 → b1 / 64 = 2) ∧ (2 < (decodeN n b0 b1 b2 b3).2 → b2 / 64 = 2) ∧ (3 < (decodeN n b0 b1 b2 b3).2 → b3 / 64 = 2) := by
  unfold decodeN
  repeat' split
  all_goals (simp only; omega)
def noTen (b : ByteArray) : Prop := (10 : UInt8) ∉ b.data.toList
theorem in_rune (s : ByteArray) (i : Nat) (hi : i < s.size) : ∃ k, k < wid s ∧ posOf s k ≤ i ∧ i < posOf s (k + 1) := by
  have key : ∀ d k, wid s - k = d → k < wid s → posOf s k ≤ i → ∃ k, k < wid s ∧ posOf s k ≤ i ∧ i < posOf s (k + 1) := by
    intro d
    induction d with
    | zero => intro k hd hk _; omega
    | succ d ih =>
      intro k hd hk h
      by_cases h2 : i < posOf s (k + 1)
      · exact ⟨k, hk, h, h2⟩
      · have h3 : k + 1 < wid s := by
          rcases Nat.lt_or_ge (k + 1) (wid s) with h3 | h3
          · exact h3
          · have e : k + 1 = wid s := by omega
            rw [e, posOf_wid] at h2
            omega
        exact ih (k + 1) (by omega) h3 (by omega)
  refine key _ 0 rfl ?_ (Nat.zero_le _)
  rcases Nat.eq_zero_or_pos (wid s) with h | h
  · have := posOf_wid s
    rw [h] at this
    have h0 : posOf s 0 = 0 := rfl
    omega
  · exact h
theorem broken_ten {s : ByteArray} (h : brokenB s = false) : noTen s := by
  intro hm
  obtain ⟨i, hi, he⟩ := List.mem_iff_getElem.1 hm
  have hi' : i < s.size := by rwa [size_list] at hi
  have hg : s.data.toList.getD i 0 = 10 := by rw [List.getD_eq_getElem?_getD, List.getElem?_eq_getElem hi, he]; rfl
  obtain ⟨k, hk, h1, h2⟩ := in_rune s i hi'
  unfold brokenB at h
  rw [List.any_eq_false] at h
  have hb := h k (List.mem_range.2 hk)
  have h2' : i < posOf s k + (Utf8.decode s (posOf s k)).2 := h2
  rw [decode_N] at h2'
  unfold badAt at hb
  rw [decode_N] at hb
  have hc := dn_cont (s.data.toList.length - posOf s k) (s.data.toList.getD (posOf s k) 0).toNat (s.data.toList.getD (posOf s k + 1) 0).toNat (s.data.toList.getD (posOf s k + 2) 0).toNat (s.data.toList.getD (posOf s k + 3) 0).toNat
  have h4 := dn_four (s.data.toList.length - posOf s k) (s.data.toList.getD (posOf s k) 0).toNat (s.data.toList.getD (posOf s k + 1) 0).toNat (s.data.toList.getD (posOf s k + 2) 0).toNat (s.data.toList.getD (posOf s k + 3) 0).toNat
  have ht : (10 : UInt8).toNat / 64 ≠ 2 := by decide
  rcases Nat.lt_or_ge (posOf s k) i with h5 | h5
  · by_cases e1 : i = posOf s k + 1
    · have := hc.1 (by omega)
      rw [← e1, hg] at this
      exact ht this
    · by_cases e2 : i = posOf s k + 2
      · have := hc.2.1 (by omega)
        rw [← e2, hg] at this
        exact ht this
      · have e3 : i = posOf s k + 3 := by omega
        have := hc.2.2 (by omega)
        rw [← e3, hg] at this
        exact ht this
  · have e : posOf s k = i := by omega
    rw [e, hg] at hb
    rw [decodeN_ascii _ _ _ _ _ (by decide)] at hb
    simp at hb
theorem ten_blanks (c : Nat) : noTen (blanks c) := by
  unfold noTen
  rw [blanks_list]
  intro h
  have := List.eq_of_mem_replicate h
  exact absurd this (by decide)
theorem ten_append {a b : ByteArray} (ha : noTen a) (hb : noTen b) : noTen (a ++ b) := by
  unfold noTen at *
  rw [append_list]
  intro h
  rcases List.mem_append.1 h with h | h
  · exact ha h
  · exact hb h
theorem ten_empty : noTen ByteArray.empty := by
  unfold noTen
  simp
theorem ten_fit {s : ByteArray} (h : noTen s) (w : Int) (r : Bool) : noTen (fit s w r) := by
  unfold fit
  by_cases h1 : w < 1
  · rw [if_pos h1]; exact ten_empty
  · rw [if_neg h1]
    by_cases h2 : w < (wid s : Int)
    · rw [if_pos h2]
      unfold noTen
      rw [cut_list s _ (posOf_le s _ (by omega))]
      exact fun hm => h (List.mem_of_mem_take hm)
    · rw [if_neg h2]
      split
      · exact ten_append (ten_blanks _) h
      · exact ten_append h (ten_blanks _)
theorem ten_fits (cs : List S49) : ∀ xs : List ByteArray, (∀ x ∈ xs, noTen x) → ∀ y ∈ fits cs xs, noTen y := by
  induction cs with
  | nil => intro xs _ y hy; cases hy
  | cons c cs ih =>
    intro xs h y hy
    simp only [fits, List.mem_cons] at hy
    rcases hy with rfl | hy
    · apply ten_fit
      cases xs with
      | nil => exact ten_empty
      | cons x xs => exact h x (by simp)
    · refine ih xs.tail (fun x hx => h x ?_) y hy
      exact List.mem_of_mem_tail hx
theorem ten_tail : ∀ l : List ByteArray, (∀ y ∈ l, noTen y) → noTen (tailB l) := by
  intro l
  induction l with
  | nil => intro _; exact ten_empty
  | cons y l ih => intro h; exact ten_append (ten_blanks 1) (ten_append (h y (by simp)) (ih fun z hz => h z (by simp [hz])))
theorem ten_row (cs : List S49) (xs : List ByteArray) (h : ∀ x ∈ xs, noTen x) : noTen (rowB cs xs) := by
  have hf := ten_fits cs xs h
  unfold rowB
  cases hfs : fits cs xs with
  | nil => exact ten_empty
  | cons x r =>
    rw [hfs] at hf
    exact ten_append (hf x (by simp)) (ten_tail r fun y hy => hf y (by simp [hy]))
end Go.Proofs.YthlbdbaanlehhaaDoor.Pr
