/-
  How many runes a string has that is cut, or has blanks beside it.
-/
import Derived.Test.YthlbdbaanlehhaaDoorQ1
import Derived.Test.YthlbdbaanlehhaaDoorHFit
namespace Go.Proofs.YthlbdbaanlehhaaDoor
open Go.Lib Go.Proofs.YthlbdbaanlehhaaDoor.Pr
set_option linter.unusedVariables false
theorem dn_le (n b0 b1 b2 b3 : Nat) (hn : 1 ≤ n) : (decodeN n b0 b1 b2 b3).2 ≤ n := by
  unfold decodeN
  repeat' split
  all_goals (simp only; omega)
theorem size_list (s : ByteArray) : s.data.toList.length = s.size := by
  rw [Array.length_toList]
  rfl
theorem dec_le (s : ByteArray) (p : Nat) (h : p < s.size) : p + (Utf8.decode s p).2 ≤ s.size := by
  rw [decode_N, size_list]
  have := dn_le (s.size - p) (s.data.toList.getD p 0).toNat (s.data.toList.getD (p + 1) 0).toNat (s.data.toList.getD (p + 2) 0).toNat (s.data.toList.getD (p + 3) 0).toNat (by omega)
  omega
theorem cut_list (s : ByteArray) (m : Nat) (h : m ≤ s.size) : (s.extract 0 m).data.toList = s.data.toList.take m := by
  simp [ByteArray.data_extract, Array.toList_extract]
theorem cut_size (s : ByteArray) (m : Nat) (h : m ≤ s.size) : (s.extract 0 m).size = m := by
  simp [ByteArray.size_extract]; omega
theorem dec_cut (s : ByteArray) (m p : Nat) (hm : m ≤ s.size) (hp : p < m) (hw : p + (Utf8.decode s p).2 ≤ m) : Utf8.decode (s.extract 0 m) p = Utf8.decode s p := by
  rw [decode_N s, size_list] at hw
  rw [decode_N, decode_N s, size_list s, size_list, cut_size s m hm, cut_list s m hm, getD_takeU _ _ _ hp]
  refine dn_cut _ _ _ _ _ _ _ _ _ (by omega) ?_ (fun h => ?_) (fun h => ?_) (fun h => ?_)
  · omega
  · rw [getD_takeU _ _ _ (by omega)]
  · rw [getD_takeU _ _ _ (by omega)]
  · rw [getD_takeU _ _ _ (by omega)]
theorem append_list (a b : ByteArray) : (a ++ b).data.toList = a.data.toList ++ b.data.toList := by simp
theorem blank_at (c : Nat) (i : Nat) : ((List.replicate c (32 : UInt8)).getD i 0).toNat / 64 ≠ 2 := by
  rw [List.getD_eq_getElem?_getD, List.getElem?_replicate]
  split <;> simp
theorem after_getD (l : List UInt8) (c i : Nat) (h : i < l.length) : (l ++ List.replicate c (32 : UInt8)).getD i 0 = l.getD i 0 := by
  rw [List.getD_eq_getElem?_getD, List.getElem?_append_left h, List.getD_eq_getElem?_getD]
theorem after_blank (l : List UInt8) (c i : Nat) (h : ¬ i < l.length) : ((l ++ List.replicate c (32 : UInt8)).getD i 0).toNat / 64 ≠ 2 := by
  rw [List.getD_eq_getElem?_getD, List.getElem?_append_right (by omega), ← List.getD_eq_getElem?_getD]
  exact blank_at _ _
theorem blanks_list (c : Nat) : (blanks c).data.toList = List.replicate c 32 := by unfold blanks; simp
theorem dec_after (s : ByteArray) (c p : Nat) (hp : p < s.size) : Utf8.decode (s ++ blanks c) p = Utf8.decode s p := by
  rw [decode_N, decode_N s, append_list, blanks_list, List.length_append, List.length_replicate, size_list, after_getD _ _ _ (by rw [size_list]; exact hp)]
  have hl := size_list s
  refine dn_ext _ _ _ _ _ _ _ _ _ (by omega) (fun h => ?_) (fun h => ?_) (fun h => ?_) (fun h => after_blank _ _ _ (by omega)) (fun h => after_blank _ _ _ (by omega)) (fun h => after_blank _ _ _ (by omega))
  · rw [after_getD _ _ _ (by omega)]
  · rw [after_getD _ _ _ (by omega)]
  · rw [after_getD _ _ _ (by omega)]
theorem before_getD (l : List UInt8) (c i : Nat) : (List.replicate c (32 : UInt8) ++ l).getD (c + i) 0 = l.getD i 0 := by
  rw [List.getD_eq_getElem?_getD, List.getElem?_append_right (by simp), List.length_replicate, Nat.add_sub_cancel_left, List.getD_eq_getElem?_getD]
theorem dec_before (s : ByteArray) (c p : Nat) : Utf8.decode (blanks c ++ s) (c + p) = Utf8.decode s p := by
  rw [decode_N, decode_N s, append_list, blanks_list, List.length_append, List.length_replicate, before_getD, Nat.add_assoc, before_getD, Nat.add_assoc, before_getD, Nat.add_assoc, before_getD]
  congr 1
  omega
theorem dec_lead (s : ByteArray) (c j : Nat) (hj : j < c) : Utf8.decode (blanks c ++ s) j = (32, 1) := by
  rw [decode_N, append_list, blanks_list]
  have e : (List.replicate c (32 : UInt8) ++ s.data.toList).getD j 0 = 32 := by
    rw [List.getD_eq_getElem?_getD, List.getElem?_append_left (by simpa using hj), List.getElem?_replicate, if_pos hj]
    rfl
  rw [e]
  exact decodeN_ascii _ _ _ _ _ (by decide)
theorem dec_tail (s : ByteArray) (c j : Nat) (hj : j < c) : Utf8.decode (s ++ blanks c) (s.size + j) = (32, 1) := by
  rw [decode_N, append_list, blanks_list]
  have e : (s.data.toList ++ List.replicate c (32 : UInt8)).getD (s.size + j) 0 = 32 := by
    rw [List.getD_eq_getElem?_getD, List.getElem?_append_right (by rw [size_list]; omega), size_list, Nat.add_sub_cancel_left, List.getElem?_replicate, if_pos hj]
    rfl
  rw [e]
  exact decodeN_ascii _ _ _ _ _ (by decide)
/-! ### where runes begin -/
theorem posOf_mono (s : ByteArray) {i j : Nat} (h : i ≤ j) : posOf s i ≤ posOf s j := by
  induction j with
  | zero => have : i = 0 := by omega
            subst this; exact Nat.le_refl _
  | succ j ih =>
    by_cases e : i = j + 1
    · subst e; exact Nat.le_refl _
    · exact Nat.le_trans (ih (by omega)) (Nat.le_add_right _ _)
theorem posOf_le (s : ByteArray) (j : Nat) (h : j ≤ wid s) : posOf s j ≤ s.size := by
  cases j with
  | zero => exact Nat.zero_le _
  | succ j => exact dec_le s _ (wid_lt s j (by omega))
theorem posOf_wid (s : ByteArray) : posOf s (wid s) = s.size := by
  have h1 := wid_end s
  have h2 := posOf_le s (wid s) (Nat.le_refl _)
  omega
theorem posOf_cut (s : ByteArray) (n : Nat) (hn : n ≤ wid s) : ∀ j, j ≤ n → posOf (s.extract 0 (posOf s n)) j = posOf s j := by
  intro j
  induction j with
  | zero => intro _; rfl
  | succ j ih =>
    intro hj
    have h1 := ih (by omega)
    have hlt := wid_lt s j (by omega)
    have hw := width_pos s _ hlt
    have hm : posOf s (j + 1) ≤ posOf s n := posOf_mono s hj
    have hm' : posOf s j + (Utf8.decode s (posOf s j)).2 ≤ posOf s n := hm
    show posOf _ j + (Utf8.decode _ (posOf _ j)).2 = posOf s j + (Utf8.decode s (posOf s j)).2
    rw [h1, dec_cut s _ _ (posOf_le s n hn) (by omega) hm']
theorem wid_cut (s : ByteArray) (n : Nat) (hn : n ≤ wid s) : wid (s.extract 0 (posOf s n)) = n := by
  have hs := cut_size s _ (posOf_le s n hn)
  refine wid_is _ n (fun j hj => ?_) ?_
  · rw [posOf_cut s n hn j (by omega), hs]
    have hlt := wid_lt s j (by omega)
    have hw := width_pos s _ hlt
    have hm : posOf s (j + 1) ≤ posOf s n := posOf_mono s hj
    have hm' : posOf s j + (Utf8.decode s (posOf s j)).2 ≤ posOf s n := hm
    omega
  · rw [posOf_cut s n hn n (Nat.le_refl _), hs]
    omega
theorem posOf_lead (s : ByteArray) (c : Nat) : ∀ j, j ≤ c → posOf (blanks c ++ s) j = j := by
  intro j
  induction j with
  | zero => intro _; rfl
  | succ j ih =>
    intro hj
    show posOf _ j + (Utf8.decode _ (posOf _ j)).2 = j + 1
    rw [ih (by omega), dec_lead s c j (by omega)]
theorem posOf_before (s : ByteArray) (c : Nat) : ∀ k, posOf (blanks c ++ s) (c + k) = c + posOf s k := by
  intro k
  induction k with
  | zero => exact posOf_lead s c c (Nat.le_refl _)
  | succ k ih =>
    show posOf _ (c + k) + (Utf8.decode _ (posOf _ (c + k))).2 = c + (posOf s k + (Utf8.decode s (posOf s k)).2)
    rw [ih, dec_before]
    omega
theorem wid_before (s : ByteArray) (c : Nat) : wid (blanks c ++ s) = c + wid s := by
  have hs : (blanks c ++ s).size = c + s.size := by rw [ByteArray.size_append, blanks_size]
  refine wid_is _ _ (fun j hj => ?_) ?_
  · rw [hs]
    by_cases h : j < c
    · rw [posOf_lead s c j (by omega)]
      omega
    · obtain ⟨k, rfl⟩ : ∃ k, j = c + k := ⟨j - c, by omega⟩
      rw [posOf_before]
      have := wid_lt s k (by omega)
      omega
  · rw [hs, posOf_before, posOf_wid]
    omega
theorem posOf_after (s : ByteArray) (c : Nat) : ∀ k, k ≤ wid s → posOf (s ++ blanks c) k = posOf s k := by
  intro k
  induction k with
  | zero => intro _; rfl
  | succ k ih =>
    intro hk
    show posOf _ k + (Utf8.decode _ (posOf _ k)).2 = posOf s k + (Utf8.decode s (posOf s k)).2
    rw [ih (by omega), dec_after s c _ (wid_lt s k (by omega))]
theorem posOf_tail (s : ByteArray) (c : Nat) : ∀ j, j ≤ c → posOf (s ++ blanks c) (wid s + j) = s.size + j := by
  intro j
  induction j with
  | zero => intro _; rw [Nat.add_zero, posOf_after s c _ (Nat.le_refl _), posOf_wid]; rfl
  | succ j ih =>
    intro hj
    show posOf _ (wid s + j) + (Utf8.decode _ (posOf _ (wid s + j))).2 = s.size + (j + 1)
    rw [ih (by omega), dec_tail s c j (by omega)]
    rfl
theorem wid_after (s : ByteArray) (c : Nat) : wid (s ++ blanks c) = wid s + c := by
  have hs : (s ++ blanks c).size = s.size + c := by rw [ByteArray.size_append, blanks_size]
  refine wid_is _ _ (fun j hj => ?_) ?_
  · rw [hs]
    by_cases h : j < wid s
    · rw [posOf_after s c j (by omega)]
      have := wid_lt s j h
      omega
    · obtain ⟨k, rfl⟩ : ∃ k, j = wid s + k := ⟨j - wid s, by omega⟩
      rw [posOf_tail s c k (by omega)]
      omega
  · rw [hs, posOf_tail s c c (Nat.le_refl _)]
    omega
end Go.Proofs.YthlbdbaanlehhaaDoor
