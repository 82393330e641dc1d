/-
  Where the runes of a string begin: in plain Lean, over the model's own reading of UTF-8.
-/
import Derived.Laws.RangeAny
import Derived.Laws.Runes
namespace Go.Proofs.YthlbdbaanlehhaaDoor
set_option linter.unusedVariables false
theorem width_pos (s : ByteArray) (pos : Nat) (h : pos < s.size) : 1 ≤ (Utf8.decode s pos).2 := by
  by_cases ha : (s[pos]'h).toNat < 128
  · rw [decode_ascii s pos h ha]
    exact Nat.le_refl _
  · exact (decode_high s pos h (by omega)).2
/-- Where the rune with the number k begins; behind the last, where it would. -/
def posOf (s : ByteArray) : Nat → Nat
  | 0 => 0
  | k + 1 => posOf s k + (Utf8.decode s (posOf s k)).2
def widF (s : ByteArray) : Nat → Nat → Nat
  | 0, k => k
  | f + 1, k => if posOf s k < s.size then widF s f (k + 1) else k
/-- How many runes. -/
def wid (s : ByteArray) : Nat := widF s s.size 0
theorem posOf_ge (s : ByteArray) (k : Nat) (h : ∀ j, j < k → posOf s j < s.size) : k ≤ posOf s k := by
  induction k with
  | zero => exact Nat.zero_le _
  | succ k ih =>
    have h1 := ih fun j hj => h j (by omega)
    have h2 := width_pos s (posOf s k) (h k (by omega))
    show k + 1 ≤ posOf s k + _
    omega
theorem widF_is (s : ByteArray) (n : Nat) (h1 : ∀ j, j < n → posOf s j < s.size) (h2 : ¬ posOf s n < s.size) : ∀ f k, k ≤ n → n ≤ f + k → widF s f k = n := by
  intro f
  induction f with
  | zero => intro k h3 h4; simp only [widF]; omega
  | succ f ih =>
    intro k h3 h4
    simp only [widF]
    by_cases e : k = n
    · subst e
      rw [if_neg h2]
    · rw [if_pos (h1 k (by omega))]
      exact ih (k + 1) (by omega) (by omega)
theorem wid_is (s : ByteArray) (n : Nat) (h1 : ∀ j, j < n → posOf s j < s.size) (h2 : ¬ posOf s n < s.size) : wid s = n := by
  refine widF_is s n h1 h2 s.size 0 (by omega) ?_
  cases n with
  | zero => omega
  | succ n =>
    have h3 := posOf_ge s n fun j hj => h1 j (by omega)
    have h4 := h1 n (by omega)
    omega
/-- Is k behind all its forerunners inside? -/
theorem wid_ex (s : ByteArray) : ∃ n, (∀ j, j < n → posOf s j < s.size) ∧ ¬ posOf s n < s.size := by
  have key : ∀ d k, s.size - k ≤ d → (∀ j, j < k → posOf s j < s.size) → ∃ n, (∀ j, j < n → posOf s j < s.size) ∧ ¬ posOf s n < s.size := by
    intro d
    induction d with
    | zero =>
      intro k hd hk
      have := posOf_ge s k hk
      exact ⟨k, hk, by omega⟩
    | succ d ih =>
      intro k hd hk
      by_cases h : posOf s k < s.size
      · have := posOf_ge s k hk
        exact ih (k + 1) (by omega) fun j hj => by
          by_cases e : j = k
          · subst e; exact h
          · exact hk j (by omega)
      · exact ⟨k, hk, h⟩
  exact key _ 0 (Nat.le_refl _) fun j hj => by omega
theorem wid_lt (s : ByteArray) (j : Nat) (h : j < wid s) : posOf s j < s.size := by
  obtain ⟨n, h1, h2⟩ := wid_ex s
  rw [wid_is s n h1 h2] at h
  exact h1 j h
theorem wid_end (s : ByteArray) : ¬ posOf s (wid s) < s.size := by
  obtain ⟨n, h1, h2⟩ := wid_ex s
  rw [wid_is s n h1 h2]
  exact h2
theorem wid_gt (s : ByteArray) (k : Nat) (h : ∀ j, j ≤ k → posOf s j < s.size) : k < wid s := by
  rcases Nat.lt_or_ge k (wid s) with h1 | h1
  · exact h1
  · exact absurd (h _ h1) (wid_end s)
theorem wid_le (s : ByteArray) : wid s ≤ s.size := by
  rcases Nat.eq_zero_or_pos (wid s) with h | h
  · omega
  · have h1 := wid_lt s (wid s - 1) (by omega)
    have h2 := posOf_ge s (wid s - 1) fun j hj => wid_lt s j (by omega)
    omega
end Go.Proofs.YthlbdbaanlehhaaDoor
