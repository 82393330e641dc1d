/-
  How a rune is read where a string is cut, or goes on with a blank: plain arithmetic on bytes.
-/
import Derived.Lib.TrimUEq
namespace Go.Proofs.YthlbdbaanlehhaaDoor
open Go.Lib
set_option linter.unusedVariables false
set_option maxRecDepth 100000 in
set_option maxHeartbeats 4000000 in
theorem dn_cut (n n' b0 b1 b2 b3 c1 c2 c3 : Nat) (hn : n' ≤ n) (hw : (decodeN n b0 b1 b2 b3).2 ≤ n') (e1 : 1 < n' → c1 = b1) (e2 : 2 < n' → c2 = b2) (e3 : 3 < n' → c3 = b3) :
    decodeN n' b0 c1 c2 c3 = decodeN n b0 b1 b2 b3 := by
  by_cases h1 : 1 < n'
  · have := e1 h1
    subst this
    by_cases h2 : 2 < n'
    · have := e2 h2
      subst this
      by_cases h3 : 3 < n'
      · have := e3 h3
        subst this
        have a1 : (1 < n') = (1 < n) := propext ⟨fun _ => by omega, fun _ => h1⟩
        have a2 : (2 < n') = (2 < n) := propext ⟨fun _ => by omega, fun _ => h2⟩
        have a3 : (3 < n') = (3 < n) := propext ⟨fun _ => by omega, fun _ => h3⟩
        unfold decodeN
        simp only [a1, a2, a3]
      · clear e1 e2 e3
        unfold decodeN at hw ⊢
        repeat' split at hw
        all_goals (repeat' split)
        all_goals first | rfl | (exfalso; simp only at hw; omega)
    · clear e1 e2 e3
      unfold decodeN at hw ⊢
      repeat' split at hw
      all_goals (repeat' split)
      all_goals first | rfl | (exfalso; simp only at hw; omega)
  · clear e1 e2 e3
    unfold decodeN at hw ⊢
    repeat' split at hw
    all_goals (repeat' split)
    all_goals first | rfl | (exfalso; simp only at hw; omega)
set_option maxRecDepth 100000 in
set_option maxHeartbeats 4000000 in
theorem dn_ext (n n' b0 b1 b2 b3 c1 c2 c3 : Nat) (hn : n ≤ n') (e1 : 1 < n → c1 = b1) (e2 : 2 < n → c2 = b2) (e3 : 3 < n → c3 = b3) (f1 : ¬ 1 < n → c1 / 64 ≠ 2) (f2 : ¬ 2 < n → c2 / 64 ≠ 2) (f3 : ¬ 3 < n → c3 / 64 ≠ 2) :
    decodeN n' b0 c1 c2 c3 = decodeN n b0 b1 b2 b3 := by
  have a1 : (1 < n' ∧ c1 / 64 = 2) = (1 < n ∧ b1 / 64 = 2) := propext ⟨fun h => by
    by_cases h1 : 1 < n
    · rw [← e1 h1]; exact ⟨h1, h.2⟩
    · exact absurd h.2 (f1 h1), fun h => by rw [e1 h.1]; exact ⟨by omega, h.2⟩⟩
  have a2 : (2 < n' ∧ c2 / 64 = 2) = (2 < n ∧ b2 / 64 = 2) := propext ⟨fun h => by
    by_cases h1 : 2 < n
    · rw [← e2 h1]; exact ⟨h1, h.2⟩
    · exact absurd h.2 (f2 h1), fun h => by rw [e2 h.1]; exact ⟨by omega, h.2⟩⟩
  have a3 : (3 < n' ∧ c3 / 64 = 2) = (3 < n ∧ b3 / 64 = 2) := propext ⟨fun h => by
    by_cases h1 : 3 < n
    · rw [← e3 h1]; exact ⟨h1, h.2⟩
    · exact absurd h.2 (f3 h1), fun h => by rw [e3 h.1]; exact ⟨by omega, h.2⟩⟩
  unfold decodeN
  simp only [a1, a2, a3]
  by_cases h1 : 1 < n
  · have := e1 h1
    subst this
    by_cases h2 : 2 < n
    · have := e2 h2
      subst this
      by_cases h3 : 3 < n
      · have := e3 h3
        subst this
        rfl
      · simp only [h3, false_and, and_false, if_false]
    · simp only [h2, false_and, and_false, if_false]
  · simp only [h1, false_and, and_false, if_false]
end Go.Proofs.YthlbdbaanlehhaaDoor
