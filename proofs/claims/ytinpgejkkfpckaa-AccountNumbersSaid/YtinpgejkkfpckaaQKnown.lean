/-
  Events as a store that was told any events knows them.
-/
import Derived.Test.YtinpgejkkfpckaaQSame
namespace Go.Proofs.Ytinpgejkkfpckaa.Pr
open Go.RowKit Go.Proofs.YtinpgejkkfpckaaW.PrintWords
set_option linter.unusedVariables false
set_option linter.unusedSimpArgs false
/-- Each is right, no two of one id and kind, at most n. -/
structure KnownP (P : List Past) (n : Nat) : Prop where
  ok : ∀ p ∈ P, rightPast p = true
  nd : KeyND P
  len : P.length ≤ n
theorem KnownP.nil : KnownP [] 0 := ⟨by simp, List.Pairwise.nil, Nat.le_refl _⟩
/-- What is known behind a Take. -/
def takeP (P : List Past) (p : Past) : List Past := if (takeT P (idsP P) p).1 = true then P ++ [p] else P
theorem takeP_state (P : List Past) (p : Past) : (takeT P (idsP P) p).2.2 = (takeP P p, idsP (takeP P p)) := by
  unfold takeP takeT
  split
  · split
    · rfl
    · split
      · simp [idsP_snoc]
      · split
        · rfl
        · simp [idsP_snoc]
  · rfl
theorem takeP_true {P : List Past} {p : Past} (h : (takeT P (idsP P) p).1 = true) : rightPast p = true ∧ getP P p.id p.what = none := by
  unfold takeT at h
  split at h
  · rename_i hr
    split at h
    · cases h
    · rename_i hg
      exact ⟨hr, by simpa using hg⟩
  · cases h
theorem KnownP.take {P : List Past} {n : Nat} (h : KnownP P n) (p : Past) : KnownP (takeP P p) (n + 1) := by
  unfold takeP
  split
  · rename_i ht
    obtain ⟨a, b⟩ := takeP_true ht
    refine ⟨fun q hq => ?_, ?_, by have := h.len; simp; omega⟩
    · rcases List.mem_append.1 hq with hq | hq
      · exact h.ok q hq
      · rw [List.mem_singleton.1 hq]; exact a
    · unfold KeyND
      rw [List.pairwise_append]
      exact ⟨h.nd, by simp, fun q hq r hr => by rw [List.mem_singleton.1 hr]; exact getP_none.1 b q hq⟩
  · exact ⟨h.ok, h.nd, by have := h.len; omega⟩
theorem KnownP.mono {P : List Past} {n m : Nat} (h : KnownP P n) (hm : n ≤ m) : KnownP P m := ⟨h.ok, h.nd, Nat.le_trans h.len hm⟩
theorem KnownP.ids {P : List Past} {n : Nat} (h : KnownP P n) : (idsP P).length ≤ n := Nat.le_trans (idsP_len P) h.len
end Go.Proofs.Ytinpgejkkfpckaa.Pr
