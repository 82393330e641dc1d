/-
  What depends on a store's events alone; the ids of events; lists that are the same. No word of the document's.
-/
import Derived.Test.YtinpgejkkfpckaaHRuns
import Derived.Test.YtinpgejkkfpckaaHCopy
import Derived.Test.YtinpgejkkfpckaaQ2
import Derived.Test.YtinpgejkkfpckaaPr3
namespace Go.Proofs.Ytinpgejkkfpckaa.Pr
open Go.RowKit Go.Proofs.YtinpgejkkfpckaaW.PrintWords
set_option linter.unusedVariables false
set_option linter.unusedSimpArgs false
/-- The ids of events, rising. -/
def idsP (P : List Past) : List Int := P.foldl (fun ids p => insI ids p.id) []
theorem idsP_snoc (P : List Past) (p : Past) : idsP (P ++ [p]) = insI (idsP P) p.id := by simp [idsP, List.foldl_append]
theorem fold_rise : ∀ (P : List Past) (ids : List Int), Rise ids → Rise (P.foldl (fun ids p => insI ids p.id) ids)
  | [], ids, h => h
  | p :: P, ids, h => fold_rise P _ (insI_rise h p.id)
theorem idsP_rise (P : List Past) : Rise (idsP P) := fold_rise P [] List.Pairwise.nil
theorem fold_mem : ∀ (P : List Past) (ids : List Int) (x : Int), x ∈ P.foldl (fun ids p => insI ids p.id) ids ↔ x ∈ ids ∨ ∃ p ∈ P, p.id = x
  | [], ids, x => by simp
  | p :: P, ids, x => by
    rw [List.foldl_cons, fold_mem P _ x, insI_mem]
    constructor
    · rintro ((h | h) | ⟨q, hq, h⟩)
      · exact .inl h
      · exact .inr ⟨p, by simp, h.symm⟩
      · exact .inr ⟨q, by simp [hq], h⟩
    · rintro (h | ⟨q, hq, h⟩)
      · exact .inl (.inl h)
      · rcases List.mem_cons.1 hq with rfl | hq
        · exact .inl (.inr h.symm)
        · exact .inr ⟨q, hq, h⟩
theorem idsP_mem (P : List Past) (x : Int) : x ∈ idsP P ↔ ∃ p ∈ P, p.id = x := by unfold idsP; rw [fold_mem]; simp
theorem fold_len : ∀ (P : List Past) (ids : List Int), (P.foldl (fun ids p => insI ids p.id) ids).length ≤ ids.length + P.length
  | [], ids => by simp
  | p :: P, ids => by
    have h := fold_len P (insI ids p.id)
    rw [insI_len] at h
    rw [List.foldl_cons, List.length_cons]
    split at h <;> omega
theorem idsP_len (P : List Past) : (idsP P).length ≤ P.length := by have := fold_len P []; simpa [idsP] using this
theorem runP_same {P Q : List Past} (h : ∀ a b, getP Q a b = getP P a b) (id : Int) : runP Q id = runP P id := by unfold runP upd; rw [h, h, h]
theorem usedL_same {P Q : List Past} (h : ∀ a b, getP Q a b = getP P a b) (acc : ByteArray) (fr tt : Int) (ids : List Int) : usedL Q acc fr tt ids = usedL P acc fr tt ids := by
  have e : isOf Q acc = isOf P acc := by funext id; unfold isOf; rw [runP_same h]
  unfold usedL
  rw [e]
  congr 1
  funext id
  rw [runP_same h]
theorem totalP_same {P Q : List Past} (h : ∀ a b, getP Q a b = getP P a b) (ids : List Int) (acc : ByteArray) : totalP Q ids acc = totalP P ids acc := by
  funext a b
  unfold totalP
  rw [usedL_same h]
theorem rollR_same {P Q : List Past} (h : ∀ a b, getP Q a b = getP P a b) (ids : List Int) (acc : ByteArray) (fr tt span : Int) : rollR Q ids acc fr tt span = rollR P ids acc fr tt span := by
  unfold rollR
  rw [totalP_same h]
theorem runsL_same {P Q : List Past} (h : ∀ a b, getP Q a b = getP P a b) (name : ByteArray) (ids : List Int) : runsL Q name ids = runsL P name ids := by
  have e : isName Q name = isName P name := by funext id; unfold isName; rw [runP_same h]
  unfold runsL
  rw [e]
  congr 1
  funext id
  rw [runP_same h]
theorem rollR_len (P : List Past) (ids : List Int) (acc : ByteArray) (fr tt span : Int) : (rollR P ids acc fr tt span).1.length ≤ 1000 := by
  unfold rollR
  split
  · split
    · simp
    · simp only [rollL_len]; omega
  · simp
theorem sr_loop (l : List S56) (hl : l.length < 9223372036854775807) : ∀ (d i k : Nat), i ≤ l.length → l.length - i ≤ d → d < k → musterlaw27_sameRuns.l0 k l l (i : Int) = some true
  | d, i, 0, _, _, hk => by omega
  | d, i, k + 1, h1, h2, h3 => by
    simp only [musterlaw27_sameRuns.l0]
    by_cases hi : i < l.length
    · rw [if_pos (by omega), if_pos (by omega), if_pos (by omega)]
      simp only [beq_self_eq_true, Bool.not_true, Bool.or_self, Bool.false_eq_true, if_false]
      rw [wrap_succ i (by omega)]
      exact sr_loop l hl (d - 1) (i + 1) k (by omega) (by omega) (by omega)
    · rw [if_neg (by omega)]
theorem sr_spec (l : List S56) (hl : l.length < 9223372036854775807) (k : Nat) (hk : l.length < k) : musterlaw27_sameRuns.f k l l = some true := by
  unfold musterlaw27_sameRuns.f
  rw [if_pos rfl]
  exact sr_loop l hl l.length 0 k (by omega) (by omega) hk
end Go.Proofs.Ytinpgejkkfpckaa.Pr
