/-
  What is known of a run whose events are right; what it used, told without wrapping. No word of the document's.
-/
import Derived.Test.YtinpgejkkfpckaaQSame
namespace Go.Proofs.Ytinpgejkkfpckaa.Pr
open Go.RowKit Go.Proofs.YtinpgejkkfpckaaW.PrintWords Go.Proofs.YtinpgejkkfpckaaW.PrintLast Go.Proofs.YtinpgejkkfpckaaW.PrintMore
set_option linter.unusedVariables false
set_option linter.unusedSimpArgs false
/-- Events as they are known: each is right. -/
def OkP (P : List Past) : Prop := ∀ p ∈ P, rightPast p = true
theorem right_fit {p : Past} (h : rightPast p = true) : fitP p.id p.what p.at_ p.acc p.usr p.nodes p.cores := by
  unfold rightPast rightP at h
  rw [Bool.and_eq_true, decide_eq_true_eq] at h
  exact h.1
theorem getP_mem {P : List Past} {a b : Int} {p : Past} (h : getP P a b = some p) : p ∈ P := List.mem_of_find?_eq_some h
def RunOk (r : RunT) : Prop := (0 ≤ r.nodes ∧ r.nodes ≤ 32) ∧ (0 ≤ r.cores ∧ r.cores ≤ 64) ∧ (-1 ≤ r.start ∧ r.start ≤ 1099511627776) ∧ (-1 ≤ r.stop ∧ r.stop ≤ 1099511627776)
theorem run_ok {P : List Past} (ho : OkP P) (id : Int) : RunOk (runP P id) := by
  have f : ∀ {q : Int} {p : Past}, getP P id q = some p → (0 ≤ p.nodes ∧ p.nodes ≤ 32) ∧ (0 ≤ p.cores ∧ p.cores ≤ 64) ∧ 0 ≤ p.at_ ∧ p.at_ ≤ 1099511627776 := fun {q p} h => by
    obtain ⟨_, _, _, _, h5, h6, _, _, h9, h10, h11, h12⟩ := right_fit (ho p (getP_mem h))
    exact ⟨⟨h9, h10⟩, ⟨h11, h12⟩, h5, h6⟩
  have s0 : RunOk (run0 id) := by simp [RunOk, run0]
  have s1 : RunOk (upd P id 3 with3 (run0 id)) := by
    unfold upd
    cases h : getP P id 3 with
    | none => exact s0
    | some p =>
      obtain ⟨a, b, c, d⟩ := f h
      exact ⟨a, b, s0.2.2.1, by show -1 ≤ p.at_; omega, d⟩
  have s2 : RunOk (upd P id 2 with2 (upd P id 3 with3 (run0 id))) := by
    generalize upd P id 3 with3 (run0 id) = r at s1 ⊢
    unfold upd
    cases h : getP P id 2 with
    | none => exact s1
    | some p =>
      obtain ⟨a, b, c, d⟩ := f h
      exact ⟨a, b, ⟨by show -1 ≤ p.at_; omega, d⟩, s1.2.2.2⟩
  unfold runP
  generalize upd P id 2 with2 (upd P id 3 with3 (run0 id)) = r at s2 ⊢
  unfold upd
  cases h : getP P id 1 with
  | none => exact s2
  | some p =>
    obtain ⟨a, b, c, d⟩ := f h
    exact ⟨a, b, s2.2.2.1, s2.2.2.2⟩
/-- What a run used, told without wrapping. -/
theorem used_plain {r : RunT} (ho : RunOk r) {fr tt : Int} (h1 : 0 ≤ fr) (h2 : fr ≤ 2199023255552) (h3 : 0 ≤ tt) (h4 : tt ≤ 2199023255552) :
    usedP r fr tt = if r.start < 0 then 0 else r.nodes * r.cores * mx ((if r.stop ≥ 0 then mn tt r.stop else tt) - mx fr r.start) 0 := by
  obtain ⟨⟨n1, n2⟩, ⟨c1, c2⟩, ⟨s1, s2⟩, ⟨e1, e2⟩⟩ := ho
  unfold usedP
  by_cases hs : r.start < 0
  · rw [if_pos hs, if_pos hs]
  · rw [if_neg hs, if_neg hs]
    have hb : 0 ≤ (if r.stop ≥ 0 then mn tt r.stop else tt) ∧ (if r.stop ≥ 0 then mn tt r.stop else tt) ≤ 2199023255552 := by
      unfold mn
      repeat' split
      all_goals omega
    have ha : 0 ≤ mx fr r.start ∧ mx fr r.start ≤ 2199023255552 := by
      unfold mx
      split <;> omega
    generalize (if r.stop ≥ 0 then mn tt r.stop else tt) = b at hb ⊢
    generalize mx fr r.start = a at ha ⊢
    rw [w64 (x := b - a) ⟨by omega, by omega⟩]
    have hm : 0 ≤ mx (b - a) 0 ∧ mx (b - a) 0 ≤ 2199023255552 := by
      unfold mx
      split <;> omega
    generalize mx (b - a) 0 = m at hm ⊢
    have hp : 0 ≤ r.nodes * r.cores ∧ r.nodes * r.cores ≤ 2048 := ⟨Int.mul_nonneg n1 c1, by
      have := Int.mul_le_mul n2 c2 c1 (by omega : (0 : Int) ≤ 32)
      simpa using this⟩
    rw [w64 (x := r.nodes * r.cores) ⟨by omega, by omega⟩]
    generalize r.nodes * r.cores = q at hp ⊢
    have hqm : 0 ≤ q * m ∧ q * m ≤ 2048 * 2199023255552 := ⟨Int.mul_nonneg hp.1 hm.1, Int.mul_le_mul hp.2 hm.2 hm.1 (by omega)⟩
    rw [w64 ⟨by omega, by omega⟩]
theorem amount_w {a q : Int} (h1 : 0 ≤ a) (h2 : a ≤ 2199023255552) (h3 : 0 ≤ q) (h4 : q ≤ 2048) : wrap64 (a * q) = q * a := by
  have h : 0 ≤ a * q ∧ a * q ≤ 2199023255552 * 2048 := ⟨Int.mul_nonneg h1 h3, Int.mul_le_mul h2 h4 h3 (by omega)⟩
  rw [w64 ⟨by omega, by omega⟩, Int.mul_comm]
theorem prod_ok {r : RunT} (ho : RunOk r) : 0 ≤ r.nodes * r.cores ∧ r.nodes * r.cores ≤ 2048 ∧ wrap64 (r.nodes * r.cores) = r.nodes * r.cores := by
  obtain ⟨⟨n1, n2⟩, ⟨c1, c2⟩, _, _⟩ := ho
  have hp : 0 ≤ r.nodes * r.cores ∧ r.nodes * r.cores ≤ 2048 := ⟨Int.mul_nonneg n1 c1, by
    have := Int.mul_le_mul n2 c2 c1 (by omega : (0 : Int) ≤ 32)
    simpa using this⟩
  exact ⟨hp.1, hp.2, w64 ⟨by omega, by omega⟩⟩
end Go.Proofs.Ytinpgejkkfpckaa.Pr
