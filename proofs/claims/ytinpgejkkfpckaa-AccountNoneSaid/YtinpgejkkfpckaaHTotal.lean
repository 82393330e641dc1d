/-
  account's store: wrong and used.
-/
import Derived.Test.YtinpgejkkfpckaaHStore
namespace Go.Proofs.Ytinpgejkkfpckaa.Pr
open Go.RowKit Go.Proofs.YtinpgejkkfpckaaW.PrintWords Go.Proofs.YtinpgejkkfpckaaW.PrintLast Go.Proofs.YtinpgejkkfpckaaW.PrintMore Go.Proofs.YtinpgejkkfpckaaG
set_option linter.unusedVariables false
set_option linter.unusedSimpArgs false
attribute [local go_sem] max2_int min2_int max_two min_two max_three min_three max_four min_four
def wrongP (fr tt : Int) : Int := if fr < 0 ∨ fr > tt ∨ tt > 1099511627776 then 2 else 0
set_option maxHeartbeats 400000 in
theorem wrong_any (s m : Nat) (fr tt : Int) (w : World) (h : w.cell? ⟨s, 0, none⟩ = some (.map (some m))) :
    Calls Try.prog 38 #[.pointer (some ⟨s, 0, none⟩), .int .i64 fr, .int .i64 tt] w fun e w' => e = .returned (.int .i64 (wrongP fr tt)) ∧ Below w.heap.size w w' := by
  go_enter Try.func38, Try.ntmps38
  go_wp2_with fail
  refine (none_any s m w h).mono ?_
  rintro e w1 ⟨rfl, b1⟩
  have HB := hd b1
  clear b1
  by_cases h1 : fr < 0
  · have e : wrongP fr tt = 2 := if_pos (.inl h1)
    go_wp2
    go_ret
    exact ⟨by rw [e]; rfl, HB.out⟩
  · by_cases h2 : fr > tt
    · have e : wrongP fr tt = 2 := if_pos (.inr (.inl h2))
      go_wp2
      go_ret
      exact ⟨by rw [e]; rfl, HB.out⟩
    · by_cases h3 : tt > 1099511627776
      · have e : wrongP fr tt = 2 := if_pos (.inr (.inr h3))
        go_wp2
        go_ret
        exact ⟨by rw [e]; rfl, HB.out⟩
      · have e : wrongP fr tt = 0 := if_neg (by omega)
        go_wp2
        go_ret
        exact ⟨by rw [e]; rfl, HB.out⟩
/-- What a run used between two times. -/
def usedP (r : RunT) (fr tt : Int) : Int := if r.start < 0 then 0 else wrap64 (wrap64 (r.nodes * r.cores) * mx (wrap64 ((if r.stop ≥ 0 then mn tt r.stop else tt) - mx fr r.start)) 0)
set_option maxRecDepth 100000 in
set_option maxHeartbeats 1000000 in
theorem used_any (r : RunT) (fr tt : Int) (w : World) : Calls Try.prog 52 #[.agg (runCs r), .int .i64 fr, .int .i64 tt] w fun e w' => e = .returned (.int .i64 (usedP r fr tt)) ∧ Below w.heap.size w w' := by
  have HB := hd (below_alloc (Below.refl _ w) (.cells (runCs r) 56 (0, 0)))
  unfold runCs at HB ⊢
  by_cases h1 : r.start < 0
  · have e : usedP r fr tt = 0 := if_pos h1
    rw [e]
    go_enter Try.func52, Try.ntmps52
    go_wp2
    go_ret
    exact ⟨rfl, HB.out⟩
  · by_cases h2 : r.stop ≥ 0
    · have e : usedP r fr tt = wrap64 (wrap64 (r.nodes * r.cores) * mx (wrap64 (mn tt r.stop - mx fr r.start)) 0) := by unfold usedP; rw [if_neg h1, if_pos h2]
      rw [e]
      go_enter Try.func52, Try.ntmps52
      go_wp2
      all_goals go_ret
      all_goals refine ⟨?_, HB.out⟩
      all_goals unfold mx
      all_goals try unfold mn
      all_goals (repeat' split)
      all_goals first | rfl | (exfalso; omega) | (exfalso; simp only [if_pos h] at *; omega) | (exfalso; simp only [if_neg (Int.not_lt.2 h)] at *; omega) | (simp; done)
    · have e : usedP r fr tt = wrap64 (wrap64 (r.nodes * r.cores) * mx (wrap64 (tt - mx fr r.start)) 0) := by unfold usedP; rw [if_neg h1, if_neg h2]
      rw [e]
      go_enter Try.func52, Try.ntmps52
      go_wp2
      all_goals go_ret
      all_goals refine ⟨?_, HB.out⟩
      all_goals unfold mx
      all_goals try unfold mn
      all_goals (repeat' split)
      all_goals first | rfl | (exfalso; omega) | (exfalso; simp only [if_pos h] at *; omega) | (exfalso; simp only [if_neg (Int.not_lt.2 h)] at *; omega) | (simp; done)
end Go.Proofs.Ytinpgejkkfpckaa.Pr
