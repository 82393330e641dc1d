/-
  SessionTells, put together: whatever is handed in, the law tells 'true'.
-/
import Derived.Test.YtafnjlgdjhegaaaHTells
import Derived.Test.YtafnjlgdjhegaaaShapeSessionTells
namespace Go.Proofs.Ytafnjlgdjhegaaa.Pure
open Go.RowKit Go.Proofs.YtafnjlgdjhegaaaW.PrintWords Go.Proofs.YtafnjlgdjhegaaaW.PrintLast Go.Proofs.YtafnjlgdjhegaaaW.PrintMore Go.Proofs.YtafnjlgdjhegaaaG Go.Proofs.Ytafnjlgdjhegaaa.Pr Go.Proofs.YtafnjlgdjhegaaaO
set_option linter.unusedVariables false
set_option linter.unusedSimpArgs false
theorem small_of {l : List S44} (h : l.length * 40 ≤ 140737488351232 ∧ l.length ≤ 9223372036854775807 ∧ ∀ y ∈ l, opW44 y) : small44 l := by
  refine ⟨by omega, fun c hc => ?_⟩
  obtain ⟨_, _, h1, _, h2⟩ := h.2.2 c hc
  refine ⟨by omega, fun x hx => ?_⟩
  obtain ⟨_, h3, _⟩ := h2 x hx
  omega
theorem wf_i64 {x : Int} (h : (Lit.int .i64 x).wf = true) : i64 x := by
  have h2 : (decide ((-9223372036854775808 : Int) ≤ x) && decide (x ≤ 9223372036854775807)) = true := h
  simp only [Bool.and_eq_true, decide_eq_true_eq] at h2
  exact h2
theorem small_nil : small44 [] := ⟨by simp, fun c hc => by cases hc⟩
theorem small_look {l : List S44} (hs : small44 l) (cl rq ak : Int) : small44 (if (rightB l && lookArgsB cl rq ak) = true then lookGood l cl rq ak else ([], 0, [], 2)).1 := by
  by_cases h : (rightB l && lookArgsB cl rq ak) = true
  · rw [if_pos h]
    rw [Bool.and_eq_true] at h
    rcases look_facts (l := l) ⟨h.1, hs⟩ ((lookArgs_iff _ _ _).1 h.2) with ⟨_, _, e⟩ | ⟨c, c', hL⟩
    · rw [e]; exact small_nil
    · exact hL.right.2
  · rw [if_neg h]; exact small_nil
theorem small_done {l : List S44} (hs : small44 l) (cl rq : Int) (rep : List Int) (hrep : rep.length < 140737488355328) : small44 (donePure l cl rq rep).1 := by
  unfold donePure
  by_cases h : doneArgs l cl rq = true
  · rw [if_pos h]
    unfold doneArgs at h
    simp only [Bool.and_eq_true] at h
    have hN := h.1.1.2
    unfold hasN at hN
    simp only [Bool.and_eq_true, decide_eq_true_eq, List.length_map] at hN
    obtain ⟨c, hc⟩ : ∃ c, l.getD (under (l.map S44.f0) cl) z44 = c := ⟨_, rfl⟩
    have hcm : c ∈ l := by rw [← hc, getD44_at l _ hN.1]; exact List.getElem_mem _
    have hk := (kept_pw h.1.1.1 hcm).2
    unfold doneGood
    simp only [hc]
    by_cases h1 : hasN (c.f2.map S46.f0) rq = true
    · rw [if_pos h1]; exact small_nil
    by_cases h2 : 65536 < rep.length
    · rw [if_neg h1, if_pos h2]; exact small_nil
    by_cases h3 : 8 ≤ c.f2.length
    · rw [if_neg h1, if_neg h2, if_pos h3]; exact small_nil
    rw [if_neg h1, if_neg h2, if_neg h3]
    unfold doneRow
    simp only [hc]
    refine ⟨by rw [List.length_set]; exact hs.1, fun y hy => ?_⟩
    rcases List.mem_or_eq_of_mem_set hy with hm | rfl
    · exact hs.2 y hm
    · refine ⟨by simp; omega, fun q hq => ?_⟩
      simp only [List.mem_append, List.mem_singleton] at hq
      rcases hq with (hq | rfl) | hq
      · exact (hs.2 c hcm).2 q (List.mem_of_mem_take hq)
      · exact hrep
      · exact (hs.2 c hcm).2 q (List.mem_of_mem_drop hq)
  · rw [if_neg h]; exact small_nil
theorem tells_all (A : Option Addr) (c : Nat) (l : List S44) (cl rq ak : Int) (B : Option Addr) (d : Nat) (rep : List Int) (w : World)
    (hr0 : Kd.C k44 w A l.length l) (hc0 : l.length ≤ c) (hr4 : Kd.C (Kd.int .u8) w B rep.length rep) (hc4 : rep.length ≤ d)
    (w0 : l.length * 40 ≤ 140737488351232 ∧ l.length ≤ 9223372036854775807 ∧ ∀ y ∈ l, opW44 y) (w1 : (Lit.int .i64 cl).wf = true) (w2 : (Lit.int .i64 rq).wf = true)
    (w4 : rep.length * 1 ≤ 140737488351232 ∧ rep.length ≤ 9223372036854775807 ∧ ∀ y ∈ rep, (Lit.int .u8 y).wf = true) :
    Calls Try.prog 3 #[.slice A l.length c, .int .i64 cl, .int .i64 rq, .int .i64 ak, .slice B rep.length d] w fun e w' => e = .returned (.bool true) ∧ Below w.heap.size w w' := by
  have hs := small_of w0
  have hrep : rep.length < 140737488355328 := by have := w4.1; omega
  obtain ⟨k1, e1⟩ := copyc_ev l hs
  obtain ⟨k2, e2⟩ := refL_ev hs cl rq ak
  obtain ⟨k3, e3⟩ := refD_ev hs cl rq rep hrep
  obtain ⟨k4, e4⟩ := refR_ev l hs
  obtain ⟨k5, e5⟩ := same_ev (small_look hs cl rq ak)
  obtain ⟨k6, e6⟩ := same_ev (small_done hs cl rq rep hrep)
  obtain ⟨k7, e7⟩ := same_ev hs
  obtain ⟨k, hk⟩ : ∃ k, k1 ≤ k ∧ k2 ≤ k ∧ k3 ≤ k ∧ k4 ≤ k ∧ k5 ≤ k ∧ k6 ≤ k ∧ k7 ≤ k := ⟨k1 + k2 + k3 + k4 + k5 + k6 + k7, by omega, by omega, by omega, by omega, by omega, by omega, by omega⟩
  obtain ⟨q1, q2, q3, q4, q5, q6, q7⟩ := hk
  have hL : session_Look.f l cl rq ak = some (if (rightB l && lookArgsB cl rq ak) = true then lookGood l cl rq ak else ([], 0, [], 2)) := by
    unfold session_Look.f
    by_cases h : (rightB l && lookArgsB cl rq ak) = true
    · rw [if_pos h, if_pos ((small44_iff _).2 hs), if_pos h]
    · rw [if_neg h, if_neg h]
  have hD : session_Done.f l cl rq rep = some (donePure l cl rq rep) := by
    unfold session_Done.f
    rw [if_pos]
    unfold doneFine
    rw [(small44_iff _).2 hs, (i64_iff _).2 (wf_i64 w1), (i64_iff _).2 (wf_i64 w2), (show (l.map S44.f0).all i64B = true by
      rw [List.all_eq_true]
      intro x hx
      obtain ⟨y, hy, rfl⟩ := List.mem_map.1 hx
      exact (i64_iff _).2 (wf_i64 (w0.2.2 y hy).1))]
    rfl
  exact tells_walk k A c l cl rq ak B d rep w _ _ _ _ _ _ _ hr0 hc0 hr4 hc4 (by have := w4.1; omega) (e1 k q1) hL (e2 k q2) hD (e3 k q3) rfl (e4 k q4) (e5 k q5) (e6 k q6) (e7 k q7)
end Go.Proofs.Ytafnjlgdjhegaaa.Pure
