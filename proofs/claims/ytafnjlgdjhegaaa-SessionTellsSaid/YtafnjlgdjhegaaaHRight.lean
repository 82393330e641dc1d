/-
  session.Right, proved by hand.
-/
import Derived.Test.YtafnjlgdjhegaaaHR44
import Derived.Test.YtafnjlgdjhegaaaHR46
namespace Go.Proofs.Ytafnjlgdjhegaaa.Pr
open Go.RowKit Go.Proofs.YtafnjlgdjhegaaaW.PrintWords Go.Proofs.YtafnjlgdjhegaaaW.PrintLast Go.Proofs.YtafnjlgdjhegaaaW.PrintMore Go.Proofs.YtafnjlgdjhegaaaG
set_option linter.unusedVariables false
set_option linter.unusedSimpArgs false
/-- Is a client wrong in itself? -/
def wrongB (c : S44) : Bool := decide (c.f1 < 0) || decide (4611686018427387904 < c.f1) || decide (8 < c.f2.length) || !rises c.f1 (c.f2.map S46.f0)
def rightB (l : List S44) : Bool := decide (l.length ≤ 16) && rises 0 (l.map S44.f0) && !l.any wrongB
def session_Right.f (l0 : List S44) : Option Bool := some (rightB l0)
set_option maxHeartbeats 400000 in
theorem wrong_any (x : S44) (A2 : Option Addr) (c2 : Nat) (w : World) (hr : Kd.C k46 w A2 x.f2.length x.f2) :
    Calls Try.prog 47 #[.agg #[.int .i64 x.f0, .int .i64 x.f1, .slice A2 x.f2.length c2]] w fun e w' => e = .returned (.bool (wrongB x)) ∧ Below w.heap.size w w' := by
  have HB : Hd (Below w.heap.size w (w.alloc (.cells #[.int .i64 x.f0, .int .i64 x.f1, .slice A2 x.f2.length c2] 44))) := hd (below_alloc (Below.refl _ _) _)
  have HR := hd (Kd.C_below hr HB.out)
  clear hr
  by_cases h1 : x.f1 < 0
  · have e : wrongB x = true := by unfold wrongB; rw [decide_eq_true h1]; rfl
    rw [e]
    go_enter Try.func47, Try.ntmps47
    go_wp2
    go_ret
    exact ⟨rfl, HB.out⟩
  · by_cases h2 : 4611686018427387904 < x.f1
    · have e : wrongB x = true := by unfold wrongB; rw [decide_eq_true h2, Bool.or_true]; rfl
      rw [e]
      go_enter Try.func47, Try.ntmps47
      go_wp2
      go_ret
      exact ⟨rfl, HB.out⟩
    · by_cases h3 : 8 < x.f2.length
      · have e : wrongB x = true := by unfold wrongB; rw [decide_eq_true h3, Bool.or_true]; rfl
        rw [e]
        have h3' : (8 : Int) < (x.f2.length : Int) := by omega
        go_enter Try.func47, Try.ntmps47
        go_wp2
        go_ret
        exact ⟨rfl, HB.out⟩
      · have e : wrongB x = !rises x.f1 (x.f2.map S46.f0) := by unfold wrongB; rw [decide_eq_false h1, decide_eq_false h2, decide_eq_false h3]; rfl
        rw [e]
        have h3' : ¬ (8 : Int) < (x.f2.length : Int) := by omega
        go_enter Try.func47, Try.ntmps47
        go_wp2_with fail
        refine (rises46_any A2 c2 x.f2 x.f1 _ HR.out).mono ?_
        rintro e w1 ⟨rfl, hb1⟩
        have HB1 : Hd (Below w.heap.size w w1) := hd (below_then HB.out (by simp) hb1)
        clear hb1
        go_wp2
        go_ret
        exact ⟨rfl, HB1.out⟩
set_option maxHeartbeats 400000 in
theorem index44_any (A : Option Addr) (c : Nat) (l : List S44) (w : World) (hr : Kd.C k44 w A l.length l) :
    Calls Try.prog 67 #[.slice A l.length c, .func (.func 47) #[] #[]] w fun e w' => ∃ r : Int, e = .returned (.int .i64 r) ∧ (0 ≤ r ↔ l.any wrongB = true) ∧ Below w.heap.size w w' := by
  have hlen : l.length ≤ 9223372036854775807 := hr.2.1
  have HR := hd hr
  clear hr
  go_enter Try.func67, Try.ntmps67
  go_wp2
  go_loopw [8] (fun i wr => ∃ j : Nat, j ≤ l.length ∧ i = .int .i64 (j : Int) ∧ Hd ((l.take j).any wrongB = false) ∧ Hd (Below w.heap.size w wr)) (fun i _ => l.length - (intOf i).toNat)
  case atStart => exact ⟨0, by omega, rfl, hd (by simp), hd (Below.refl _ _)⟩
  case round =>
    obtain ⟨j, hj, rfl, HK, HB⟩ := hrel
    by_cases hlt : j < l.length
    · obtain ⟨ad, A2, c2, rfl, h0, h1, h2, h3, h4⟩ := at_T44 (Kd.C_below HR.out HB.out) (j : Int) (by omega) (by omega)
      obtain ⟨x, hx⟩ : ∃ x, rd_T44 l (j : Int) = x := ⟨_, rfl⟩
      rw [Int.toNat_natCast] at h0 h1 h2
      rw [hx] at h0 h1 h2 h3 h4
      have HX : Hd (l[j] = x) := hd (by rw [← hx]; unfold rd_T44; simp [List.getD_eq_getElem?_getD, hlt])
      clear hx
      have hj' : (j : Int) < (l.length : Int) := by omega
      have H4 := hd h4
      clear h3 h4
      go_wp2_with fail
      refine (wrong_any x A2 c2 wr H4.out).mono ?_
      rintro e w1 ⟨rfl, hb1⟩
      have HB1 : Hd (Below w.heap.size w w1) := hd (below_then HB.out HB.out.size hb1)
      clear hb1 h0 h1 h2
      cases hw : wrongB x with
      | true =>
        go_wp2
        go_ret
        refine ⟨(j : Int), rfl, ⟨fun _ => ?_, fun _ => by omega⟩, HB1.out⟩
        rw [List.any_eq_true]
        exact ⟨x, by rw [← HX.out]; exact List.getElem_mem _, hw⟩
      | false =>
        go_wp2
        go_roundw
        case rel => exact ⟨j + 1, by omega, by go_num, hd (by rw [List.take_succ_eq_append_getElem hlt, List.any_append, HK.out, HX.out]; simp [hw]), HB1⟩
        case measure => simp [intOf]; omega
    · go_wp2
      go_ret
      have hk := HK.out
      rw [List.take_of_length_le (by omega)] at hk
      exact ⟨-1, rfl, by rw [hk]; simp, HB.out⟩
set_option maxHeartbeats 400000 in
theorem contains44_any (A : Option Addr) (c : Nat) (l : List S44) (w : World) (hr : Kd.C k44 w A l.length l) :
    Calls Try.prog 50 #[.slice A l.length c, .func (.func 47) #[] #[]] w fun e w' => e = .returned (.bool (l.any wrongB)) ∧ Below w.heap.size w w' := by
  have HR := hd hr
  clear hr
  go_enter Try.func50, Try.ntmps50
  go_wp2_with fail
  refine (index44_any A c l w HR.out).mono ?_
  rintro e w1 ⟨r, rfl, hrr, hb1⟩
  have HRR := hd hrr
  clear hrr
  go_wp2
  go_ret
  refine ⟨?_, hb1⟩
  have e : decide (0 ≤ r) = l.any wrongB := by rw [Bool.eq_iff_iff, ← HRR.out, decide_eq_true_eq]
  rw [← e]
  rfl
set_option maxHeartbeats 400000 in
theorem right_any (A : Option Addr) (c : Nat) (l : List S44) (w : World) (hr : Kd.C k44 w A l.length l) :
    Calls Try.prog 14 #[.slice A l.length c] w fun e w' => e = .returned (.bool (rightB l)) ∧ Below w.heap.size w w' := by
  have hlen : l.length ≤ 9223372036854775807 := hr.2.1
  have HR := hd hr
  clear hr
  by_cases h1 : l.length ≤ 16
  · have h1' : (l.length : Int) ≤ 16 := by omega
    cases h2 : rises 0 (l.map S44.f0) with
    | false =>
      have e : rightB l = false := by unfold rightB; rw [h2, Bool.and_false]; rfl
      rw [e]
      have H2 := hd h2
      clear h2
      go_enter Try.func14, Try.ntmps14
      go_wp2_with fail
      refine (rises44_any A c l 0 w HR.out).mono ?_
      rintro e w1 ⟨rfl, hb1⟩
      rw [H2.out]
      go_wp2
      go_ret
      exact ⟨rfl, hb1⟩
    | true =>
      have e : rightB l = !l.any wrongB := by unfold rightB; rw [h2, decide_eq_true h1]; rfl
      rw [e]
      have H2 := hd h2
      clear h2
      go_enter Try.func14, Try.ntmps14
      go_wp2_with fail
      refine (rises44_any A c l 0 w HR.out).mono ?_
      rintro e w1 ⟨rfl, hb1⟩
      have HB1 := hd hb1
      clear hb1
      rw [H2.out]
      go_wp2_with fail
      refine (contains44_any A c l w1 (Kd.C_below HR.out HB1.out)).mono ?_
      rintro e w2 ⟨rfl, hb2⟩
      obtain ⟨b, hb⟩ : ∃ b, l.any wrongB = b := ⟨_, rfl⟩
      simp only [hb]
      go_wp2
      go_ret
      exact ⟨by rw [hb]; rfl, below_then HB1.out HB1.out.size hb2⟩
  · have e : rightB l = false := by unfold rightB; rw [decide_eq_false h1]; rfl
    have h1' : ¬ (l.length : Int) ≤ 16 := by omega
    rw [e]
    go_enter Try.func14, Try.ntmps14
    go_wp2
    go_ret
    exact ⟨rfl, Below.refl _ _⟩
theorem session_Right.calls (A0 : Option Addr) (c0 : Nat) (l0 : List S44) (r : Bool) (w : World) (hr0 : Kd.C k44 w A0 l0.length l0) (hc0 : l0.length ≤ c0) (h : session_Right.f l0 = some r) :
    Calls Try.prog 14 #[.slice A0 l0.length c0] w fun e w' => e = .returned (.bool r) ∧ Below w.heap.size w w' := by
  cases h
  exact right_any A0 c0 l0 w hr0
end Go.Proofs.Ytafnjlgdjhegaaa.Pr
