/-
  account.Right, by hand: a chain of bounds.
-/
import Derived.Test.YtinpgejkkfpckaaPr0
import Derived.Test.YtinpgejkkfpckaaHRightD
import Derived.Test.YtinpgejkkfpckaaG
namespace Go.Proofs.Ytinpgejkkfpckaa.Pr
open Go.RowKit Go.Proofs.YtinpgejkkfpckaaW.PrintWords Go.Proofs.YtinpgejkkfpckaaW.PrintLast Go.Proofs.YtinpgejkkfpckaaW.PrintMore Go.Proofs.YtinpgejkkfpckaaG
set_option linter.unusedVariables false
set_option linter.unusedSimpArgs false
set_option maxRecDepth 100000 in
set_option maxHeartbeats 4000000 in
theorem aright_hi0 (a b c : Int) (d e : ByteArray) (f g h : Int) (w : World) (h3 : h ≥ 3)  (hn : ¬ (a ≥ 1 ∧ a ≤ 1073741824 ∧ b ≥ 1 ∧ b ≤ 3 ∧ c ≥ 0 ∧ c ≤ 1099511627776)) :
    Calls Try.prog 21 #[.agg #[.int .i64 a, .int .u8 b, .int .i64 c, .string d, .string e, .int .i64 f, .int .i64 g, .int .u8 h]] w fun x w' => x = .returned (.bool (rightP a b c d e f g h)) ∧ Below w.heap.size w w' := by
  have hu36 := Try.underlying36
  have HB := hd (below_alloc (Below.refl _ w) (.cells #[.int .i64 a, .int .u8 b, .int .i64 c, .string d, .string e, .int .i64 f, .int .i64 g, .int .u8 h] 36))
  by_cases c1 : a ≥ 1
  case neg => rw [right_no (fun z => c1 z.1)]; clear hn; go_enter Try.func21, Try.ntmps21; go_wp2; all_goals (first | exact (undef_no ‹some undef = some (Value.bool _)›).elim | (go_ret; exact ⟨rfl, HB.out⟩))
  by_cases c2 : a ≤ 1073741824
  case neg => rw [right_no (fun z => c2 z.2.1)]; clear hn; go_enter Try.func21, Try.ntmps21; go_wp2; all_goals (first | exact (undef_no ‹some undef = some (Value.bool _)›).elim | (go_ret; exact ⟨rfl, HB.out⟩))
  by_cases c3 : b ≥ 1
  case neg => rw [right_no (fun z => c3 z.2.2.1)]; clear hn; go_enter Try.func21, Try.ntmps21; go_wp2; all_goals (first | exact (undef_no ‹some undef = some (Value.bool _)›).elim | (go_ret; exact ⟨rfl, HB.out⟩))
  by_cases c4 : b ≤ 3
  case neg => rw [right_no (fun z => c4 z.2.2.2.1)]; clear hn; go_enter Try.func21, Try.ntmps21; go_wp2; all_goals (first | exact (undef_no ‹some undef = some (Value.bool _)›).elim | (go_ret; exact ⟨rfl, HB.out⟩))
  by_cases c5 : c ≥ 0
  case neg => rw [right_no (fun z => c5 z.2.2.2.2.1)]; clear hn; go_enter Try.func21, Try.ntmps21; go_wp2; all_goals (first | exact (undef_no ‹some undef = some (Value.bool _)›).elim | (go_ret; exact ⟨rfl, HB.out⟩))
  have c6 : ¬ c ≤ 1099511627776 := fun c => hn ⟨c1, c2, c3, c4, c5, c⟩
  rw [right_no (fun z => c6 z.2.2.2.2.2.1)]; clear hn; go_enter Try.func21, Try.ntmps21; go_wp2; all_goals (first | exact (undef_no ‹some undef = some (Value.bool _)›).elim | (go_ret; exact ⟨rfl, HB.out⟩))
set_option maxRecDepth 100000 in
set_option maxHeartbeats 4000000 in
theorem aright_hi1 (a b c : Int) (d e : ByteArray) (f g h : Int) (w : World) (h3 : h ≥ 3) (c1 : a ≥ 1) (c2 : a ≤ 1073741824) (c3 : b ≥ 1) (c4 : b ≤ 3) (c5 : c ≥ 0) (c6 : c ≤ 1099511627776) (hn : ¬ ((d.size : Int) ≤ 16 ∧ (e.size : Int) ≤ 16 ∧ f ≥ 0 ∧ f ≤ 32 ∧ g ≥ 0 ∧ g ≤ 64)) :
    Calls Try.prog 21 #[.agg #[.int .i64 a, .int .u8 b, .int .i64 c, .string d, .string e, .int .i64 f, .int .i64 g, .int .u8 h]] w fun x w' => x = .returned (.bool (rightP a b c d e f g h)) ∧ Below w.heap.size w w' := by
  have hu36 := Try.underlying36
  have HB := hd (below_alloc (Below.refl _ w) (.cells #[.int .i64 a, .int .u8 b, .int .i64 c, .string d, .string e, .int .i64 f, .int .i64 g, .int .u8 h] 36))
  by_cases c7 : (d.size : Int) ≤ 16
  case neg => rw [right_no (fun z => c7 z.2.2.2.2.2.2.1)]; clear hn; go_enter Try.func21, Try.ntmps21; go_wp2; all_goals (first | exact (undef_no ‹some undef = some (Value.bool _)›).elim | (go_ret; exact ⟨rfl, HB.out⟩))
  by_cases c8 : (e.size : Int) ≤ 16
  case neg => rw [right_no (fun z => c8 z.2.2.2.2.2.2.2.1)]; clear hn; go_enter Try.func21, Try.ntmps21; go_wp2; all_goals (first | exact (undef_no ‹some undef = some (Value.bool _)›).elim | (go_ret; exact ⟨rfl, HB.out⟩))
  by_cases c9 : f ≥ 0
  case neg => rw [right_no (fun z => c9 z.2.2.2.2.2.2.2.2.1)]; clear hn; go_enter Try.func21, Try.ntmps21; go_wp2; all_goals (first | exact (undef_no ‹some undef = some (Value.bool _)›).elim | (go_ret; exact ⟨rfl, HB.out⟩))
  by_cases c10 : f ≤ 32
  case neg => rw [right_no (fun z => c10 z.2.2.2.2.2.2.2.2.2.1)]; clear hn; go_enter Try.func21, Try.ntmps21; go_wp2; all_goals (first | exact (undef_no ‹some undef = some (Value.bool _)›).elim | (go_ret; exact ⟨rfl, HB.out⟩))
  by_cases c11 : g ≥ 0
  case neg => rw [right_no (fun z => c11 z.2.2.2.2.2.2.2.2.2.2.1)]; clear hn; go_enter Try.func21, Try.ntmps21; go_wp2; all_goals (first | exact (undef_no ‹some undef = some (Value.bool _)›).elim | (go_ret; exact ⟨rfl, HB.out⟩))
  have c12 : ¬ g ≤ 64 := fun c => hn ⟨c7, c8, c9, c10, c11, c⟩
  rw [right_no (fun z => c12 z.2.2.2.2.2.2.2.2.2.2.2)]; clear hn; go_enter Try.func21, Try.ntmps21; go_wp2; all_goals (first | exact (undef_no ‹some undef = some (Value.bool _)›).elim | (go_ret; exact ⟨rfl, HB.out⟩))
set_option maxRecDepth 100000 in
set_option maxHeartbeats 4000000 in
theorem aright_hi2 (a b c : Int) (d e : ByteArray) (f g h : Int) (w : World) (h3 : h ≥ 3) (c1 : a ≥ 1) (c2 : a ≤ 1073741824) (c3 : b ≥ 1) (c4 : b ≤ 3) (c5 : c ≥ 0) (c6 : c ≤ 1099511627776) (c7 : (d.size : Int) ≤ 16) (c8 : (e.size : Int) ≤ 16) (c9 : f ≥ 0) (c10 : f ≤ 32) (c11 : g ≥ 0) (c12 : g ≤ 64) :
    Calls Try.prog 21 #[.agg #[.int .i64 a, .int .u8 b, .int .i64 c, .string d, .string e, .int .i64 f, .int .i64 g, .int .u8 h]] w fun x w' => x = .returned (.bool (rightP a b c d e f g h)) ∧ Below w.heap.size w w' := by
  have hu36 := Try.underlying36
  have HB := hd (below_alloc (Below.refl _ w) (.cells #[.int .i64 a, .int .u8 b, .int .i64 c, .string d, .string e, .int .i64 f, .int .i64 g, .int .u8 h] 36))
  rw [right_yes ⟨c1, c2, c3, c4, c5, c6, c7, c8, c9, c10, c11, c12⟩]
  by_cases c13 : b = 3
  · subst c13
    rw [if_pos rfl, decide_eq_true h3, Bool.true_and]
    by_cases c14 : h ≤ 8
    · rw [decide_eq_true c14]; go_enter Try.func21, Try.ntmps21; go_wp2; all_goals (first | exact (undef_no ‹some undef = some (Value.bool _)›).elim | (go_ret; exact ⟨rfl, HB.out⟩))
    · rw [decide_eq_false c14]; go_enter Try.func21, Try.ntmps21; go_wp2; all_goals (first | exact (undef_no ‹some undef = some (Value.bool _)›).elim | (go_ret; exact ⟨rfl, HB.out⟩))
  · rw [if_neg c13, decide_eq_false (by omega)]
    have c15 : ¬ h = 0 := by omega
    have eb : (b != 3) = true := by simp [c13]
    have eh : (h == 0) = false := by simp [c15]
    go_enter Try.func21, Try.ntmps21; go_wp2; all_goals (first | exact (undef_no ‹some undef = some (Value.bool _)›).elim | (go_ret; exact ⟨rfl, HB.out⟩))
end Go.Proofs.Ytinpgejkkfpckaa.Pr
