-- MINIFIED by wip/tools/minify.py
/-
 Texts of this session, laid together by wip/tools/merge.py: HRightD, HRightH, HRightL, HRightA.
-/
import Derived.Test.YtinpgejkkfpckaaPr0
import Derived.Test.YtinpgejkkfpckaaG
section
namespace Go.Proofs.Ytinpgejkkfpckaa.Pr
open Go.RowKit Go.Proofs.YtinpgejkkfpckaaW.PrintWords Go.Proofs.YtinpgejkkfpckaaW.PrintLast Go.Proofs.YtinpgejkkfpckaaW.PrintMore Go.Proofs.YtinpgejkkfpckaaG
set_option linter.unusedVariables false
set_option linter.unusedSimpArgs false
theorem undef_no {b : Bool} (h : some undef = some (Value.bool b)) : False := by
 injection h with h
 cases h
/-- The first eleven bounds. -/
def fitP (a b c : Int) (d e : ByteArray) (f g : Int) : Prop := a ≥ 1 ∧ a ≤ 1073741824 ∧ b ≥ 1 ∧ b ≤ 3 ∧ c ≥ 0 ∧ c ≤ 1099511627776 ∧ (d.size : Int) ≤ 16 ∧ (e.size : Int) ≤ 16 ∧ f ≥ 0 ∧ f ≤ 32 ∧ g ≥ 0 ∧ g ≤ 64
instance (a b c : Int) (d e : ByteArray) (f g : Int) : Decidable (fitP a b c d e f g) := by unfold fitP; infer_instance
def rightP (a b c : Int) (d e : ByteArray) (f g h : Int) : Bool := decide (fitP a b c d e f g) && (if b = 3 then decide (h ≥ 3) && decide (h ≤ 8) else decide (h = 0))
def account_Right.f (a0_0 a0_1 a0_2 : Int) (a0_3 a0_4 : ByteArray) (a0_5 a0_6 a0_7 : Int) : Option Bool := some (rightP a0_0 a0_1 a0_2 a0_3 a0_4 a0_5 a0_6 a0_7)
theorem right_no {a b c : Int} {d e : ByteArray} {f g h : Int} (hf : ¬ fitP a b c d e f g) : rightP a b c d e f g h = false := by unfold rightP; rw [decide_eq_false hf, Bool.false_and]
theorem right_yes {a b c : Int} {d e : ByteArray} {f g h : Int} (hf : fitP a b c d e f g) : rightP a b c d e f g h = (if b = 3 then decide (h ≥ 3) && decide (h ≤ 8) else decide (h = 0)) := by unfold rightP; rw [decide_eq_true hf, Bool.true_and]
end Go.Proofs.Ytinpgejkkfpckaa.Pr
end
section
namespace Go.Proofs.Ytinpgejkkfpckaa.Pr
open Go.RowKit Go.Proofs.YtinpgejkkfpckaaW.PrintWords Go.Proofs.YtinpgejkkfpckaaW.PrintLast Go.Proofs.YtinpgejkkfpckaaW.PrintMore Go.Proofs.YtinpgejkkfpckaaG
set_option linter.unusedVariables false
set_option linter.unusedSimpArgs false
set_option maxRecDepth 100000 in
set_option maxHeartbeats 4000000 in
theorem aright_hi0 (a b c : Int) (d e : ByteArray) (f g h : Int) (w : World) (h3 : h ≥ 3)  (hn : ¬ (a ≥ 1 ∧ a ≤ 1073741824 ∧ b ≥ 1 ∧ b ≤ 3 ∧ c ≥ 0 ∧ c ≤ 1099511627776)) :
  Calls Try.prog 21 #[.agg #[.int .i64 a, .int .u8 b, .int .i64 c, .string d, .string e, .int .i64 f, .int .i64 g, .int .u8 h]] w fun x w' => x = .returned (.bool (rightP a b c d e f g h)) ∧ Below w.heap.size w w' := by
 have hu36 := Try.underlying36
 have HB := hd (below_alloc (Below.refl _ w) (.cells #[.int .i64 a, .int .u8 b, .int .i64 c, .string d, .string e, .int .i64 f, .int .i64 g, .int .u8 h] 36))
 by_cases c1 : a ≥ 1
 case neg => rw [right_no (fun z => c1 z.1)]; clear hn; go_enter Try.func21, Try.ntmps21; go_wp2; all_goals (first | exact (undef_no ‹some undef = some (Value.bool _)›).elim | (go_ret; exact ⟨rfl, HB.out⟩))
 by_cases c2 : a ≤ 1073741824
 case neg => rw [right_no (fun z => c2 z.2.1)]; clear hn; go_enter Try.func21, Try.ntmps21; go_wp2; all_goals (first | exact (undef_no ‹some undef = some (Value.bool _)›).elim | (go_ret; exact ⟨rfl, HB.out⟩))
 by_cases c3 : b ≥ 1
 case neg => rw [right_no (fun z => c3 z.2.2.1)]; clear hn; go_enter Try.func21, Try.ntmps21; go_wp2; all_goals (first | exact (undef_no ‹some undef = some (Value.bool _)›).elim | (go_ret; exact ⟨rfl, HB.out⟩))
 by_cases c4 : b ≤ 3
 case neg => rw [right_no (fun z => c4 z.2.2.2.1)]; clear hn; go_enter Try.func21, Try.ntmps21; go_wp2; all_goals (first | exact (undef_no ‹some undef = some (Value.bool _)›).elim | (go_ret; exact ⟨rfl, HB.out⟩))
 by_cases c5 : c ≥ 0
 case neg => rw [right_no (fun z => c5 z.2.2.2.2.1)]; clear hn; go_enter Try.func21, Try.ntmps21; go_wp2; all_goals (first | exact (undef_no ‹some undef = some (Value.bool _)›).elim | (go_ret; exact ⟨rfl, HB.out⟩))
 have c6 : ¬ c ≤ 1099511627776 := fun c => hn ⟨c1, c2, c3, c4, c5, c⟩
 rw [right_no (fun z => c6 z.2.2.2.2.2.1)]; clear hn; go_enter Try.func21, Try.ntmps21; go_wp2; all_goals (first | exact (undef_no ‹some undef = some (Value.bool _)›).elim | (go_ret; exact ⟨rfl, HB.out⟩))
set_option maxRecDepth 100000 in
set_option maxHeartbeats 4000000 in
theorem aright_hi1 (a b c : Int) (d e : ByteArray) (f g h : Int) (w : World) (h3 : h ≥ 3) (c1 : a ≥ 1) (c2 : a ≤ 1073741824) (c3 : b ≥ 1) (c4 : b ≤ 3) (c5 : c ≥ 0) (c6 : c ≤ 1099511627776) (hn : ¬ ((d.size : Int) ≤ 16 ∧ (e.size : Int) ≤ 16 ∧ f ≥ 0 ∧ f ≤ 32 ∧ g ≥ 0 ∧ g ≤ 64)) :
  Calls Try.prog 21 #[.agg #[.int .i64 a, .int .u8 b, .int .i64 c, .string d, .string e, .int .i64 f, .int .i64 g, .int .u8 h]] w fun x w' => x = .returned (.bool (rightP a b c d e f g h)) ∧ Below w.heap.size w w' := by
 have hu36 := Try.underlying36
 have HB := hd (below_alloc (Below.refl _ w) (.cells #[.int .i64 a, .int .u8 b, .int .i64 c, .string d, .string e, .int .i64 f, .int .i64 g, .int .u8 h] 36))
 by_cases c7 : (d.size : Int) ≤ 16
 case neg => rw [right_no (fun z => c7 z.2.2.2.2.2.2.1)]; clear hn; go_enter Try.func21, Try.ntmps21; go_wp2; all_goals (first | exact (undef_no ‹some undef = some (Value.bool _)›).elim | (go_ret; exact ⟨rfl, HB.out⟩))
 by_cases c8 : (e.size : Int) ≤ 16
 case neg => rw [right_no (fun z => c8 z.2.2.2.2.2.2.2.1)]; clear hn; go_enter Try.func21, Try.ntmps21; go_wp2; all_goals (first | exact (undef_no ‹some undef = some (Value.bool _)›).elim | (go_ret; exact ⟨rfl, HB.out⟩))
 by_cases c9 : f ≥ 0
 case neg => rw [right_no (fun z => c9 z.2.2.2.2.2.2.2.2.1)]; clear hn; go_enter Try.func21, Try.ntmps21; go_wp2; all_goals (first | exact (undef_no ‹some undef = some (Value.bool _)›).elim | (go_ret; exact ⟨rfl, HB.out⟩))
 by_cases c10 : f ≤ 32
 case neg => rw [right_no (fun z => c10 z.2.2.2.2.2.2.2.2.2.1)]; clear hn; go_enter Try.func21, Try.ntmps21; go_wp2; all_goals (first | exact (undef_no ‹some undef = some (Value.bool _)›).elim | (go_ret; exact ⟨rfl, HB.out⟩))
 by_cases c11 : g ≥ 0
 case neg => rw [right_no (fun z => c11 z.2.2.2.2.2.2.2.2.2.2.1)]; clear hn; go_enter Try.func21, Try.ntmps21; go_wp2; all_goals (first | exact (undef_no ‹some undef = some (Value.bool _)›).elim | (go_ret; exact ⟨rfl, HB.out⟩))
 have c12 : ¬ g ≤ 64 := fun c => hn ⟨c7, c8, c9, c10, c11, c⟩
 rw [right_no (fun z => c12 z.2.2.2.2.2.2.2.2.2.2.2)]; clear hn; go_enter Try.func21, Try.ntmps21; go_wp2; all_goals (first | exact (undef_no ‹some undef = some (Value.bool _)›).elim | (go_ret; exact ⟨rfl, HB.out⟩))
set_option maxRecDepth 100000 in
set_option maxHeartbeats 4000000 in
theorem aright_hi2 (a b c : Int) (d e : ByteArray) (f g h : Int) (w : World) (h3 : h ≥ 3) (c1 : a ≥ 1) (c2 : a ≤ 1073741824) (c3 : b ≥ 1) (c4 : b ≤ 3) (c5 : c ≥ 0) (c6 : c ≤ 1099511627776) (c7 : (d.size : Int) ≤ 16) (c8 : (e.size : Int) ≤ 16) (c9 : f ≥ 0) (c10 : f ≤ 32) (c11 : g ≥ 0) (c12 : g ≤ 64) :
  Calls Try.prog 21 #[.agg #[.int .i64 a, .int .u8 b, .int .i64 c, .string d, .string e, .int .i64 f, .int .i64 g, .int .u8 h]] w fun x w' => x = .returned (.bool (rightP a b c d e f g h)) ∧ Below w.heap.size w w' := by
 have hu36 := Try.underlying36
 have HB := hd (below_alloc (Below.refl _ w) (.cells #[.int .i64 a, .int .u8 b, .int .i64 c, .string d, .string e, .int .i64 f, .int .i64 g, .int .u8 h] 36))
 rw [right_yes ⟨c1, c2, c3, c4, c5, c6, c7, c8, c9, c10, c11, c12⟩]
 by_cases c13 : b = 3
 ·subst c13
  rw [if_pos rfl, decide_eq_true h3, Bool.true_and]
  by_cases c14 : h ≤ 8
  ·rw [decide_eq_true c14]; go_enter Try.func21, Try.ntmps21; go_wp2; all_goals (first | exact (undef_no ‹some undef = some (Value.bool _)›).elim | (go_ret; exact ⟨rfl, HB.out⟩))
  ·rw [decide_eq_false c14]; go_enter Try.func21, Try.ntmps21; go_wp2; all_goals (first | exact (undef_no ‹some undef = some (Value.bool _)›).elim | (go_ret; exact ⟨rfl, HB.out⟩))
 ·rw [if_neg c13, decide_eq_false (by omega)]
  have c15 : ¬ h = 0 := by omega
  have eb : (b != 3) = true := by simp [c13]
  have eh : (h == 0) = false := by simp [c15]
  go_enter Try.func21, Try.ntmps21; go_wp2; all_goals (first | exact (undef_no ‹some undef = some (Value.bool _)›).elim | (go_ret; exact ⟨rfl, HB.out⟩))
end Go.Proofs.Ytinpgejkkfpckaa.Pr
end
section
namespace Go.Proofs.Ytinpgejkkfpckaa.Pr
open Go.RowKit Go.Proofs.YtinpgejkkfpckaaW.PrintWords Go.Proofs.YtinpgejkkfpckaaW.PrintLast Go.Proofs.YtinpgejkkfpckaaW.PrintMore Go.Proofs.YtinpgejkkfpckaaG
set_option linter.unusedVariables false
set_option linter.unusedSimpArgs false
set_option maxRecDepth 100000 in
set_option maxHeartbeats 4000000 in
theorem aright_lo0 (a b c : Int) (d e : ByteArray) (f g h : Int) (w : World) (h3 : ¬ h ≥ 3)  (hn : ¬ (a ≥ 1 ∧ a ≤ 1073741824 ∧ b ≥ 1 ∧ b ≤ 3 ∧ c ≥ 0 ∧ c ≤ 1099511627776)) :
  Calls Try.prog 21 #[.agg #[.int .i64 a, .int .u8 b, .int .i64 c, .string d, .string e, .int .i64 f, .int .i64 g, .int .u8 h]] w fun x w' => x = .returned (.bool (rightP a b c d e f g h)) ∧ Below w.heap.size w w' := by
 have hu36 := Try.underlying36
 have HB := hd (below_alloc (Below.refl _ w) (.cells #[.int .i64 a, .int .u8 b, .int .i64 c, .string d, .string e, .int .i64 f, .int .i64 g, .int .u8 h] 36))
 by_cases c1 : a ≥ 1
 case neg => rw [right_no (fun z => c1 z.1)]; clear hn; go_enter Try.func21, Try.ntmps21; go_wp2; all_goals (first | exact (undef_no ‹some undef = some (Value.bool _)›).elim | (go_ret; exact ⟨rfl, HB.out⟩))
 by_cases c2 : a ≤ 1073741824
 case neg => rw [right_no (fun z => c2 z.2.1)]; clear hn; go_enter Try.func21, Try.ntmps21; go_wp2; all_goals (first | exact (undef_no ‹some undef = some (Value.bool _)›).elim | (go_ret; exact ⟨rfl, HB.out⟩))
 by_cases c3 : b ≥ 1
 case neg => rw [right_no (fun z => c3 z.2.2.1)]; clear hn; go_enter Try.func21, Try.ntmps21; go_wp2; all_goals (first | exact (undef_no ‹some undef = some (Value.bool _)›).elim | (go_ret; exact ⟨rfl, HB.out⟩))
 by_cases c4 : b ≤ 3
 case neg => rw [right_no (fun z => c4 z.2.2.2.1)]; clear hn; go_enter Try.func21, Try.ntmps21; go_wp2; all_goals (first | exact (undef_no ‹some undef = some (Value.bool _)›).elim | (go_ret; exact ⟨rfl, HB.out⟩))
 by_cases c5 : c ≥ 0
 case neg => rw [right_no (fun z => c5 z.2.2.2.2.1)]; clear hn; go_enter Try.func21, Try.ntmps21; go_wp2; all_goals (first | exact (undef_no ‹some undef = some (Value.bool _)›).elim | (go_ret; exact ⟨rfl, HB.out⟩))
 have c6 : ¬ c ≤ 1099511627776 := fun c => hn ⟨c1, c2, c3, c4, c5, c⟩
 rw [right_no (fun z => c6 z.2.2.2.2.2.1)]; clear hn; go_enter Try.func21, Try.ntmps21; go_wp2; all_goals (first | exact (undef_no ‹some undef = some (Value.bool _)›).elim | (go_ret; exact ⟨rfl, HB.out⟩))
set_option maxRecDepth 100000 in
set_option maxHeartbeats 4000000 in
theorem aright_lo1 (a b c : Int) (d e : ByteArray) (f g h : Int) (w : World) (h3 : ¬ h ≥ 3) (c1 : a ≥ 1) (c2 : a ≤ 1073741824) (c3 : b ≥ 1) (c4 : b ≤ 3) (c5 : c ≥ 0) (c6 : c ≤ 1099511627776) (hn : ¬ ((d.size : Int) ≤ 16 ∧ (e.size : Int) ≤ 16 ∧ f ≥ 0 ∧ f ≤ 32 ∧ g ≥ 0 ∧ g ≤ 64)) :
  Calls Try.prog 21 #[.agg #[.int .i64 a, .int .u8 b, .int .i64 c, .string d, .string e, .int .i64 f, .int .i64 g, .int .u8 h]] w fun x w' => x = .returned (.bool (rightP a b c d e f g h)) ∧ Below w.heap.size w w' := by
 have hu36 := Try.underlying36
 have HB := hd (below_alloc (Below.refl _ w) (.cells #[.int .i64 a, .int .u8 b, .int .i64 c, .string d, .string e, .int .i64 f, .int .i64 g, .int .u8 h] 36))
 by_cases c7 : (d.size : Int) ≤ 16
 case neg => rw [right_no (fun z => c7 z.2.2.2.2.2.2.1)]; clear hn; go_enter Try.func21, Try.ntmps21; go_wp2; all_goals (first | exact (undef_no ‹some undef = some (Value.bool _)›).elim | (go_ret; exact ⟨rfl, HB.out⟩))
 by_cases c8 : (e.size : Int) ≤ 16
 case neg => rw [right_no (fun z => c8 z.2.2.2.2.2.2.2.1)]; clear hn; go_enter Try.func21, Try.ntmps21; go_wp2; all_goals (first | exact (undef_no ‹some undef = some (Value.bool _)›).elim | (go_ret; exact ⟨rfl, HB.out⟩))
 by_cases c9 : f ≥ 0
 case neg => rw [right_no (fun z => c9 z.2.2.2.2.2.2.2.2.1)]; clear hn; go_enter Try.func21, Try.ntmps21; go_wp2; all_goals (first | exact (undef_no ‹some undef = some (Value.bool _)›).elim | (go_ret; exact ⟨rfl, HB.out⟩))
 by_cases c10 : f ≤ 32
 case neg => rw [right_no (fun z => c10 z.2.2.2.2.2.2.2.2.2.1)]; clear hn; go_enter Try.func21, Try.ntmps21; go_wp2; all_goals (first | exact (undef_no ‹some undef = some (Value.bool _)›).elim | (go_ret; exact ⟨rfl, HB.out⟩))
 by_cases c11 : g ≥ 0
 case neg => rw [right_no (fun z => c11 z.2.2.2.2.2.2.2.2.2.2.1)]; clear hn; go_enter Try.func21, Try.ntmps21; go_wp2; all_goals (first | exact (undef_no ‹some undef = some (Value.bool _)›).elim | (go_ret; exact ⟨rfl, HB.out⟩))
 have c12 : ¬ g ≤ 64 := fun c => hn ⟨c7, c8, c9, c10, c11, c⟩
 rw [right_no (fun z => c12 z.2.2.2.2.2.2.2.2.2.2.2)]; clear hn; go_enter Try.func21, Try.ntmps21; go_wp2; all_goals (first | exact (undef_no ‹some undef = some (Value.bool _)›).elim | (go_ret; exact ⟨rfl, HB.out⟩))
set_option maxRecDepth 100000 in
set_option maxHeartbeats 4000000 in
theorem aright_lo2 (a b c : Int) (d e : ByteArray) (f g h : Int) (w : World) (h3 : ¬ h ≥ 3) (c1 : a ≥ 1) (c2 : a ≤ 1073741824) (c3 : b ≥ 1) (c4 : b ≤ 3) (c5 : c ≥ 0) (c6 : c ≤ 1099511627776) (c7 : (d.size : Int) ≤ 16) (c8 : (e.size : Int) ≤ 16) (c9 : f ≥ 0) (c10 : f ≤ 32) (c11 : g ≥ 0) (c12 : g ≤ 64) :
  Calls Try.prog 21 #[.agg #[.int .i64 a, .int .u8 b, .int .i64 c, .string d, .string e, .int .i64 f, .int .i64 g, .int .u8 h]] w fun x w' => x = .returned (.bool (rightP a b c d e f g h)) ∧ Below w.heap.size w w' := by
 have hu36 := Try.underlying36
 have HB := hd (below_alloc (Below.refl _ w) (.cells #[.int .i64 a, .int .u8 b, .int .i64 c, .string d, .string e, .int .i64 f, .int .i64 g, .int .u8 h] 36))
 rw [right_yes ⟨c1, c2, c3, c4, c5, c6, c7, c8, c9, c10, c11, c12⟩]
 by_cases c13 : b = 3
 ·subst c13
  rw [if_pos rfl, decide_eq_false h3, Bool.false_and]
  go_enter Try.func21, Try.ntmps21; go_wp2; all_goals (first | exact (undef_no ‹some undef = some (Value.bool _)›).elim | (go_ret; exact ⟨rfl, HB.out⟩))
 ·rw [if_neg c13]
  by_cases c15 : h = 0
  ·rw [decide_eq_true c15]; subst c15; have eb : (b != 3) = true := by simp [c13]
   go_enter Try.func21, Try.ntmps21; go_wp2; all_goals (first | exact (undef_no ‹some undef = some (Value.bool _)›).elim | (go_ret; exact ⟨rfl, HB.out⟩))
  ·rw [decide_eq_false c15]
   have eb : (b != 3) = true := by simp [c13]
   have eh : (h == 0) = false := by simp [c15]
   go_enter Try.func21, Try.ntmps21; go_wp2; all_goals (first | exact (undef_no ‹some undef = some (Value.bool _)›).elim | (go_ret; exact ⟨rfl, HB.out⟩))
end Go.Proofs.Ytinpgejkkfpckaa.Pr
end
section
namespace Go.Proofs.Ytinpgejkkfpckaa.Pr
open Go.RowKit Go.Proofs.YtinpgejkkfpckaaW.PrintWords Go.Proofs.YtinpgejkkfpckaaW.PrintLast Go.Proofs.YtinpgejkkfpckaaW.PrintMore Go.Proofs.YtinpgejkkfpckaaG
set_option linter.unusedVariables false
set_option linter.unusedSimpArgs false
theorem account_right_any (a b c : Int) (d e : ByteArray) (f g h : Int) (w : World) :
  Calls Try.prog 21 #[.agg #[.int .i64 a, .int .u8 b, .int .i64 c, .string d, .string e, .int .i64 f, .int .i64 g, .int .u8 h]] w fun x w' => x = .returned (.bool (rightP a b c d e f g h)) ∧ Below w.heap.size w w' := by
 by_cases n1 : a ≥ 1 ∧ a ≤ 1073741824 ∧ b ≥ 1 ∧ b ≤ 3 ∧ c ≥ 0 ∧ c ≤ 1099511627776
 ·obtain ⟨c1, c2, c3, c4, c5, c6⟩ := n1
  by_cases n2 : (d.size : Int) ≤ 16 ∧ (e.size : Int) ≤ 16 ∧ f ≥ 0 ∧ f ≤ 32 ∧ g ≥ 0 ∧ g ≤ 64
  ·obtain ⟨c7, c8, c9, c10, c11, c12⟩ := n2
   by_cases h3 : h ≥ 3
   ·exact aright_hi2 _ _ _ _ _ _ _ _ w h3 c1 c2 c3 c4 c5 c6 c7 c8 c9 c10 c11 c12
   ·exact aright_lo2 _ _ _ _ _ _ _ _ w h3 c1 c2 c3 c4 c5 c6 c7 c8 c9 c10 c11 c12
  ·by_cases h3 : h ≥ 3
   ·exact aright_hi1 _ _ _ _ _ _ _ _ w h3 c1 c2 c3 c4 c5 c6 n2
   ·exact aright_lo1 _ _ _ _ _ _ _ _ w h3 c1 c2 c3 c4 c5 c6 n2
 ·by_cases h3 : h ≥ 3
  ·exact aright_hi0 _ _ _ _ _ _ _ _ w h3 n1
  ·exact aright_lo0 _ _ _ _ _ _ _ _ w h3 n1
theorem account_Right.calls (a0_0 a0_1 a0_2 : Int) (a0_3 a0_4 : ByteArray) (a0_5 a0_6 a0_7 : Int) (r : Bool) (w : World) (h : account_Right.f a0_0 a0_1 a0_2 a0_3 a0_4 a0_5 a0_6 a0_7 = some r) :
  Calls Try.prog 21 #[.agg #[.int .i64 a0_0, .int .u8 a0_1, .int .i64 a0_2, .string a0_3, .string a0_4, .int .i64 a0_5, .int .i64 a0_6, .int .u8 a0_7]] w fun e w' => e = .returned (.bool r) ∧ Below w.heap.size w w' := by
 cases h
 exact account_right_any _ _ _ _ _ _ _ _ w
end Go.Proofs.Ytinpgejkkfpckaa.Pr
end
