-- MINIFIED by wip/tools/minify.py
-- Written by this session's program wip/tools/pr.py out of the translation (with the kit's print.py). Not trusted: Lean checks it.
import Derived.Test.YthlbdbaanlehhaaDoorPr0
import Derived.Test.YthlbdbaanlehhaaDoorPr23
import Derived.Test.YthlbdbaanlehhaaDoorPr25
namespace Go.Proofs.YthlbdbaanlehhaaDoor.Pr
open Go.RowKit Go.Proofs.YthlbdbaanlehhaaDoorW.PrintWords Go.Proofs.YthlbdbaanlehhaaDoorW.PrintLast Go.Proofs.YthlbdbaanlehhaaDoorW.PrintMore
attribute [local go_sem] max2_int min2_int max_two min_two max_three min_three max_four min_four   -- for this text's walks alone
set_option linter.unusedVariables false
set_option linter.unusedSimpArgs false

abbrev kPr290 : Array Bool := #[true, true, true, true, true, true, true, true, true, true, true, true, true, true, true, true, true, true, true, true]
abbrev kPr291 : Array Bool := #[true, true, true, true, true, true, true, true, true, true, true, true, true, true, true, true, true, true, true, false]
abbrev kPr292 : Array Bool := #[true, true, true, true, true, true, true, true, true, true, true, true, true, true, true, true, true, true, false, false]
abbrev kPr293 : Array Bool := #[true, true, true, true, true, true, true, true, true, true, true, true, true, true, true, true, true, false, false, false]
abbrev kPr294 : Array Bool := #[true, true, true, true, true, true, true, true, true, true, false, true, true, true, true, true, true, false, false, false]
abbrev kPr295 : Array Bool := #[true, true, true, true, true, true, true, true, true, false, false, true, true, true, true, true, true, false, false, false]
abbrev kPr296 : Array Bool := #[true, true, true, true, true, true, true, true, false, false, false, true, true, true, true, true, true, false, false, false]
abbrev kPr297 : Array Bool := #[true, true, true, true, true, true, true, true, false, false, false, true, true, true, true, true, false, false, false, false]
abbrev kPr298 : Array Bool := #[true, true, true, true, true, true, true, true, false, false, false, true, true, true, true, false, false, false, false, false]
abbrev kPr299 : Array Bool := #[true, true, true, true, true, true, true, true, false, false, false, true, true, true, false, false, false, false, false, false]
abbrev kPr2910 : Array Bool := #[true, true, true, true, true, true, true, true, false, false, false, true, false, true, false, false, false, false, false, false]
abbrev kPr2911 : Array Bool := #[true, true, true, true, true, true, true, false, false, false, false, true, false, true, false, false, false, false, false, false]
abbrev kPr2912 : Array Bool := #[true, true, true, true, true, true, false, false, false, false, false, true, false, true, false, false, false, false, false, false]
abbrev kPr2913 : Array Bool := #[true, true, true, true, true, false, false, false, false, false, false, true, false, true, false, false, false, false, false, false]
abbrev kPr2914 : Array Bool := #[true, true, true, false, true, false, false, false, false, false, false, true, false, true, false, false, false, false, false, false]
abbrev kPr2915 : Array Bool := #[true, true, true, false, true, false, false, false, false, false, false, true, false, false, false, false, false, false, false, false]
abbrev kPr2916 : Array Bool := #[true, true, true, false, true, false, false, false, false, false, false, false, false, false, false, false, false, false, false, false]
abbrev kPr2917 : Array Bool := #[true, true, true, false, false, false, false, false, false, false, false, false, false, false, false, false, false, false, false, false]
abbrev kPr2918 : Array Bool := #[true, true, false, false, false, false, false, false, false, false, false, false, false, false, false, false, false, false, false, false]
abbrev kPr2919 : Array Bool := #[true, false, false, false, false, false, false, false, false, false, false, false, false, false, false, false, false, false, false, false]
abbrev kPr2920 : Array Bool := #[false, false, false, false, false, false, false, false, false, false, false, false, false, false, false, false, false, false, false, false]
/-! ### musterref31_Answer: function 25 -/
mutual
def musterref31_Answer.j0 : Nat → ByteArray → Int → List Int → List (S31) → List (S36) → Option (ByteArray)
 | 0, _, _, _, _, _ => none
 | k + 1, x3, x352000, x352001, x352002, x352003 => musterref31_Answer.l0 k x3 0 x352000 x352001 x352002 x352003
def musterref31_Answer.l0 : Nat → ByteArray → Int → Int → List Int → List (S31) → List (S36) → Option (ByteArray)
 | 0, _, _, _, _, _, _ => none
 | k + 1, x3, x4, x352000, x352001, x352002, x352003 => if x4 < (x352001.length : Int) then (if x3.size + 1 ≤ 9223372036854775807 then (if 0 ≤ x4 then ((musterref31_Decimal.f k (rd x352001 x4)).bind fun t354 => (if (x3 ++ (⟨#[32]⟩ : ByteArray)).size + t354.size ≤ 9223372036854775807 then (musterref31_Answer.l0 k ((x3 ++ (⟨#[32]⟩ : ByteArray)) ++ t354) (wrap64 (x4 + 1)) x352000 x352001 x352002 x352003) else (none))) else (none)) else (none)) else (if (x352002.length : Int) > 0 then (if x3.size + 5 ≤ 9223372036854775807 then (musterref31_Answer.j2 k (x3 ++ (⟨#[32, 111, 118, 101, 114]⟩ : ByteArray)) x352000 x352001 x352002 x352003) else (none)) else (musterref31_Answer.j2 k x3 x352000 x352001 x352002 x352003))
def musterref31_Answer.j2 : Nat → ByteArray → Int → List Int → List (S31) → List (S36) → Option (ByteArray)
 | 0, _, _, _, _, _ => none
 | k + 1, x3, x352000, x352001, x352002, x352003 => musterref31_Answer.l1 k x3 0 x352000 x352001 x352002 x352003
def musterref31_Answer.l1 : Nat → ByteArray → Int → Int → List Int → List (S31) → List (S36) → Option (ByteArray)
 | 0, _, _, _, _, _, _ => none
 | k + 1, x3, x5, x352000, x352001, x352002, x352003 => if x5 < (x352002.length : Int) then (if x3.size + 1 ≤ 9223372036854775807 then (if 0 ≤ x5 then ((musterref31_Decimal.f k ((rd_T31 x352002 x5).f0)).bind fun t356 => (if (x3 ++ (⟨#[32]⟩ : ByteArray)).size + t356.size ≤ 9223372036854775807 then (if ((x3 ++ (⟨#[32]⟩ : ByteArray)) ++ t356).size + 1 ≤ 9223372036854775807 then ((musterref31_State.f ((rd_T31 x352002 x5).f1)).bind fun t358 => (if (((x3 ++ (⟨#[32]⟩ : ByteArray)) ++ t356) ++ (⟨#[58]⟩ : ByteArray)).size + t358.size ≤ 9223372036854775807 then (musterref31_Answer.l1 k ((((x3 ++ (⟨#[32]⟩ : ByteArray)) ++ t356) ++ (⟨#[58]⟩ : ByteArray)) ++ t358) (wrap64 (x5 + 1)) x352000 x352001 x352002 x352003) else (none))) else (none)) else (none))) else (none)) else (none)) else (if (x352003.length : Int) > 0 then (if x3.size + 6 ≤ 9223372036854775807 then (musterref31_Answer.j4 k (x3 ++ (⟨#[32, 115, 116, 97, 114, 116]⟩ : ByteArray)) x352000 x352001 x352002 x352003) else (none)) else (musterref31_Answer.j4 k x3 x352000 x352001 x352002 x352003))
def musterref31_Answer.j4 : Nat → ByteArray → Int → List Int → List (S31) → List (S36) → Option (ByteArray)
 | 0, _, _, _, _, _ => none
 | k + 1, x3, x352000, x352001, x352002, x352003 => musterref31_Answer.l2 k x3 0 x352000 x352001 x352002 x352003
def musterref31_Answer.l2 : Nat → ByteArray → Int → Int → List Int → List (S31) → List (S36) → Option (ByteArray)
 | 0, _, _, _, _, _, _ => none
 | k + 1, x3, x6, x352000, x352001, x352002, x352003 => if x6 < (x352003.length : Int) then (if x3.size + 1 ≤ 9223372036854775807 then (if 0 ≤ x6 then ((musterref31_Decimal.f k ((rd_T36 x352003 x6).f0)).bind fun t360 => (if (x3 ++ (⟨#[32]⟩ : ByteArray)).size + t360.size ≤ 9223372036854775807 then (if ((x3 ++ (⟨#[32]⟩ : ByteArray)) ++ t360).size + 1 ≤ 9223372036854775807 then ((musterref10_Print.f k ((rd_T36 x352003 x6).f1)).bind fun t362 => (if (((x3 ++ (⟨#[32]⟩ : ByteArray)) ++ t360) ++ (⟨#[58]⟩ : ByteArray)).size + t362.size ≤ 9223372036854775807 then (musterref31_Answer.l2 k ((((x3 ++ (⟨#[32]⟩ : ByteArray)) ++ t360) ++ (⟨#[58]⟩ : ByteArray)) ++ t362) (wrap64 (x6 + 1)) x352000 x352001 x352002 x352003) else (none))) else (none)) else (none))) else (none)) else (none)) else (some x3)
end
def musterref31_Answer.f (k : Nat) (a0_0 : Int) (l0_1 : List Int) (l0_2 : List (S31)) (l0_3 : List (S36)) : Option (ByteArray) := if a0_0 = 0 then (if (l0_1.length : Int) > 0 then (if 2 + 5 ≤ 9223372036854775807 then (musterref31_Answer.j0 k ((⟨#[111, 107]⟩ : ByteArray) ++ (⟨#[32, 106, 111, 98, 115]⟩ : ByteArray)) a0_0 l0_1 l0_2 l0_3) else (none)) else (musterref31_Answer.j0 k (⟨#[111, 107]⟩ : ByteArray) a0_0 l0_1 l0_2 l0_3)) else ((musterref31_Decimal.f k a0_0).bind fun t352 => (if 6 + t352.size ≤ 9223372036854775807 then (some ((⟨#[101, 114, 114, 111, 114, 32]⟩ : ByteArray) ++ t352)) else (none)))
theorem musterref31_Answer.mono_l : ∀ k, (∀ y0 y1 y2 y3 y4, LeO (musterref31_Answer.j0 k y0 y1 y2 y3 y4) (musterref31_Answer.j0 (k + 1) y0 y1 y2 y3 y4)) ∧ (∀ y0 y1 y2 y3 y4 y5, LeO (musterref31_Answer.l0 k y0 y1 y2 y3 y4 y5) (musterref31_Answer.l0 (k + 1) y0 y1 y2 y3 y4 y5)) ∧ (∀ y0 y1 y2 y3 y4, LeO (musterref31_Answer.j2 k y0 y1 y2 y3 y4) (musterref31_Answer.j2 (k + 1) y0 y1 y2 y3 y4)) ∧ (∀ y0 y1 y2 y3 y4 y5, LeO (musterref31_Answer.l1 k y0 y1 y2 y3 y4 y5) (musterref31_Answer.l1 (k + 1) y0 y1 y2 y3 y4 y5)) ∧ (∀ y0 y1 y2 y3 y4, LeO (musterref31_Answer.j4 k y0 y1 y2 y3 y4) (musterref31_Answer.j4 (k + 1) y0 y1 y2 y3 y4)) ∧ (∀ y0 y1 y2 y3 y4 y5, LeO (musterref31_Answer.l2 k y0 y1 y2 y3 y4 y5) (musterref31_Answer.l2 (k + 1) y0 y1 y2 y3 y4 y5))
 | 0 => ⟨fun _ _ _ _ _ r h => by simp [musterref31_Answer.j0] at h, fun _ _ _ _ _ _ r h => by simp [musterref31_Answer.l0] at h, fun _ _ _ _ _ r h => by simp [musterref31_Answer.j2] at h, fun _ _ _ _ _ _ r h => by simp [musterref31_Answer.l1] at h, fun _ _ _ _ _ r h => by simp [musterref31_Answer.j4] at h, fun _ _ _ _ _ _ r h => by simp [musterref31_Answer.l2] at h⟩
 | k + 1 => by
  obtain ⟨ih0, ih1, ih2, ih3, ih4, ih5⟩ := musterref31_Answer.mono_l k; refine ⟨?_, ?_, ?_, ?_, ?_, ?_⟩
  ·intro y0 y1 y2 y3 y4; unfold musterref31_Answer.j0; repeat' first
   | (with_reducible exact ih0 _ _ _ _ _)
   | (with_reducible exact ih1 _ _ _ _ _ _)
   | (with_reducible exact ih2 _ _ _ _ _)
   | (with_reducible exact ih3 _ _ _ _ _ _)
   | (with_reducible exact ih4 _ _ _ _ _)
   | (with_reducible exact ih5 _ _ _ _ _ _)
   | (with_reducible exact musterref10_Print.mono _ _)
   | (with_reducible exact musterref31_Decimal.mono _ _)
   | (with_reducible exact LeO.refl _)
   | (with_reducible exact LeO.none _)
   | (with_reducible refine LeO.ite ?_ ?_)
   | (with_reducible refine LeO.bind ?_ (fun _ => ?_))
   | exact ih0 _ _ _ _ _
   | exact ih1 _ _ _ _ _ _
   | exact ih2 _ _ _ _ _
   | exact ih3 _ _ _ _ _ _
   | exact ih4 _ _ _ _ _
   | exact ih5 _ _ _ _ _ _
   | exact musterref10_Print.mono _ _
   | exact musterref31_Decimal.mono _ _
   | exact LeO.none _
   | refine LeO.ite ?_ ?_
   | refine LeO.bind ?_ (fun _ => ?_)
  ·intro y0 y1 y2 y3 y4 y5; unfold musterref31_Answer.l0; repeat' first
   | (with_reducible exact ih0 _ _ _ _ _)
   | (with_reducible exact ih1 _ _ _ _ _ _)
   | (with_reducible exact ih2 _ _ _ _ _)
   | (with_reducible exact ih3 _ _ _ _ _ _)
   | (with_reducible exact ih4 _ _ _ _ _)
   | (with_reducible exact ih5 _ _ _ _ _ _)
   | (with_reducible exact musterref10_Print.mono _ _)
   | (with_reducible exact musterref31_Decimal.mono _ _)
   | (with_reducible exact LeO.refl _)
   | (with_reducible exact LeO.none _)
   | (with_reducible refine LeO.ite ?_ ?_)
   | (with_reducible refine LeO.bind ?_ (fun _ => ?_))
   | exact ih0 _ _ _ _ _
   | exact ih1 _ _ _ _ _ _
   | exact ih2 _ _ _ _ _
   | exact ih3 _ _ _ _ _ _
   | exact ih4 _ _ _ _ _
   | exact ih5 _ _ _ _ _ _
   | exact musterref10_Print.mono _ _
   | exact musterref31_Decimal.mono _ _
   | exact LeO.none _
   | refine LeO.ite ?_ ?_
   | refine LeO.bind ?_ (fun _ => ?_)
  ·intro y0 y1 y2 y3 y4; unfold musterref31_Answer.j2; repeat' first
   | (with_reducible exact ih0 _ _ _ _ _)
   | (with_reducible exact ih1 _ _ _ _ _ _)
   | (with_reducible exact ih2 _ _ _ _ _)
   | (with_reducible exact ih3 _ _ _ _ _ _)
   | (with_reducible exact ih4 _ _ _ _ _)
   | (with_reducible exact ih5 _ _ _ _ _ _)
   | (with_reducible exact musterref10_Print.mono _ _)
   | (with_reducible exact musterref31_Decimal.mono _ _)
   | (with_reducible exact LeO.refl _)
   | (with_reducible exact LeO.none _)
   | (with_reducible refine LeO.ite ?_ ?_)
   | (with_reducible refine LeO.bind ?_ (fun _ => ?_))
   | exact ih0 _ _ _ _ _
   | exact ih1 _ _ _ _ _ _
   | exact ih2 _ _ _ _ _
   | exact ih3 _ _ _ _ _ _
   | exact ih4 _ _ _ _ _
   | exact ih5 _ _ _ _ _ _
   | exact musterref10_Print.mono _ _
   | exact musterref31_Decimal.mono _ _
   | exact LeO.none _
   | refine LeO.ite ?_ ?_
   | refine LeO.bind ?_ (fun _ => ?_)
  ·intro y0 y1 y2 y3 y4 y5; unfold musterref31_Answer.l1; repeat' first
   | (with_reducible exact ih0 _ _ _ _ _)
   | (with_reducible exact ih1 _ _ _ _ _ _)
   | (with_reducible exact ih2 _ _ _ _ _)
   | (with_reducible exact ih3 _ _ _ _ _ _)
   | (with_reducible exact ih4 _ _ _ _ _)
   | (with_reducible exact ih5 _ _ _ _ _ _)
   | (with_reducible exact musterref10_Print.mono _ _)
   | (with_reducible exact musterref31_Decimal.mono _ _)
   | (with_reducible exact LeO.refl _)
   | (with_reducible exact LeO.none _)
   | (with_reducible refine LeO.ite ?_ ?_)
   | (with_reducible refine LeO.bind ?_ (fun _ => ?_))
   | exact ih0 _ _ _ _ _
   | exact ih1 _ _ _ _ _ _
   | exact ih2 _ _ _ _ _
   | exact ih3 _ _ _ _ _ _
   | exact ih4 _ _ _ _ _
   | exact ih5 _ _ _ _ _ _
   | exact musterref10_Print.mono _ _
   | exact musterref31_Decimal.mono _ _
   | exact LeO.none _
   | refine LeO.ite ?_ ?_
   | refine LeO.bind ?_ (fun _ => ?_)
  ·intro y0 y1 y2 y3 y4; unfold musterref31_Answer.j4; repeat' first
   | (with_reducible exact ih0 _ _ _ _ _)
   | (with_reducible exact ih1 _ _ _ _ _ _)
   | (with_reducible exact ih2 _ _ _ _ _)
   | (with_reducible exact ih3 _ _ _ _ _ _)
   | (with_reducible exact ih4 _ _ _ _ _)
   | (with_reducible exact ih5 _ _ _ _ _ _)
   | (with_reducible exact musterref10_Print.mono _ _)
   | (with_reducible exact musterref31_Decimal.mono _ _)
   | (with_reducible exact LeO.refl _)
   | (with_reducible exact LeO.none _)
   | (with_reducible refine LeO.ite ?_ ?_)
   | (with_reducible refine LeO.bind ?_ (fun _ => ?_))
   | exact ih0 _ _ _ _ _
   | exact ih1 _ _ _ _ _ _
   | exact ih2 _ _ _ _ _
   | exact ih3 _ _ _ _ _ _
   | exact ih4 _ _ _ _ _
   | exact ih5 _ _ _ _ _ _
   | exact musterref10_Print.mono _ _
   | exact musterref31_Decimal.mono _ _
   | exact LeO.none _
   | refine LeO.ite ?_ ?_
   | refine LeO.bind ?_ (fun _ => ?_)
  ·intro y0 y1 y2 y3 y4 y5; unfold musterref31_Answer.l2; repeat' first
   | (with_reducible exact ih0 _ _ _ _ _)
   | (with_reducible exact ih1 _ _ _ _ _ _)
   | (with_reducible exact ih2 _ _ _ _ _)
   | (with_reducible exact ih3 _ _ _ _ _ _)
   | (with_reducible exact ih4 _ _ _ _ _)
   | (with_reducible exact ih5 _ _ _ _ _ _)
   | (with_reducible exact musterref10_Print.mono _ _)
   | (with_reducible exact musterref31_Decimal.mono _ _)
   | (with_reducible exact LeO.refl _)
   | (with_reducible exact LeO.none _)
   | (with_reducible refine LeO.ite ?_ ?_)
   | (with_reducible refine LeO.bind ?_ (fun _ => ?_))
   | exact ih0 _ _ _ _ _
   | exact ih1 _ _ _ _ _ _
   | exact ih2 _ _ _ _ _
   | exact ih3 _ _ _ _ _ _
   | exact ih4 _ _ _ _ _
   | exact ih5 _ _ _ _ _ _
   | exact musterref10_Print.mono _ _
   | exact musterref31_Decimal.mono _ _
   | exact LeO.none _
   | refine LeO.ite ?_ ?_
   | refine LeO.bind ?_ (fun _ => ?_)
theorem musterref31_Answer.mono : ∀ a0 a1 a2 a3 k, LeO (musterref31_Answer.f k a0 a1 a2 a3) (musterref31_Answer.f (k + 1) a0 a1 a2 a3) := by
 intro a0 a1 a2 a3 k; obtain ⟨ih0, ih1, ih2, ih3, ih4, ih5⟩ := musterref31_Answer.mono_l k; unfold musterref31_Answer.f
 repeat' first
   | (with_reducible exact ih0 _ _ _ _ _)
   | (with_reducible exact ih1 _ _ _ _ _ _)
   | (with_reducible exact ih2 _ _ _ _ _)
   | (with_reducible exact ih3 _ _ _ _ _ _)
   | (with_reducible exact ih4 _ _ _ _ _)
   | (with_reducible exact ih5 _ _ _ _ _ _)
   | (with_reducible exact musterref10_Print.mono _ _)
   | (with_reducible exact musterref31_Decimal.mono _ _)
   | (with_reducible exact LeO.refl _)
   | (with_reducible exact LeO.none _)
   | (with_reducible refine LeO.ite ?_ ?_)
   | (with_reducible refine LeO.bind ?_ (fun _ => ?_))
   | exact ih0 _ _ _ _ _
   | exact ih1 _ _ _ _ _ _
   | exact ih2 _ _ _ _ _
   | exact ih3 _ _ _ _ _ _
   | exact ih4 _ _ _ _ _
   | exact ih5 _ _ _ _ _ _
   | exact musterref10_Print.mono _ _
   | exact musterref31_Decimal.mono _ _
   | exact LeO.none _
   | refine LeO.ite ?_ ?_
   | refine LeO.bind ?_ (fun _ => ?_)
def musterref31_Answer.T15 : Bool × List (List Nat × List Nat) := (true, [([], []), ([0], [0]), ([], []), ([2], [2]), ([], []), ([3, 4], [3, 4]), ([5], [5]), ([6], [6]), ([7], [7]), ([1, 8], [1, 8]), ([9], [9]), ([], []), ([11], [11]), ([], []), ([12, 13], [12, 13]), ([14], [14]), ([15], [15]), ([16, 8], [16]), ([10, 17], [10, 17]), ([18, 17, 0, 1, 2, 3, 4, 5, 6, 7, 8, 9, 10, 11, 12, 13, 14, 15, 16, 17, 18], [0, 18])])
def musterref31_Answer.B15 : List Nat := [0, 1, 0, 4, 0, 28, 60, 124, 252, 511, 1023, 0, 2048, 0, 14336, 30720, 63488, 129532, 262143, 524287]
theorem musterref31_Answer.tab15 : rtab .any (opsOf Tryd.f25 15) = musterref31_Answer.T15 := by kernel_rfl
theorem musterref31_Answer.bits15 : waitsOk musterref31_Answer.T15.2 musterref31_Answer.B15 = true := by kernel_rfl
def musterref31_Answer.T21 : Bool × List (List Nat × List Nat) := (true, [([], []), ([0], [0]), ([], []), ([2], [2]), ([], []), ([3, 4], [3, 4]), ([5], [5]), ([6], [6]), ([7], [7]), ([1, 8], [1, 8]), ([9], [9]), ([], []), ([11], [11]), ([], []), ([12, 13], [12, 13]), ([14], [14]), ([15], [15]), ([16, 8], [16]), ([10, 17], [10, 17]), ([18, 17, 0, 1, 2, 3, 4, 5, 6, 7, 8, 9, 10, 11, 12, 13, 14, 15, 16, 17, 18], [0, 18])])
def musterref31_Answer.B21 : List Nat := [0, 1, 0, 4, 0, 28, 60, 124, 252, 511, 1023, 0, 2048, 0, 14336, 30720, 63488, 129532, 262143, 524287]
theorem musterref31_Answer.tab21 : rtab .any (opsOf Tryd.f25 21) = musterref31_Answer.T21 := by kernel_rfl
theorem musterref31_Answer.bits21 : waitsOk musterref31_Answer.T21.2 musterref31_Answer.B21 = true := by kernel_rfl
set_option maxHeartbeats 8000000 in
set_option maxRecDepth 100000 in
theorem musterref31_Answer.calls (k : Nat) (a0_0 : Int) (A0_1 : Option Addr) (c0_1 : Nat) (l0_1 : List Int) (A0_2 : Option Addr) (c0_2 : Nat) (l0_2 : List (S31)) (A0_3 : Option Addr) (c0_3 : Nat) (l0_3 : List (S36)) (r : ByteArray) (w : World) (hr0_1 : Kd.C (Kd.int .i64) w A0_1 l0_1.length l0_1) (hc0_1 : l0_1.length ≤ c0_1) (hr0_2 : Kd.C k31 w A0_2 l0_2.length l0_2) (hc0_2 : l0_2.length ≤ c0_2) (hr0_3 : Kd.C k36 w A0_3 l0_3.length l0_3) (hc0_3 : l0_3.length ≤ c0_3) (h : musterref31_Answer.f k a0_0 l0_1 l0_2 l0_3 = some r) :
  Calls Tryd.prog 25 #[.agg #[.int .i64 a0_0, .slice A0_1 l0_1.length c0_1, .slice A0_2 l0_2.length c0_2, .slice A0_3 l0_3.length c0_3]] w fun e w' => e = .returned (.string r) ∧ Below w.heap.size w w' := by
 have hu27 := Tryd.underlying27; have HR0_1 := Aside0.mk hr0_1; have HC0_1 := Aside0.mk hc0_1; clear hr0_1 hc0_1; have HR0_2 := Aside0.mk hr0_2; have HC0_2 := Aside0.mk hc0_2; clear hr0_2 hc0_2; have HR0_3 := Aside0.mk hr0_3; have HC0_3 := Aside0.mk hc0_3; clear hr0_3 hc0_3; have HB := Aside0.mk (Below.refl w.heap.size w); have H : (if a0_0 = 0 then (if (l0_1.length : Int) > 0 then (if 2 + 5 ≤ 9223372036854775807 then (musterref31_Answer.j0 k ((⟨#[111, 107]⟩ : ByteArray) ++ (⟨#[32, 106, 111, 98, 115]⟩ : ByteArray)) a0_0 l0_1 l0_2 l0_3) else (none)) else (musterref31_Answer.j0 k (⟨#[111, 107]⟩ : ByteArray) a0_0 l0_1 l0_2 l0_3)) else ((musterref31_Decimal.f k a0_0).bind fun t352 => (if 6 + t352.size ≤ 9223372036854775807 then (some ((⟨#[101, 114, 114, 111, 114, 32]⟩ : ByteArray) ++ t352)) else (none)))) = some r := h; clear h; by_cases c2 : a0_0 = 0
 ·rw [if_pos c2] at H; have c2b0 : (a0_0 == 0) = true := beq_iff_eq.mpr c2; have c2b1 : (a0_0 != 0) = false := bne_eq_false_iff_eq.mpr c2; clear c2; have HC3 := Aside0.mk H; clear H; (go_enter Tryd.func25, Tryd.ntmps25); (go_upto_if 17 with (first | ((with_reducible refine gate_dst (N := 1) rfl ?_); refine box_event ?hg (N := 1) ?hd (cs := #[.int .i64 a0_0, .slice A0_1 l0_1.length c0_1, .slice A0_2 l0_2.length c0_2, .slice A0_3 l0_3.length c0_3]) (t := 27) ?hr ?_; (case hd => rfl); (case hg => rfl); (case hr => first | (go_simp; done) | (go_simp; rfl)); intro gb351 hg w4 hbox hb; have n0_ := Aside0.mk (below_step (by repeat (first | (with_reducible first | exact HB.out | apply below_alloc | apply pw_below_drewN | apply below_drew1) | exact HB.out)) hb); have n1_ := Aside0.mk (hbox); have n2_ := Aside0.mk ((by rw [hg]; exact (below_size (by repeat (first | (with_reducible first | exact HB.out | apply below_alloc | apply pw_below_drewN | apply below_drew1) | exact HB.out))) : w.heap.size ≤ gb351)); have n3_ := Aside0.mk ((by rw [hg]; exact (below_size (by repeat (first | (with_reducible first | exact HB.out | apply below_alloc | apply pw_below_drewN | apply below_drew1) | exact HB.out))) : w.heap.size ≤ gb351)); clear HB; have HB := n0_; have BK351 := n1_; have GW351 := n2_; have GE351 := n3_; clear n0_ n1_ n2_ n3_; clear hb hbox hg; have hcz5_0 : w4.cell? ⟨gb351, 0, none⟩ = some (.int .i64 a0_0) := (blk_cell BK351.out 0).trans rfl; have hcz5_1 : w4.cell? ⟨gb351, 1, none⟩ = some (.slice A0_1 l0_1.length c0_1) := (blk_cell BK351.out 1).trans rfl; have hcz5_2 : w4.cell? ⟨gb351, 2, none⟩ = some (.slice A0_2 l0_2.length c0_2) := (blk_cell BK351.out 2).trans rfl; have hcz5_3 : w4.cell? ⟨gb351, 3, none⟩ = some (.slice A0_3 l0_3.length c0_3) := (blk_cell BK351.out 3).trans rfl; have hfz5_0 := blk_frozen BK351.out 0; have hfz5_1 := blk_frozen BK351.out 1; have hfz5_2 := blk_frozen BK351.out 2; have hfz5_3 := blk_frozen BK351.out 3))); (try simp only [Act.put, sA, sB, sC]); go_cut [3] (fun v3 wc => ∃ (kq : Nat) (x3_2 : ByteArray), v3 = .string x3_2 ∧ Aside0 (musterref31_Answer.j0 kq x3_2 a0_0 l0_1 l0_2 l0_3 = some r) ∧ Aside0 (kq ≤ k) ∧ Aside0 (wc.heap[gb351]? = some (.cells #[.int .i64 a0_0, (.slice A0_1 l0_1.length c0_1), (.slice A0_2 l0_2.length c0_2), (.slice A0_3 l0_3.length c0_3)] 27 (0, 0))) ∧ Aside0 (Below w.heap.size w wc))
  case first =>
   have H := HC3.out; clear HC3; by_cases c6 : (l0_1.length : Int) > 0
   ·rw [if_pos c6] at H; have c6b0 : decide (0 < (l0_1.length : Int)) = true := decide_eq_true c6; have c6b1 : decide (0 < l0_1.length) = true := decide_eq_true (by omega); clear c6; (first | rw [c6b0] | (simp only [i64_w, i32_w]; rw [c6b0]) | rw [c6b1] | skip); by_cases c7 : 2 + 5 ≤ 9223372036854775807
    ·rw [if_pos c7] at H; have c7b0 := eq_true c7; have c7b1 : decide (2 + 5 ≤ 9223372036854775807) = true := decide_eq_true c7; (try have c7b2 : (9223372036854775807 < 2 + 5) = False := eq_false (Nat.not_lt.2 c7)); have H' := Aside0.mk H; clear H; go_wp2; go_meet
     case rel => exact ⟨_, ((⟨#[111, 107]⟩ : ByteArray) ++ (⟨#[32, 106, 111, 98, 115]⟩ : ByteArray)), (by first | rfl | (simp; done) | (simp [*]; done)), H', ⟨by first | omega | exact Nat.le_refl _⟩, ⟨by (with_reducible repeat (first | refine blk_drewN ?_ _ | refine blk_drew ?_ | refine blk_alloc ?_ _)); exact BK351.out⟩, ⟨by repeat (first | (with_reducible first | exact HB.out | apply below_alloc | apply pw_below_drewN | apply below_drew1 | refine below_set ?_ GE351.out) | exact HB.out)⟩⟩
    ·rw [if_neg c7] at H; exact absurd H (by simp)
   ·rw [if_neg c6] at H; have c6b0 : decide (0 < (l0_1.length : Int)) = false := decide_eq_false c6; have c6b1 : decide (0 < l0_1.length) = false := decide_eq_false (by omega); clear c6; (first | rw [c6b0] | (simp only [i64_w, i32_w]; rw [c6b0]) | rw [c6b1] | skip); have H' := Aside0.mk H; clear H; go_wp2; go_meet
    case rel => exact ⟨_, ((⟨#[111, 107]⟩ : ByteArray)), (by first | rfl | (simp; done) | (simp [*]; done)), H', ⟨by first | omega | exact Nat.le_refl _⟩, ⟨by (with_reducible repeat (first | refine blk_drewN ?_ _ | refine blk_drew ?_ | refine blk_alloc ?_ _)); exact BK351.out⟩, ⟨by repeat (first | (with_reducible first | exact HB.out | apply below_alloc | apply pw_below_drewN | apply below_drew1 | refine below_set ?_ GE351.out) | exact HB.out)⟩⟩
  case rest =>
   clear HC3; (try clear c2); (try clear c2b0); (try clear c2b1); (try clear p2); (try clear c6); (try clear c6b0); (try clear c6b1); (try clear c7); (try clear c7b0); (try clear c7b1); (try clear c7b2); (try clear hcz5_0); (try clear hcz5_1); (try clear hcz5_2); (try clear hcz5_3); (try clear hfz5_0); (try clear hfz5_1); (try clear hfz5_2); (try clear hfz5_3); obtain ⟨kq, x3_2, rfl, HA, HJ2, BK351, HB⟩ := hcut
   cases kq with
   | zero => exact absurd HA.out (by simp [musterref31_Answer.j0])
   | succ kj2 =>
    have H := HA.out; clear HA; simp only [musterref31_Answer.j0] at H; have H' := Aside0.mk H; clear H; go_wp2; go_loopg [3, 4] kj2 (fun kq v3 v4 w' => ∃ (x3_2 : ByteArray) (x4_2 : Int), v3 = .string x3_2 ∧ v4 = .int .i64 x4_2 ∧ Aside0 (musterref31_Answer.l0 kq x3_2 x4_2 a0_0 l0_1 l0_2 l0_3 = some r) ∧ Aside0 (kq ≤ kj2) ∧ Aside0 (w'.heap[gb351]? = some (.cells #[.int .i64 a0_0, (.slice A0_1 l0_1.length c0_1), (.slice A0_2 l0_2.length c0_2), (.slice A0_3 l0_3.length c0_3)] 27 (0, 0))) ∧ Aside0 (Below w.heap.size w w'))
    case atStart => exact ⟨(x3_2), (0), (by first | rfl | (simp; done) | (simp [*]; done)), (by first | rfl | (simp; done) | (simp [*]; done)), H', ⟨Nat.le_refl _⟩, ⟨by (with_reducible repeat (first | refine blk_drewN ?_ _ | refine blk_drew ?_ | refine blk_alloc ?_ _)); exact BK351.out⟩, ⟨by repeat (first | (with_reducible first | exact HB.out | apply below_alloc | apply pw_below_drewN | apply below_drew1 | refine below_set ?_ GE351.out) | exact HB.out)⟩⟩
    case round =>
     clear H'; (try clear c2); (try clear c2b0); (try clear c2b1); (try clear p2); (try clear c6); (try clear c6b0); (try clear c6b1); (try clear c7); (try clear c7b0); (try clear c7b1); (try clear c7b2); (try clear hcz5_0); (try clear hcz5_1); (try clear hcz5_2); (try clear hcz5_3); (try clear hfz5_0); (try clear hfz5_1); (try clear hfz5_2); (try clear hfz5_3); (try clear p2); obtain ⟨x3_2, x4_2, rfl, rfl, HA, HK2, BK351, HB⟩ := hrel
     cases gk with
     | zero => exact absurd HA.out (by simp [musterref31_Answer.l0])
     | succ k2 =>
      have H := HA.out; clear HA; simp only [musterref31_Answer.l0] at H; by_cases c8 : x4_2 < (l0_1.length : Int)
      ·rw [if_pos c8] at H; have c8b0 : decide (x4_2 < (l0_1.length : Int)) = true := decide_eq_true c8; clear c8; by_cases c9 : x3_2.size + 1 ≤ 9223372036854775807
       ·rw [if_pos c9] at H; have c9b0 := eq_true c9; have c9b1 : decide (x3_2.size + 1 ≤ 9223372036854775807) = true := decide_eq_true c9; (try have c9b2 : (9223372036854775807 < x3_2.size + 1) = False := eq_false (Nat.not_lt.2 c9)); by_cases c10 : 0 ≤ x4_2
        ·rw [if_pos c10] at H; have c10b0 : decide (0 ≤ x4_2) = true := decide_eq_true c10; clear c10; replace H := Option.bind_eq_some_iff.mp H; obtain ⟨t354, A110, H⟩ := H; replace H : (if (x3_2 ++ (⟨#[32]⟩ : ByteArray)).size + t354.size ≤ 9223372036854775807 then (musterref31_Answer.l0 k2 ((x3_2 ++ (⟨#[32]⟩ : ByteArray)) ++ t354) (wrap64 (x4_2 + 1)) a0_0 l0_1 l0_2 l0_3) else (none)) = some r := H; have A11 := Aside0.mk A110; clear A110; by_cases c12 : (x3_2 ++ (⟨#[32]⟩ : ByteArray)).size + t354.size ≤ 9223372036854775807
         ·rw [if_pos c12] at H; have c12b0 := eq_true c12; have c12b1 : decide ((x3_2 ++ (⟨#[32]⟩ : ByteArray)).size + t354.size ≤ 9223372036854775807) = true := decide_eq_true c12; (have c12m0 : (x3_2.size + 1 + t354.size ≤ 9223372036854775807) = True := by have h_ := c12; simp only [ByteArray.size_append] at h_; exact eq_true h_); (have c12m1 : (9223372036854775807 < x3_2.size + 1 + t354.size) = False := by have h_ := c12; simp only [ByteArray.size_append] at h_; exact eq_false (Nat.not_lt.2 h_)); (try have c12b2 : (9223372036854775807 < (x3_2 ++ (⟨#[32]⟩ : ByteArray)).size + t354.size) = False := eq_false (Nat.not_lt.2 c12)); have H' := Aside0.mk H; clear H; have hcz13_0 : wr.cell? ⟨gb351, 0, none⟩ = some (.int .i64 a0_0) := (blk_cell BK351.out 0).trans rfl; have hcz13_1 : wr.cell? ⟨gb351, 1, none⟩ = some (.slice A0_1 l0_1.length c0_1) := (blk_cell BK351.out 1).trans rfl; have hcz13_2 : wr.cell? ⟨gb351, 2, none⟩ = some (.slice A0_2 l0_2.length c0_2) := (blk_cell BK351.out 2).trans rfl; have hcz13_3 : wr.cell? ⟨gb351, 3, none⟩ = some (.slice A0_3 l0_3.length c0_3) := (blk_cell BK351.out 3).trans rfl; have hfz13_0 := blk_frozen BK351.out 0; have hfz13_1 := blk_frozen BK351.out 1; have hfz13_2 := blk_frozen BK351.out 2; have hfz13_3 := blk_frozen BK351.out 3; have p353 : 0 ≤ (x4_2 : Int) := of_decide_eq_true (by first | (with_reducible assumption) | assumption); have q353 : x4_2 < (l0_1.length : Int) := of_decide_eq_true (by first | (with_reducible assumption) | assumption); obtain ⟨ad353, e353, hx353_0⟩ := Kd.at_int HR0_1.out x4_2 p353 q353
          cases e353; replace hx353_0 := (HB.out.cell (World.block_lt_of_cell? w _ hx353_0)).trans hx353_0; replace p353 := eq_true p353; replace q353 := eq_true q353; (go_wp2_with (first | ((with_reducible refine gate_callee (f := 37) rfl ?_); refine goesL_ (some 34) rfl rfl Tryd.func37 (by kernel_rfl) rfl #[.int .i64 (rd l0_1 x4_2)] rfl (by (try simp only [List.map_toArray, List.map_cons, List.map_nil]); first | done | rfl | (simp only [List.length_drop, List.length_take]; rfl)) ?_; (with_reducible refine (musterref31_Decimal.calls k2 (rd l0_1 x4_2) t354 _ A11.out).mono ?_); rintro e w14 ⟨rfl, hb⟩; refine ⟨_, rfl, ?_⟩; have n0_ := Aside0.mk (blk_below (g := gb351) (o := .cells #[.int .i64 a0_0, .slice (some ad353) l0_1.length c0_1, .slice A0_2 l0_2.length c0_2, .slice A0_3 l0_3.length c0_3] 27 (0, 0)) (by (with_reducible repeat (first | refine blk_drewN ?_ _ | refine blk_drew ?_ | refine blk_alloc ?_ _)); exact BK351.out) hb); have n1_ := Aside0.mk (below_step (by repeat (first | (with_reducible first | exact HB.out | apply below_alloc | apply pw_below_drewN | apply below_drew1 | refine below_set ?_ GE351.out) | exact HB.out)) hb); clear BK351; clear HB; have BK351 := n0_; have HB := n1_; clear n0_ n1_; (try clear hb); (try clear hb2); (try clear hk); (try clear hi)))); go_roundg k2
          case measure => have := HJ2.out; have := HK2.out; omega
          case rel => exact ⟨((x3_2 ++ (⟨#[32]⟩ : ByteArray)) ++ t354), (wrap64 (x4_2 + 1)), (by first | rfl | (simp; done) | (simp [*]; done)), (by first | rfl | (simp; done) | (simp [*]; done)), H', ⟨by have := HJ2.out; have := HK2.out; omega⟩, ⟨by (with_reducible repeat (first | refine blk_drewN ?_ _ | refine blk_drew ?_ | refine blk_alloc ?_ _)); exact BK351.out⟩, ⟨by repeat (first | (with_reducible first | exact HB.out | apply below_alloc | apply pw_below_drewN | apply below_drew1 | refine below_set ?_ GE351.out) | exact HB.out)⟩⟩
         ·rw [if_neg c12] at H; exact absurd H (by simp)
        ·rw [if_neg c10] at H; exact absurd H (by simp)
       ·rw [if_neg c9] at H; exact absurd H (by simp)
      ·rw [if_neg c8] at H; have c8b0 : decide (x4_2 < (l0_1.length : Int)) = false := decide_eq_false c8; clear c8; have HC15 := Aside0.mk H; clear H; have hcz16_0 : wr.cell? ⟨gb351, 0, none⟩ = some (.int .i64 a0_0) := (blk_cell BK351.out 0).trans rfl; have hcz16_1 : wr.cell? ⟨gb351, 1, none⟩ = some (.slice A0_1 l0_1.length c0_1) := (blk_cell BK351.out 1).trans rfl; have hcz16_2 : wr.cell? ⟨gb351, 2, none⟩ = some (.slice A0_2 l0_2.length c0_2) := (blk_cell BK351.out 2).trans rfl; have hcz16_3 : wr.cell? ⟨gb351, 3, none⟩ = some (.slice A0_3 l0_3.length c0_3) := (blk_cell BK351.out 3).trans rfl; have hfz16_0 := blk_frozen BK351.out 0; have hfz16_1 := blk_frozen BK351.out 1; have hfz16_2 := blk_frozen BK351.out 2; have hfz16_3 := blk_frozen BK351.out 3; (go_upto_if 39 with (fail)); go_cut [3] (fun v3 wc => ∃ (kq : Nat) (x3_14 : ByteArray), v3 = .string x3_14 ∧ Aside0 (musterref31_Answer.j2 kq x3_14 a0_0 l0_1 l0_2 l0_3 = some r) ∧ Aside0 (kq ≤ k2) ∧ Aside0 (wc.heap[gb351]? = some (.cells #[.int .i64 a0_0, (.slice A0_1 l0_1.length c0_1), (.slice A0_2 l0_2.length c0_2), (.slice A0_3 l0_3.length c0_3)] 27 (0, 0))) ∧ Aside0 (Below w.heap.size w wc))
       case first =>
        have H := HC15.out; clear HC15; by_cases c17 : (l0_2.length : Int) > 0
        ·rw [if_pos c17] at H; have c17b0 : decide (0 < (l0_2.length : Int)) = true := decide_eq_true c17; have c17b1 : decide (0 < l0_2.length) = true := decide_eq_true (by omega); clear c17; (first | rw [c17b0] | (simp only [i64_w, i32_w]; rw [c17b0]) | rw [c17b1] | skip); by_cases c18 : x3_2.size + 5 ≤ 9223372036854775807
         ·rw [if_pos c18] at H; have c18b0 := eq_true c18; have c18b1 : decide (x3_2.size + 5 ≤ 9223372036854775807) = true := decide_eq_true c18; (try have c18b2 : (9223372036854775807 < x3_2.size + 5) = False := eq_false (Nat.not_lt.2 c18)); have H' := Aside0.mk H; clear H; go_wp2; go_meet
          case rel => exact ⟨_, (x3_2 ++ (⟨#[32, 111, 118, 101, 114]⟩ : ByteArray)), (by first | rfl | (simp; done) | (simp [*]; done)), H', ⟨by have := HJ2.out; have := HK2.out; first | omega | exact Nat.le_refl _⟩, ⟨by (with_reducible repeat (first | refine blk_drewN ?_ _ | refine blk_drew ?_ | refine blk_alloc ?_ _)); exact BK351.out⟩, ⟨by repeat (first | (with_reducible first | exact HB.out | apply below_alloc | apply pw_below_drewN | apply below_drew1 | refine below_set ?_ GE351.out) | exact HB.out)⟩⟩
         ·rw [if_neg c18] at H; exact absurd H (by simp)
        ·rw [if_neg c17] at H; have c17b0 : decide (0 < (l0_2.length : Int)) = false := decide_eq_false c17; have c17b1 : decide (0 < l0_2.length) = false := decide_eq_false (by omega); clear c17; (first | rw [c17b0] | (simp only [i64_w, i32_w]; rw [c17b0]) | rw [c17b1] | skip); have H' := Aside0.mk H; clear H; go_wp2; go_meet
         case rel => exact ⟨_, (x3_2), (by first | rfl | (simp; done) | (simp [*]; done)), H', ⟨by have := HJ2.out; have := HK2.out; first | omega | exact Nat.le_refl _⟩, ⟨by (with_reducible repeat (first | refine blk_drewN ?_ _ | refine blk_drew ?_ | refine blk_alloc ?_ _)); exact BK351.out⟩, ⟨by repeat (first | (with_reducible first | exact HB.out | apply below_alloc | apply pw_below_drewN | apply below_drew1 | refine below_set ?_ GE351.out) | exact HB.out)⟩⟩
       case rest =>
        clear HC15; (try clear c1); (try clear c2); (try clear c2b0); (try clear c2b1); (try clear p2); (try clear c3); (try clear p3); (try clear q3); (try clear hx3); (try clear c6); (try clear c6b0); (try clear c6b1); (try clear p6); (try clear c7); (try clear c7b0); (try clear c7b1); (try clear c7b2); (try clear c8); (try clear c8b0); (try clear c9); (try clear c9b0); (try clear c9b1); (try clear c9b2); (try clear c10); (try clear c10b0); (try clear c12); (try clear c12b0); (try clear c12b1); (try clear c12b2); (try clear c17); (try clear c17b0); (try clear c17b1); (try clear c18); (try clear c18b0); (try clear c18b1); (try clear c18b2); (try clear hcz13_0); (try clear hcz13_1); (try clear hcz13_2); (try clear hcz13_3); (try clear hcz16_0); (try clear hcz16_1); (try clear hcz16_2); (try clear hcz16_3); (try clear hcz5_0); (try clear hcz5_1); (try clear hcz5_2); (try clear hcz5_3); (try clear hfz13_0); (try clear hfz13_1); (try clear hfz13_2); (try clear hfz13_3); (try clear hfz16_0); (try clear hfz16_1); (try clear hfz16_2); (try clear hfz16_3); (try clear hfz5_0); (try clear hfz5_1); (try clear hfz5_2); (try clear hfz5_3); (try clear hx353_0); (try clear p2); (try clear p353); (try clear q353); obtain ⟨kq, x3_14, rfl, HA, HJ14, BK351, HB⟩ := hcut
        cases kq with
        | zero => exact absurd HA.out (by simp [musterref31_Answer.j2])
        | succ kj14 =>
         have H := HA.out; clear HA; simp only [musterref31_Answer.j2] at H; have H' := Aside0.mk H; clear H; go_wp2; go_loopg [3, 5] kj14 (fun kq v3 v5 w' => ∃ (x3_4 : ByteArray) (x5_4 : Int), v3 = .string x3_4 ∧ v5 = .int .i64 x5_4 ∧ Aside0 (musterref31_Answer.l1 kq x3_4 x5_4 a0_0 l0_1 l0_2 l0_3 = some r) ∧ Aside0 (kq ≤ kj14) ∧ Aside0 (w'.heap[gb351]? = some (.cells #[.int .i64 a0_0, (.slice A0_1 l0_1.length c0_1), (.slice A0_2 l0_2.length c0_2), (.slice A0_3 l0_3.length c0_3)] 27 (0, 0))) ∧ Aside0 (Below w.heap.size w w'))
         case atStart => exact ⟨(x3_14), (0), (by first | rfl | (simp; done) | (simp [*]; done)), (by first | rfl | (simp; done) | (simp [*]; done)), H', ⟨Nat.le_refl _⟩, ⟨by (with_reducible repeat (first | refine blk_drewN ?_ _ | refine blk_drew ?_ | refine blk_alloc ?_ _)); exact BK351.out⟩, ⟨by repeat (first | (with_reducible first | exact HB.out | apply below_alloc | apply pw_below_drewN | apply below_drew1 | refine below_set ?_ GE351.out) | exact HB.out)⟩⟩
         case round =>
          clear H'; (try clear c1); (try clear c2); (try clear c2b0); (try clear c2b1); (try clear p2); (try clear c3); (try clear p3); (try clear q3); (try clear hx3); (try clear c6); (try clear c6b0); (try clear c6b1); (try clear p6); (try clear c7); (try clear c7b0); (try clear c7b1); (try clear c7b2); (try clear c8); (try clear c8b0); (try clear c9); (try clear c9b0); (try clear c9b1); (try clear c9b2); (try clear c10); (try clear c10b0); (try clear c12); (try clear c12b0); (try clear c12b1); (try clear c12b2); (try clear c17); (try clear c17b0); (try clear c17b1); (try clear c18); (try clear c18b0); (try clear c18b1); (try clear c18b2); (try clear hcz13_0); (try clear hcz13_1); (try clear hcz13_2); (try clear hcz13_3); (try clear hcz16_0); (try clear hcz16_1); (try clear hcz16_2); (try clear hcz16_3); (try clear hcz5_0); (try clear hcz5_1); (try clear hcz5_2); (try clear hcz5_3); (try clear hfz13_0); (try clear hfz13_1); (try clear hfz13_2); (try clear hfz13_3); (try clear hfz16_0); (try clear hfz16_1); (try clear hfz16_2); (try clear hfz16_3); (try clear hfz5_0); (try clear hfz5_1); (try clear hfz5_2); (try clear hfz5_3); (try clear hx353_0); (try clear p2); (try clear p3); (try clear p353); (try clear p6); (try clear q3); (try clear q353); obtain ⟨x3_4, x5_4, rfl, rfl, HA, HK4, BK351, HB⟩ := hrel
          cases gk with
          | zero => exact absurd HA.out (by simp [musterref31_Answer.l1])
          | succ k4 =>
           have H := HA.out; clear HA; simp only [musterref31_Answer.l1] at H; by_cases c19 : x5_4 < (l0_2.length : Int)
           ·rw [if_pos c19] at H; have c19b0 : decide (x5_4 < (l0_2.length : Int)) = true := decide_eq_true c19; clear c19; by_cases c20 : x3_4.size + 1 ≤ 9223372036854775807
            ·rw [if_pos c20] at H; have c20b0 := eq_true c20; have c20b1 : decide (x3_4.size + 1 ≤ 9223372036854775807) = true := decide_eq_true c20; (try have c20b2 : (9223372036854775807 < x3_4.size + 1) = False := eq_false (Nat.not_lt.2 c20)); by_cases c21 : 0 ≤ x5_4
             ·rw [if_pos c21] at H; have c21b0 : decide (0 ≤ x5_4) = true := decide_eq_true c21; clear c21; replace H := Option.bind_eq_some_iff.mp H; obtain ⟨t356, A220, H⟩ := H; replace H : (if (x3_4 ++ (⟨#[32]⟩ : ByteArray)).size + t356.size ≤ 9223372036854775807 then (if ((x3_4 ++ (⟨#[32]⟩ : ByteArray)) ++ t356).size + 1 ≤ 9223372036854775807 then ((musterref31_State.f ((rd_T31 l0_2 x5_4).f1)).bind fun t358 => (if (((x3_4 ++ (⟨#[32]⟩ : ByteArray)) ++ t356) ++ (⟨#[58]⟩ : ByteArray)).size + t358.size ≤ 9223372036854775807 then (musterref31_Answer.l1 k4 ((((x3_4 ++ (⟨#[32]⟩ : ByteArray)) ++ t356) ++ (⟨#[58]⟩ : ByteArray)) ++ t358) (wrap64 (x5_4 + 1)) a0_0 l0_1 l0_2 l0_3) else (none))) else (none)) else (none)) = some r := H; have A22 := Aside0.mk A220; clear A220; by_cases c23 : (x3_4 ++ (⟨#[32]⟩ : ByteArray)).size + t356.size ≤ 9223372036854775807
              ·rw [if_pos c23] at H; have c23b0 := eq_true c23; have c23b1 : decide ((x3_4 ++ (⟨#[32]⟩ : ByteArray)).size + t356.size ≤ 9223372036854775807) = true := decide_eq_true c23; (have c23m0 : (x3_4.size + 1 + t356.size ≤ 9223372036854775807) = True := by have h_ := c23; simp only [ByteArray.size_append] at h_; exact eq_true h_); (have c23m1 : (9223372036854775807 < x3_4.size + 1 + t356.size) = False := by have h_ := c23; simp only [ByteArray.size_append] at h_; exact eq_false (Nat.not_lt.2 h_)); (try have c23b2 : (9223372036854775807 < (x3_4 ++ (⟨#[32]⟩ : ByteArray)).size + t356.size) = False := eq_false (Nat.not_lt.2 c23)); by_cases c24 : ((x3_4 ++ (⟨#[32]⟩ : ByteArray)) ++ t356).size + 1 ≤ 9223372036854775807
               ·rw [if_pos c24] at H; have c24b0 := eq_true c24; have c24b1 : decide (((x3_4 ++ (⟨#[32]⟩ : ByteArray)) ++ t356).size + 1 ≤ 9223372036854775807) = true := decide_eq_true c24; (have c24m0 : (x3_4.size + 1 + t356.size + 1 ≤ 9223372036854775807) = True := by have h_ := c24; simp only [ByteArray.size_append] at h_; exact eq_true h_); (have c24m1 : (9223372036854775807 < x3_4.size + 1 + t356.size + 1) = False := by have h_ := c24; simp only [ByteArray.size_append] at h_; exact eq_false (Nat.not_lt.2 h_)); (try have c24b2 : (9223372036854775807 < ((x3_4 ++ (⟨#[32]⟩ : ByteArray)) ++ t356).size + 1) = False := eq_false (Nat.not_lt.2 c24)); replace H := Option.bind_eq_some_iff.mp H; obtain ⟨t358, A250, H⟩ := H; replace H : (if (((x3_4 ++ (⟨#[32]⟩ : ByteArray)) ++ t356) ++ (⟨#[58]⟩ : ByteArray)).size + t358.size ≤ 9223372036854775807 then (musterref31_Answer.l1 k4 ((((x3_4 ++ (⟨#[32]⟩ : ByteArray)) ++ t356) ++ (⟨#[58]⟩ : ByteArray)) ++ t358) (wrap64 (x5_4 + 1)) a0_0 l0_1 l0_2 l0_3) else (none)) = some r := H; have A25 := Aside0.mk A250; clear A250; by_cases c26 : (((x3_4 ++ (⟨#[32]⟩ : ByteArray)) ++ t356) ++ (⟨#[58]⟩ : ByteArray)).size + t358.size ≤ 9223372036854775807
                ·rw [if_pos c26] at H; have c26b0 := eq_true c26; have c26b1 : decide ((((x3_4 ++ (⟨#[32]⟩ : ByteArray)) ++ t356) ++ (⟨#[58]⟩ : ByteArray)).size + t358.size ≤ 9223372036854775807) = true := decide_eq_true c26; (have c26m0 : (x3_4.size + 1 + t356.size + 1 + t358.size ≤ 9223372036854775807) = True := by have h_ := c26; simp only [ByteArray.size_append] at h_; exact eq_true h_); (have c26m1 : (9223372036854775807 < x3_4.size + 1 + t356.size + 1 + t358.size) = False := by have h_ := c26; simp only [ByteArray.size_append] at h_; exact eq_false (Nat.not_lt.2 h_)); (try have c26b2 : (9223372036854775807 < (((x3_4 ++ (⟨#[32]⟩ : ByteArray)) ++ t356) ++ (⟨#[58]⟩ : ByteArray)).size + t358.size) = False := eq_false (Nat.not_lt.2 c26)); have H' := Aside0.mk H; clear H; have hcz27_0 : wr.cell? ⟨gb351, 0, none⟩ = some (.int .i64 a0_0) := (blk_cell BK351.out 0).trans rfl; have hcz27_1 : wr.cell? ⟨gb351, 1, none⟩ = some (.slice A0_1 l0_1.length c0_1) := (blk_cell BK351.out 1).trans rfl; have hcz27_2 : wr.cell? ⟨gb351, 2, none⟩ = some (.slice A0_2 l0_2.length c0_2) := (blk_cell BK351.out 2).trans rfl; have hcz27_3 : wr.cell? ⟨gb351, 3, none⟩ = some (.slice A0_3 l0_3.length c0_3) := (blk_cell BK351.out 3).trans rfl; have hfz27_0 := blk_frozen BK351.out 0; have hfz27_1 := blk_frozen BK351.out 1; have hfz27_2 := blk_frozen BK351.out 2; have hfz27_3 := blk_frozen BK351.out 3; (try go_wp2); have n0_ := Aside0.mk (blk_drew BK351.out); have n1_ := Aside0.mk (below_drew1 HB.out); clear BK351; clear HB; have BK351 := n0_; have HB := n1_; clear n0_ n1_; have p355 : 0 ≤ (x5_4 : Int) := of_decide_eq_true (by first | (with_reducible assumption) | assumption); have q355 : x5_4 < (l0_2.length : Int) := of_decide_eq_true (by first | (with_reducible assumption) | assumption); obtain ⟨ad355, e355, hx355_0, hx355_1⟩ := at_T31 HR0_2.out x5_4 p355 q355; have hw355_1 := hx355_1; have hw355_0 := hx355_0
                 cases e355; replace hx355_0 := (HB.out.cell (World.block_lt_of_cell? w _ hx355_0)).trans hx355_0; replace hx355_1 := (HB.out.cell (World.block_lt_of_cell? w _ hx355_1)).trans hx355_1; replace p355 := eq_true p355; replace q355 := eq_true q355; have p357 : 0 ≤ (x5_4 : Int) := of_decide_eq_true (by first | (with_reducible assumption) | assumption); have q357 : x5_4 < (l0_2.length : Int) := of_decide_eq_true (by first | (with_reducible assumption) | assumption); obtain ⟨ad357, e357, hx357_0, hx357_1⟩ := at_T31 HR0_2.out x5_4 p357 q357; have hw357_1 := hx357_1; have hw357_0 := hx357_0; (obtain rfl : ad355 = ad357 := (by injection e357)); replace hx357_0 := (HB.out.cell (World.block_lt_of_cell? w _ hx357_0)).trans hx357_0; replace hx357_1 := (HB.out.cell (World.block_lt_of_cell? w _ hx357_1)).trans hx357_1; replace p357 := eq_true p357; replace q357 := eq_true q357; refine start_ (n := 20) (S := fun w' => w'.cell? ⟨gb351, 0, none⟩ = some (.int .i64 a0_0) ∧ w'.cell? ⟨gb351, 1, none⟩ = some (.slice A0_1 l0_1.length c0_1) ∧ w'.cell? ⟨gb351, 2, none⟩ = some (.slice (some ad355) l0_2.length c0_2) ∧ w'.cell? ⟨gb351, 3, none⟩ = some (.slice A0_3 l0_3.length c0_3) ∧ w'.cell? (ad355.add ((x5_4).toNat * 2)) = some (.int .i64 ((rd_T31 l0_2 x5_4).f0)) ∧ w'.cell? ⟨(ad355.add ((x5_4).toNat * 2)).block, (ad355.add ((x5_4).toNat * 2)).off + 1, none⟩ = some (.int .u8 ((rd_T31 l0_2 x5_4).f1)) ∧ w'.cell? (ad355.add ((x5_4).toNat * 2)) = some (.int .i64 ((rd_T31 l0_2 x5_4).f0)) ∧ w'.cell? ⟨(ad355.add ((x5_4).toNat * 2)).block, (ad355.add ((x5_4).toNat * 2)).off + 1, none⟩ = some (.int .u8 ((rd_T31 l0_2 x5_4).f1))) (ds := []) kPr2920 (by kernel_rfl) rfl rfl ⟨(blk_cell BK351.out 0).trans rfl, (blk_cell BK351.out 1).trans rfl, (blk_cell BK351.out 2).trans rfl, (blk_cell BK351.out 3).trans rfl, ((HB.out.cell (World.block_lt_of_cell? w _ hw355_0)).trans hw355_0), ((HB.out.cell (World.block_lt_of_cell? w _ hw355_1)).trans hw355_1), ((HB.out.cell (World.block_lt_of_cell? w _ hw357_0)).trans hw357_0), ((HB.out.cell (World.block_lt_of_cell? w _ hw357_1)).trans hw357_1)⟩ (fun hHeld => ?_); refine with_tabW musterref31_Answer.tab15 musterref31_Answer.bits15 (fun HT_ HW_ => ?_); generalize wr.drew = w28 at BK351 HB hx355_0 hx355_1 hx357_0 hx357_1 hHeld ⊢; refine pure_ (i := 0) (N := some 49) (v := ?_) (a' := ?_) kPr2919 rfl rfl (any_of HT_.out (by kernel_rfl)) (fun _ _ _ h => h) (Or.inl ⟨by rfl, ?_⟩) ?_ ?_; rotate_left
                 ·intro w'; go_simp; with_reducible rfl
                 rotate_left
                 ·simp only [Act.put, sA, sB, sC, i64_w, i32_w]; rfl
                 refine pure_ (i := 1) (N := some 50) (v := ?_) (a' := ?_) kPr2918 rfl rfl (any_of HT_.out (by kernel_rfl)) (fun _ _ _ h => h) (Or.inl ⟨by rfl, ?_⟩) ?_ ?_; rotate_left
                 ·intro w'; go_simp; with_reducible rfl
                 rotate_left
                 ·simp only [Act.put, sA, sB, sC, i64_w, i32_w]; rfl
                 refine pure_ (i := 2) (N := some 51) (v := ?_) (a' := ?_) kPr2917 rfl rfl (any_of HT_.out (by kernel_rfl)) (fun _ _ _ h => h) (Or.inl ⟨by rfl, ?_⟩) ?_ ?_; rotate_left
                 ·intro w'; go_simp; with_reducible rfl
                 rotate_left
                 ·simp only [Act.put, sA, sB, sC, i64_w, i32_w]; rfl
                 refine pure_ (i := 4) (N := some 53) (v := ?_) (a' := ?_) kPr2916 rfl rfl (any_of HT_.out (by kernel_rfl)) (fun _ _ _ h => h) (Or.inl ⟨by rfl, ?_⟩) ?_ ?_; rotate_left
                 ·intro w'; go_simp; with_reducible rfl
                 rotate_left
                 ·simp only [Act.put, sA, sB, sC, i64_w, i32_w]; rfl
                 refine pure_ (i := 11) (N := some 60) (v := ?_) (a' := ?_) kPr2915 rfl rfl (any_of HT_.out (by kernel_rfl)) (fun _ _ _ h => h) (Or.inl ⟨by rfl, ?_⟩) ?_ ?_; rotate_left
                 ·intro w'; go_simp; with_reducible rfl
                 rotate_left
                 ·simp only [Act.put, sA, sB, sC, i64_w, i32_w]; rfl
                 refine pure_ (i := 13) (N := some 62) (v := ?_) (a' := ?_) kPr2914 rfl rfl (any_of HT_.out (by kernel_rfl)) (fun _ _ _ h => h) (Or.inl ⟨by rfl, ?_⟩) ?_ ?_; rotate_left
                 ·intro w'; go_simp; with_reducible rfl
                 rotate_left
                 ·simp only [Act.put, sA, sB, sC, i64_w, i32_w]; rfl
                 refine take_ (i := 3) (N := some 52) (v := ?_) (a' := ?_) kPr2913 rfl rfl (take_ofW HT_.out HW_.out (by kernel_rfl)) (fun _ _ _ h => h) (Or.inl ⟨by rfl, ?_⟩) hHeld ?_ ?_; rotate_left
                 ·rintro w' ⟨s0, s1, s2, s3, s4, s5, s6, s7⟩; go_simp; with_reducible rfl
                 rotate_left
                 ·simp only [Act.put, sA, sB, sC, i64_w, i32_w]; rfl
                 refine pure_ (i := 5) (N := some 54) (v := ?_) (a' := ?_) kPr2912 rfl rfl (any_of HT_.out (by kernel_rfl)) (fun _ _ _ h => h) (Or.inl ⟨by rfl, ?_⟩) ?_ ?_; rotate_left
                 ·intro w'; go_simp; with_reducible rfl
                 rotate_left
                 ·simp only [Act.put, sA, sB, sC, i64_w, i32_w]; rfl
                 refine pure_ (i := 6) (N := some 55) (v := ?_) (a' := ?_) kPr2911 rfl rfl (any_of HT_.out (by kernel_rfl)) (fun _ _ _ h => h) (Or.inl ⟨by rfl, ?_⟩) ?_ ?_; rotate_left
                 ·intro w'; go_simp; with_reducible rfl
                 rotate_left
                 ·simp only [Act.put, sA, sB, sC, i64_w, i32_w]; rfl
                 refine take_ (i := 7) (N := some 56) (v := ?_) (a' := ?_) kPr2910 rfl rfl (take_ofW HT_.out HW_.out (by kernel_rfl)) (fun _ _ _ h => h) (Or.inl ⟨by rfl, ?_⟩) hHeld ?_ ?_; rotate_left
                 ·rintro w' ⟨s0, s1, s2, s3, s4, s5, s6, s7⟩; go_simp; with_reducible rfl
                 rotate_left
                 ·simp only [Act.put, sA, sB, sC, i64_w, i32_w]; rfl
                 refine take_ (i := 12) (N := some 61) (v := ?_) (a' := ?_) kPr299 rfl rfl (take_ofW HT_.out HW_.out (by kernel_rfl)) (fun _ _ _ h => h) (Or.inl ⟨by rfl, ?_⟩) hHeld ?_ ?_; rotate_left
                 ·rintro w' ⟨s0, s1, s2, s3, s4, s5, s6, s7⟩; go_simp; with_reducible rfl
                 rotate_left
                 ·simp only [Act.put, sA, sB, sC, i64_w, i32_w]; rfl
                 refine pure_ (i := 14) (N := some 63) (v := ?_) (a' := ?_) kPr298 rfl rfl (any_of HT_.out (by kernel_rfl)) (fun _ _ _ h => h) (Or.inl ⟨by rfl, ?_⟩) ?_ ?_; rotate_left
                 ·intro w'; go_simp; with_reducible rfl
                 rotate_left
                 ·simp only [Act.put, sA, sB, sC, i64_w, i32_w]; rfl
                 refine pure_ (i := 15) (N := some 64) (v := ?_) (a' := ?_) kPr297 rfl rfl (any_of HT_.out (by kernel_rfl)) (fun _ _ _ h => h) (Or.inl ⟨by rfl, ?_⟩) ?_ ?_; rotate_left
                 ·intro w'; go_simp; with_reducible rfl
                 rotate_left
                 ·simp only [Act.put, sA, sB, sC, i64_w, i32_w]; rfl
                 refine take_ (i := 16) (N := some 65) (v := ?_) (a' := ?_) kPr296 rfl rfl (take_ofW HT_.out HW_.out (by kernel_rfl)) (fun _ _ _ h => h) (Or.inl ⟨by rfl, ?_⟩) hHeld ?_ ?_; rotate_left
                 ·rintro w' ⟨s0, s1, s2, s3, s4, s5, s6, s7⟩; go_simp; with_reducible rfl
                 rotate_left
                 ·simp only [Act.put, sA, sB, sC, i64_w, i32_w]; rfl
                 refine one_ (i := 8) (N := some 57) kPr295 rfl rfl (one_of HT_.out (by kernel_rfl)) (by decide) (fun K hK => ?_); refine goes_ Tryd.func37 (by kernel_rfl) rfl #[.int .i64 ((rd_T31 l0_2 x5_4).f0)] (by rfl) rfl rfl (by (try simp only [List.map_toArray, List.map_cons, List.map_nil]); first | done | rfl | (simp only [List.length_drop, List.length_take]; rfl)) ?_; (with_reducible refine (musterref31_Decimal.calls k4 ((rd_T31 l0_2 x5_4).f0) t356 _ A22.out).mono ?_); rintro e w29 ⟨rfl, hb⟩; refine ⟨_, rfl, ?_⟩; have n0_ := Aside0.mk (blk_below (g := gb351) (o := .cells #[.int .i64 a0_0, .slice A0_1 l0_1.length c0_1, .slice (some ad355) l0_2.length c0_2, .slice A0_3 l0_3.length c0_3] 27 (0, 0)) (by (with_reducible repeat (first | refine blk_drewN ?_ _ | refine blk_drew ?_ | refine blk_alloc ?_ _)); exact BK351.out) hb); have n1_ := Aside0.mk (below_step (by repeat (first | (with_reducible first | exact HB.out | apply below_alloc | apply pw_below_drewN | apply below_drew1 | refine below_set ?_ GE351.out) | exact HB.out)) hb); clear BK351; clear HB; have BK351 := n0_; have HB := n1_; clear n0_ n1_; (try clear hb); (try clear hb2); (try clear hk); (try clear hi); refine hK.out _ _ ⟨(blk_cell BK351.out 0).trans rfl, (blk_cell BK351.out 1).trans rfl, (blk_cell BK351.out 2).trans rfl, (blk_cell BK351.out 3).trans rfl, ((HB.out.cell (World.block_lt_of_cell? w _ hw355_0)).trans hw355_0), ((HB.out.cell (World.block_lt_of_cell? w _ hw355_1)).trans hw355_1), ((HB.out.cell (World.block_lt_of_cell? w _ hw357_0)).trans hw357_0), ((HB.out.cell (World.block_lt_of_cell? w _ hw357_1)).trans hw357_1)⟩ (fun hHeld => ?_); clear hK K; refine norm_ (a' := ?_) ?_ ?_; rotate_left
                 ·show Act.put _ (some 57) _ = _; simp only [Act.put, sA, sB, sC, i64_w, i32_w]; rfl
                 refine pure_ (i := 9) (N := some 58) (v := ?_) (a' := ?_) kPr294 rfl rfl (any_of HT_.out (by kernel_rfl)) (fun _ _ _ h => h) (Or.inl ⟨by rfl, ?_⟩) ?_ ?_; rotate_left
                 ·intro w'; go_simp; with_reducible rfl
                 rotate_left
                 ·simp only [Act.put, sA, sB, sC, i64_w, i32_w]; rfl
                 refine pure_ (i := 10) (N := some 59) (v := ?_) (a' := ?_) kPr293 rfl rfl (any_of HT_.out (by kernel_rfl)) (fun _ _ _ h => h) (Or.inl ⟨by rfl, ?_⟩) ?_ ?_; rotate_left
                 ·intro w'; go_simp; with_reducible rfl
                 rotate_left
                 ·simp only [Act.put, sA, sB, sC, i64_w, i32_w]; rfl
                 refine one_ (i := 17) (N := some 66) kPr292 rfl rfl (one_of HT_.out (by kernel_rfl)) (by decide) (fun K hK => ?_); refine goes_ Tryd.func27 (by kernel_rfl) rfl #[.int .u8 ((rd_T31 l0_2 x5_4).f1)] (by rfl) rfl rfl (by (try simp only [List.map_toArray, List.map_cons, List.map_nil]); first | done | rfl | (simp only [List.length_drop, List.length_take]; rfl)) ?_; (with_reducible refine (musterref31_State.calls ((rd_T31 l0_2 x5_4).f1) t358 _ A25.out).mono ?_); rintro e w30 ⟨rfl, hb⟩; refine ⟨_, rfl, ?_⟩; have n0_ := Aside0.mk (blk_below (g := gb351) (o := .cells #[.int .i64 a0_0, .slice A0_1 l0_1.length c0_1, .slice (some ad355) l0_2.length c0_2, .slice A0_3 l0_3.length c0_3] 27 (0, 0)) (by (with_reducible repeat (first | refine blk_drewN ?_ _ | refine blk_drew ?_ | refine blk_alloc ?_ _)); exact BK351.out) hb); have n1_ := Aside0.mk (below_step (by repeat (first | (with_reducible first | exact HB.out | apply below_alloc | apply pw_below_drewN | apply below_drew1 | refine below_set ?_ GE351.out) | exact HB.out)) hb); clear BK351; clear HB; have BK351 := n0_; have HB := n1_; clear n0_ n1_; (try clear hb); (try clear hb2); (try clear hk); (try clear hi); refine hK.out _ _ ⟨(blk_cell BK351.out 0).trans rfl, (blk_cell BK351.out 1).trans rfl, (blk_cell BK351.out 2).trans rfl, (blk_cell BK351.out 3).trans rfl, ((HB.out.cell (World.block_lt_of_cell? w _ hw355_0)).trans hw355_0), ((HB.out.cell (World.block_lt_of_cell? w _ hw355_1)).trans hw355_1), ((HB.out.cell (World.block_lt_of_cell? w _ hw357_0)).trans hw357_0), ((HB.out.cell (World.block_lt_of_cell? w _ hw357_1)).trans hw357_1)⟩ (fun hHeld => ?_); clear hK K; refine norm_ (a' := ?_) ?_ ?_; rotate_left
                 ·show Act.put _ (some 66) _ = _; simp only [Act.put, sA, sB, sC, i64_w, i32_w]; rfl
                 refine pure_ (i := 18) (N := some 67) (v := ?_) (a' := ?_) kPr291 rfl rfl (any_of HT_.out (by kernel_rfl)) (fun _ _ _ h => h) (Or.inl ⟨by rfl, ?_⟩) ?_ ?_; rotate_left
                 ·intro w'; go_simp; with_reducible rfl
                 rotate_left
                 ·simp only [Act.put, sA, sB, sC, i64_w, i32_w]; rfl
                 refine pure_ (i := 19) (N := some 3) (v := ?_) (a' := ?_) kPr290 rfl rfl (any_of HT_.out (by kernel_rfl)) (fun _ _ _ h => h) (Or.inl ⟨by rfl, ?_⟩) ?_ ?_; rotate_left
                 ·intro w'; go_simp; with_reducible rfl
                 rotate_left
                 ·simp only [Act.put, sA, sB, sC, i64_w, i32_w]; rfl
                 refine done_ (done_of HT_.out (by kernel_rfl)) ?_; (try go_wp2); go_roundg k4
                 case measure => have := HJ2.out; have := HK2.out; have := HJ14.out; have := HK4.out; omega
                 case rel => exact ⟨((((x3_4 ++ (⟨#[32]⟩ : ByteArray)) ++ t356) ++ (⟨#[58]⟩ : ByteArray)) ++ t358), (wrap64 (x5_4 + 1)), (by first | rfl | (simp; done) | (simp [*]; done)), (by first | rfl | (simp; done) | (simp [*]; done)), H', ⟨by have := HJ2.out; have := HK2.out; have := HJ14.out; have := HK4.out; omega⟩, ⟨by (with_reducible repeat (first | refine blk_drewN ?_ _ | refine blk_drew ?_ | refine blk_alloc ?_ _)); exact BK351.out⟩, ⟨by repeat (first | (with_reducible first | exact HB.out | apply below_alloc | apply pw_below_drewN | apply below_drew1 | refine below_set ?_ GE351.out) | exact HB.out)⟩⟩
                ·rw [if_neg c26] at H; exact absurd H (by simp)
               ·rw [if_neg c24] at H; exact absurd H (by simp)
              ·rw [if_neg c23] at H; exact absurd H (by simp)
             ·rw [if_neg c21] at H; exact absurd H (by simp)
            ·rw [if_neg c20] at H; exact absurd H (by simp)
           ·rw [if_neg c19] at H; have c19b0 : decide (x5_4 < (l0_2.length : Int)) = false := decide_eq_false c19; clear c19; have HC31 := Aside0.mk H; clear H; have hcz32_0 : wr.cell? ⟨gb351, 0, none⟩ = some (.int .i64 a0_0) := (blk_cell BK351.out 0).trans rfl; have hcz32_1 : wr.cell? ⟨gb351, 1, none⟩ = some (.slice A0_1 l0_1.length c0_1) := (blk_cell BK351.out 1).trans rfl; have hcz32_2 : wr.cell? ⟨gb351, 2, none⟩ = some (.slice A0_2 l0_2.length c0_2) := (blk_cell BK351.out 2).trans rfl; have hcz32_3 : wr.cell? ⟨gb351, 3, none⟩ = some (.slice A0_3 l0_3.length c0_3) := (blk_cell BK351.out 3).trans rfl; have hfz32_0 := blk_frozen BK351.out 0; have hfz32_1 := blk_frozen BK351.out 1; have hfz32_2 := blk_frozen BK351.out 2; have hfz32_3 := blk_frozen BK351.out 3; (go_upto_if 71 with (fail)); go_cut [3] (fun v3 wc => ∃ (kq : Nat) (x3_30 : ByteArray), v3 = .string x3_30 ∧ Aside0 (musterref31_Answer.j4 kq x3_30 a0_0 l0_1 l0_2 l0_3 = some r) ∧ Aside0 (kq ≤ k4) ∧ Aside0 (wc.heap[gb351]? = some (.cells #[.int .i64 a0_0, (.slice A0_1 l0_1.length c0_1), (.slice A0_2 l0_2.length c0_2), (.slice A0_3 l0_3.length c0_3)] 27 (0, 0))) ∧ Aside0 (Below w.heap.size w wc))
            case first =>
             have H := HC31.out; clear HC31; by_cases c33 : (l0_3.length : Int) > 0
             ·rw [if_pos c33] at H; have c33b0 : decide (0 < (l0_3.length : Int)) = true := decide_eq_true c33; have c33b1 : decide (0 < l0_3.length) = true := decide_eq_true (by omega); clear c33; (first | rw [c33b0] | (simp only [i64_w, i32_w]; rw [c33b0]) | rw [c33b1] | skip); by_cases c34 : x3_4.size + 6 ≤ 9223372036854775807
              ·rw [if_pos c34] at H; have c34b0 := eq_true c34; have c34b1 : decide (x3_4.size + 6 ≤ 9223372036854775807) = true := decide_eq_true c34; (try have c34b2 : (9223372036854775807 < x3_4.size + 6) = False := eq_false (Nat.not_lt.2 c34)); have H' := Aside0.mk H; clear H; go_wp2; go_meet
               case rel => exact ⟨_, (x3_4 ++ (⟨#[32, 115, 116, 97, 114, 116]⟩ : ByteArray)), (by first | rfl | (simp; done) | (simp [*]; done)), H', ⟨by have := HJ2.out; have := HK2.out; have := HJ14.out; have := HK4.out; first | omega | exact Nat.le_refl _⟩, ⟨by (with_reducible repeat (first | refine blk_drewN ?_ _ | refine blk_drew ?_ | refine blk_alloc ?_ _)); exact BK351.out⟩, ⟨by repeat (first | (with_reducible first | exact HB.out | apply below_alloc | apply pw_below_drewN | apply below_drew1 | refine below_set ?_ GE351.out) | exact HB.out)⟩⟩
              ·rw [if_neg c34] at H; exact absurd H (by simp)
             ·rw [if_neg c33] at H; have c33b0 : decide (0 < (l0_3.length : Int)) = false := decide_eq_false c33; have c33b1 : decide (0 < l0_3.length) = false := decide_eq_false (by omega); clear c33; (first | rw [c33b0] | (simp only [i64_w, i32_w]; rw [c33b0]) | rw [c33b1] | skip); have H' := Aside0.mk H; clear H; go_wp2; go_meet
              case rel => exact ⟨_, (x3_4), (by first | rfl | (simp; done) | (simp [*]; done)), H', ⟨by have := HJ2.out; have := HK2.out; have := HJ14.out; have := HK4.out; first | omega | exact Nat.le_refl _⟩, ⟨by (with_reducible repeat (first | refine blk_drewN ?_ _ | refine blk_drew ?_ | refine blk_alloc ?_ _)); exact BK351.out⟩, ⟨by repeat (first | (with_reducible first | exact HB.out | apply below_alloc | apply pw_below_drewN | apply below_drew1 | refine below_set ?_ GE351.out) | exact HB.out)⟩⟩
            case rest =>
             clear HC31; (try clear c1); (try clear c2); (try clear c2b0); (try clear c2b1); (try clear p2); (try clear c3); (try clear p3); (try clear q3); (try clear hx3); (try clear c6); (try clear c6b0); (try clear c6b1); (try clear p6); (try clear c7); (try clear c7b0); (try clear c7b1); (try clear c7b2); (try clear c8); (try clear c8b0); (try clear c9); (try clear c9b0); (try clear c9b1); (try clear c9b2); (try clear c10); (try clear c10b0); (try clear c12); (try clear c12b0); (try clear c12b1); (try clear c12b2); (try clear c17); (try clear c17b0); (try clear c17b1); (try clear c18); (try clear c18b0); (try clear c18b1); (try clear c18b2); (try clear c19); (try clear c19b0); (try clear c20); (try clear c20b0); (try clear c20b1); (try clear c20b2); (try clear c21); (try clear c21b0); (try clear c23); (try clear c23b0); (try clear c23b1); (try clear c23b2); (try clear c24); (try clear c24b0); (try clear c24b1); (try clear c24b2); (try clear c26); (try clear c26b0); (try clear c26b1); (try clear c26b2); (try clear c27); (try clear c33); (try clear c33b0); (try clear c33b1); (try clear c34); (try clear c34b0); (try clear c34b1); (try clear c34b2); (try clear hcz13_0); (try clear hcz13_1); (try clear hcz13_2); (try clear hcz13_3); (try clear hcz16_0); (try clear hcz16_1); (try clear hcz16_2); (try clear hcz16_3); (try clear hcz27_0); (try clear hcz27_1); (try clear hcz27_2); (try clear hcz27_3); (try clear hcz32_0); (try clear hcz32_1); (try clear hcz32_2); (try clear hcz32_3); (try clear hcz5_0); (try clear hcz5_1); (try clear hcz5_2); (try clear hcz5_3); (try clear hfz13_0); (try clear hfz13_1); (try clear hfz13_2); (try clear hfz13_3); (try clear hfz16_0); (try clear hfz16_1); (try clear hfz16_2); (try clear hfz16_3); (try clear hfz27_0); (try clear hfz27_1); (try clear hfz27_2); (try clear hfz27_3); (try clear hfz32_0); (try clear hfz32_1); (try clear hfz32_2); (try clear hfz32_3); (try clear hfz5_0); (try clear hfz5_1); (try clear hfz5_2); (try clear hfz5_3); (try clear hx353_0); (try clear hx355_0); (try clear hx355_1); (try clear hx357_0); (try clear hx357_1); (try clear p2); (try clear p3); (try clear p353); (try clear p355); (try clear p357); (try clear p6); (try clear q3); (try clear q353); (try clear q355); (try clear q357); obtain ⟨kq, x3_30, rfl, HA, HJ30, BK351, HB⟩ := hcut
             cases kq with
             | zero => exact absurd HA.out (by simp [musterref31_Answer.j4])
             | succ kj30 =>
              have H := HA.out; clear HA; simp only [musterref31_Answer.j4] at H; have H' := Aside0.mk H; clear H; go_wp2; go_loopg [3, 6] kj30 (fun kq v3 v6 w' => ∃ (x3_6 : ByteArray) (x6_6 : Int), v3 = .string x3_6 ∧ v6 = .int .i64 x6_6 ∧ Aside0 (musterref31_Answer.l2 kq x3_6 x6_6 a0_0 l0_1 l0_2 l0_3 = some r) ∧ Aside0 (kq ≤ kj30) ∧ Aside0 (w'.heap[gb351]? = some (.cells #[.int .i64 a0_0, (.slice A0_1 l0_1.length c0_1), (.slice A0_2 l0_2.length c0_2), (.slice A0_3 l0_3.length c0_3)] 27 (0, 0))) ∧ Aside0 (Below w.heap.size w w'))
              case atStart => exact ⟨(x3_30), (0), (by first | rfl | (simp; done) | (simp [*]; done)), (by first | rfl | (simp; done) | (simp [*]; done)), H', ⟨Nat.le_refl _⟩, ⟨by (with_reducible repeat (first | refine blk_drewN ?_ _ | refine blk_drew ?_ | refine blk_alloc ?_ _)); exact BK351.out⟩, ⟨by repeat (first | (with_reducible first | exact HB.out | apply below_alloc | apply pw_below_drewN | apply below_drew1 | refine below_set ?_ GE351.out) | exact HB.out)⟩⟩
              case round =>
               clear H'; (try clear c1); (try clear c2); (try clear c2b0); (try clear c2b1); (try clear p2); (try clear c3); (try clear p3); (try clear q3); (try clear hx3); (try clear c6); (try clear c6b0); (try clear c6b1); (try clear p6); (try clear c7); (try clear c7b0); (try clear c7b1); (try clear c7b2); (try clear c8); (try clear c8b0); (try clear c9); (try clear c9b0); (try clear c9b1); (try clear c9b2); (try clear c10); (try clear c10b0); (try clear c12); (try clear c12b0); (try clear c12b1); (try clear c12b2); (try clear c17); (try clear c17b0); (try clear c17b1); (try clear c18); (try clear c18b0); (try clear c18b1); (try clear c18b2); (try clear c19); (try clear c19b0); (try clear c20); (try clear c20b0); (try clear c20b1); (try clear c20b2); (try clear c21); (try clear c21b0); (try clear c23); (try clear c23b0); (try clear c23b1); (try clear c23b2); (try clear c24); (try clear c24b0); (try clear c24b1); (try clear c24b2); (try clear c26); (try clear c26b0); (try clear c26b1); (try clear c26b2); (try clear c27); (try clear c33); (try clear c33b0); (try clear c33b1); (try clear c34); (try clear c34b0); (try clear c34b1); (try clear c34b2); (try clear hcz13_0); (try clear hcz13_1); (try clear hcz13_2); (try clear hcz13_3); (try clear hcz16_0); (try clear hcz16_1); (try clear hcz16_2); (try clear hcz16_3); (try clear hcz27_0); (try clear hcz27_1); (try clear hcz27_2); (try clear hcz27_3); (try clear hcz32_0); (try clear hcz32_1); (try clear hcz32_2); (try clear hcz32_3); (try clear hcz5_0); (try clear hcz5_1); (try clear hcz5_2); (try clear hcz5_3); (try clear hfz13_0); (try clear hfz13_1); (try clear hfz13_2); (try clear hfz13_3); (try clear hfz16_0); (try clear hfz16_1); (try clear hfz16_2); (try clear hfz16_3); (try clear hfz27_0); (try clear hfz27_1); (try clear hfz27_2); (try clear hfz27_3); (try clear hfz32_0); (try clear hfz32_1); (try clear hfz32_2); (try clear hfz32_3); (try clear hfz5_0); (try clear hfz5_1); (try clear hfz5_2); (try clear hfz5_3); (try clear hx353_0); (try clear hx355_0); (try clear hx355_1); (try clear hx357_0); (try clear hx357_1); (try clear p2); (try clear p3); (try clear p353); (try clear p355); (try clear p357); (try clear p6); (try clear q3); (try clear q353); (try clear q355); (try clear q357); obtain ⟨x3_6, x6_6, rfl, rfl, HA, HK6, BK351, HB⟩ := hrel
               cases gk with
               | zero => exact absurd HA.out (by simp [musterref31_Answer.l2])
               | succ k6 =>
                have H := HA.out; clear HA; simp only [musterref31_Answer.l2] at H; by_cases c35 : x6_6 < (l0_3.length : Int)
                ·rw [if_pos c35] at H; have c35b0 : decide (x6_6 < (l0_3.length : Int)) = true := decide_eq_true c35; clear c35; by_cases c36 : x3_6.size + 1 ≤ 9223372036854775807
                 ·rw [if_pos c36] at H; have c36b0 := eq_true c36; have c36b1 : decide (x3_6.size + 1 ≤ 9223372036854775807) = true := decide_eq_true c36; (try have c36b2 : (9223372036854775807 < x3_6.size + 1) = False := eq_false (Nat.not_lt.2 c36)); by_cases c37 : 0 ≤ x6_6
                  ·rw [if_pos c37] at H; have c37b0 : decide (0 ≤ x6_6) = true := decide_eq_true c37; clear c37; replace H := Option.bind_eq_some_iff.mp H; obtain ⟨t360, A380, H⟩ := H; replace H : (if (x3_6 ++ (⟨#[32]⟩ : ByteArray)).size + t360.size ≤ 9223372036854775807 then (if ((x3_6 ++ (⟨#[32]⟩ : ByteArray)) ++ t360).size + 1 ≤ 9223372036854775807 then ((musterref10_Print.f k6 ((rd_T36 l0_3 x6_6).f1)).bind fun t362 => (if (((x3_6 ++ (⟨#[32]⟩ : ByteArray)) ++ t360) ++ (⟨#[58]⟩ : ByteArray)).size + t362.size ≤ 9223372036854775807 then (musterref31_Answer.l2 k6 ((((x3_6 ++ (⟨#[32]⟩ : ByteArray)) ++ t360) ++ (⟨#[58]⟩ : ByteArray)) ++ t362) (wrap64 (x6_6 + 1)) a0_0 l0_1 l0_2 l0_3) else (none))) else (none)) else (none)) = some r := H; have A38 := Aside0.mk A380; clear A380; by_cases c39 : (x3_6 ++ (⟨#[32]⟩ : ByteArray)).size + t360.size ≤ 9223372036854775807
                   ·rw [if_pos c39] at H; have c39b0 := eq_true c39; have c39b1 : decide ((x3_6 ++ (⟨#[32]⟩ : ByteArray)).size + t360.size ≤ 9223372036854775807) = true := decide_eq_true c39; (have c39m0 : (x3_6.size + 1 + t360.size ≤ 9223372036854775807) = True := by have h_ := c39; simp only [ByteArray.size_append] at h_; exact eq_true h_); (have c39m1 : (9223372036854775807 < x3_6.size + 1 + t360.size) = False := by have h_ := c39; simp only [ByteArray.size_append] at h_; exact eq_false (Nat.not_lt.2 h_)); (try have c39b2 : (9223372036854775807 < (x3_6 ++ (⟨#[32]⟩ : ByteArray)).size + t360.size) = False := eq_false (Nat.not_lt.2 c39)); by_cases c40 : ((x3_6 ++ (⟨#[32]⟩ : ByteArray)) ++ t360).size + 1 ≤ 9223372036854775807
                    ·rw [if_pos c40] at H; have c40b0 := eq_true c40; have c40b1 : decide (((x3_6 ++ (⟨#[32]⟩ : ByteArray)) ++ t360).size + 1 ≤ 9223372036854775807) = true := decide_eq_true c40; (have c40m0 : (x3_6.size + 1 + t360.size + 1 ≤ 9223372036854775807) = True := by have h_ := c40; simp only [ByteArray.size_append] at h_; exact eq_true h_); (have c40m1 : (9223372036854775807 < x3_6.size + 1 + t360.size + 1) = False := by have h_ := c40; simp only [ByteArray.size_append] at h_; exact eq_false (Nat.not_lt.2 h_)); (try have c40b2 : (9223372036854775807 < ((x3_6 ++ (⟨#[32]⟩ : ByteArray)) ++ t360).size + 1) = False := eq_false (Nat.not_lt.2 c40)); replace H := Option.bind_eq_some_iff.mp H; obtain ⟨t362, A410, H⟩ := H; replace H : (if (((x3_6 ++ (⟨#[32]⟩ : ByteArray)) ++ t360) ++ (⟨#[58]⟩ : ByteArray)).size + t362.size ≤ 9223372036854775807 then (musterref31_Answer.l2 k6 ((((x3_6 ++ (⟨#[32]⟩ : ByteArray)) ++ t360) ++ (⟨#[58]⟩ : ByteArray)) ++ t362) (wrap64 (x6_6 + 1)) a0_0 l0_1 l0_2 l0_3) else (none)) = some r := H; have A41 := Aside0.mk A410; clear A410; by_cases c42 : (((x3_6 ++ (⟨#[32]⟩ : ByteArray)) ++ t360) ++ (⟨#[58]⟩ : ByteArray)).size + t362.size ≤ 9223372036854775807
                     ·rw [if_pos c42] at H; have c42b0 := eq_true c42; have c42b1 : decide ((((x3_6 ++ (⟨#[32]⟩ : ByteArray)) ++ t360) ++ (⟨#[58]⟩ : ByteArray)).size + t362.size ≤ 9223372036854775807) = true := decide_eq_true c42; (have c42m0 : (x3_6.size + 1 + t360.size + 1 + t362.size ≤ 9223372036854775807) = True := by have h_ := c42; simp only [ByteArray.size_append] at h_; exact eq_true h_); (have c42m1 : (9223372036854775807 < x3_6.size + 1 + t360.size + 1 + t362.size) = False := by have h_ := c42; simp only [ByteArray.size_append] at h_; exact eq_false (Nat.not_lt.2 h_)); (try have c42b2 : (9223372036854775807 < (((x3_6 ++ (⟨#[32]⟩ : ByteArray)) ++ t360) ++ (⟨#[58]⟩ : ByteArray)).size + t362.size) = False := eq_false (Nat.not_lt.2 c42)); have H' := Aside0.mk H; clear H; have hcz43_0 : wr.cell? ⟨gb351, 0, none⟩ = some (.int .i64 a0_0) := (blk_cell BK351.out 0).trans rfl; have hcz43_1 : wr.cell? ⟨gb351, 1, none⟩ = some (.slice A0_1 l0_1.length c0_1) := (blk_cell BK351.out 1).trans rfl; have hcz43_2 : wr.cell? ⟨gb351, 2, none⟩ = some (.slice A0_2 l0_2.length c0_2) := (blk_cell BK351.out 2).trans rfl; have hcz43_3 : wr.cell? ⟨gb351, 3, none⟩ = some (.slice A0_3 l0_3.length c0_3) := (blk_cell BK351.out 3).trans rfl; have hfz43_0 := blk_frozen BK351.out 0; have hfz43_1 := blk_frozen BK351.out 1; have hfz43_2 := blk_frozen BK351.out 2; have hfz43_3 := blk_frozen BK351.out 3; (try go_wp2); have n0_ := Aside0.mk (blk_drew BK351.out); have n1_ := Aside0.mk (below_drew1 HB.out); clear BK351; clear HB; have BK351 := n0_; have HB := n1_; clear n0_ n1_; have p359 : 0 ≤ (x6_6 : Int) := of_decide_eq_true (by first | (with_reducible assumption) | assumption); have q359 : x6_6 < (l0_3.length : Int) := of_decide_eq_true (by first | (with_reducible assumption) | assumption); obtain ⟨ad359, e359, hx359_0, hx359_1⟩ := at_T36 HR0_3.out x6_6 p359 q359; have hw359_1 := hx359_1; have hw359_0 := hx359_0
                      cases e359; replace hx359_0 := (HB.out.cell (World.block_lt_of_cell? w _ hx359_0)).trans hx359_0; replace hx359_1 := (HB.out.cell (World.block_lt_of_cell? w _ hx359_1)).trans hx359_1; replace p359 := eq_true p359; replace q359 := eq_true q359; have p361 : 0 ≤ (x6_6 : Int) := of_decide_eq_true (by first | (with_reducible assumption) | assumption); have q361 : x6_6 < (l0_3.length : Int) := of_decide_eq_true (by first | (with_reducible assumption) | assumption); obtain ⟨ad361, e361, hx361_0, hx361_1⟩ := at_T36 HR0_3.out x6_6 p361 q361; have hw361_1 := hx361_1; have hw361_0 := hx361_0; (obtain rfl : ad359 = ad361 := (by injection e361)); replace hx361_0 := (HB.out.cell (World.block_lt_of_cell? w _ hx361_0)).trans hx361_0; replace hx361_1 := (HB.out.cell (World.block_lt_of_cell? w _ hx361_1)).trans hx361_1; replace p361 := eq_true p361; replace q361 := eq_true q361; refine start_ (n := 20) (S := fun w' => w'.cell? ⟨gb351, 0, none⟩ = some (.int .i64 a0_0) ∧ w'.cell? ⟨gb351, 1, none⟩ = some (.slice A0_1 l0_1.length c0_1) ∧ w'.cell? ⟨gb351, 2, none⟩ = some (.slice A0_2 l0_2.length c0_2) ∧ w'.cell? ⟨gb351, 3, none⟩ = some (.slice (some ad359) l0_3.length c0_3) ∧ w'.cell? (ad359.add ((x6_6).toNat * 2)) = some (.int .i64 ((rd_T36 l0_3 x6_6).f0)) ∧ w'.cell? ⟨(ad359.add ((x6_6).toNat * 2)).block, (ad359.add ((x6_6).toNat * 2)).off + 1, none⟩ = some (.int .u32 ((rd_T36 l0_3 x6_6).f1)) ∧ w'.cell? (ad359.add ((x6_6).toNat * 2)) = some (.int .i64 ((rd_T36 l0_3 x6_6).f0)) ∧ w'.cell? ⟨(ad359.add ((x6_6).toNat * 2)).block, (ad359.add ((x6_6).toNat * 2)).off + 1, none⟩ = some (.int .u32 ((rd_T36 l0_3 x6_6).f1))) (ds := []) kPr2920 (by kernel_rfl) rfl rfl ⟨(blk_cell BK351.out 0).trans rfl, (blk_cell BK351.out 1).trans rfl, (blk_cell BK351.out 2).trans rfl, (blk_cell BK351.out 3).trans rfl, ((HB.out.cell (World.block_lt_of_cell? w _ hw359_0)).trans hw359_0), ((HB.out.cell (World.block_lt_of_cell? w _ hw359_1)).trans hw359_1), ((HB.out.cell (World.block_lt_of_cell? w _ hw361_0)).trans hw361_0), ((HB.out.cell (World.block_lt_of_cell? w _ hw361_1)).trans hw361_1)⟩ (fun hHeld => ?_); refine with_tabW musterref31_Answer.tab21 musterref31_Answer.bits21 (fun HT_ HW_ => ?_); generalize wr.drew = w44 at BK351 HB hx359_0 hx359_1 hx361_0 hx361_1 hHeld ⊢; refine pure_ (i := 0) (N := some 81) (v := ?_) (a' := ?_) kPr2919 rfl rfl (any_of HT_.out (by kernel_rfl)) (fun _ _ _ h => h) (Or.inl ⟨by rfl, ?_⟩) ?_ ?_; rotate_left
                      ·intro w'; go_simp; with_reducible rfl
                      rotate_left
                      ·simp only [Act.put, sA, sB, sC, i64_w, i32_w]; rfl
                      refine pure_ (i := 1) (N := some 82) (v := ?_) (a' := ?_) kPr2918 rfl rfl (any_of HT_.out (by kernel_rfl)) (fun _ _ _ h => h) (Or.inl ⟨by rfl, ?_⟩) ?_ ?_; rotate_left
                      ·intro w'; go_simp; with_reducible rfl
                      rotate_left
                      ·simp only [Act.put, sA, sB, sC, i64_w, i32_w]; rfl
                      refine pure_ (i := 2) (N := some 83) (v := ?_) (a' := ?_) kPr2917 rfl rfl (any_of HT_.out (by kernel_rfl)) (fun _ _ _ h => h) (Or.inl ⟨by rfl, ?_⟩) ?_ ?_; rotate_left
                      ·intro w'; go_simp; with_reducible rfl
                      rotate_left
                      ·simp only [Act.put, sA, sB, sC, i64_w, i32_w]; rfl
                      refine pure_ (i := 4) (N := some 85) (v := ?_) (a' := ?_) kPr2916 rfl rfl (any_of HT_.out (by kernel_rfl)) (fun _ _ _ h => h) (Or.inl ⟨by rfl, ?_⟩) ?_ ?_; rotate_left
                      ·intro w'; go_simp; with_reducible rfl
                      rotate_left
                      ·simp only [Act.put, sA, sB, sC, i64_w, i32_w]; rfl
                      refine pure_ (i := 11) (N := some 92) (v := ?_) (a' := ?_) kPr2915 rfl rfl (any_of HT_.out (by kernel_rfl)) (fun _ _ _ h => h) (Or.inl ⟨by rfl, ?_⟩) ?_ ?_; rotate_left
                      ·intro w'; go_simp; with_reducible rfl
                      rotate_left
                      ·simp only [Act.put, sA, sB, sC, i64_w, i32_w]; rfl
                      refine pure_ (i := 13) (N := some 94) (v := ?_) (a' := ?_) kPr2914 rfl rfl (any_of HT_.out (by kernel_rfl)) (fun _ _ _ h => h) (Or.inl ⟨by rfl, ?_⟩) ?_ ?_; rotate_left
                      ·intro w'; go_simp; with_reducible rfl
                      rotate_left
                      ·simp only [Act.put, sA, sB, sC, i64_w, i32_w]; rfl
                      refine take_ (i := 3) (N := some 84) (v := ?_) (a' := ?_) kPr2913 rfl rfl (take_ofW HT_.out HW_.out (by kernel_rfl)) (fun _ _ _ h => h) (Or.inl ⟨by rfl, ?_⟩) hHeld ?_ ?_; rotate_left
                      ·rintro w' ⟨s0, s1, s2, s3, s4, s5, s6, s7⟩; go_simp; with_reducible rfl
                      rotate_left
                      ·simp only [Act.put, sA, sB, sC, i64_w, i32_w]; rfl
                      refine pure_ (i := 5) (N := some 86) (v := ?_) (a' := ?_) kPr2912 rfl rfl (any_of HT_.out (by kernel_rfl)) (fun _ _ _ h => h) (Or.inl ⟨by rfl, ?_⟩) ?_ ?_; rotate_left
                      ·intro w'; go_simp; with_reducible rfl
                      rotate_left
                      ·simp only [Act.put, sA, sB, sC, i64_w, i32_w]; rfl
                      refine pure_ (i := 6) (N := some 87) (v := ?_) (a' := ?_) kPr2911 rfl rfl (any_of HT_.out (by kernel_rfl)) (fun _ _ _ h => h) (Or.inl ⟨by rfl, ?_⟩) ?_ ?_; rotate_left
                      ·intro w'; go_simp; with_reducible rfl
                      rotate_left
                      ·simp only [Act.put, sA, sB, sC, i64_w, i32_w]; rfl
                      refine take_ (i := 7) (N := some 88) (v := ?_) (a' := ?_) kPr2910 rfl rfl (take_ofW HT_.out HW_.out (by kernel_rfl)) (fun _ _ _ h => h) (Or.inl ⟨by rfl, ?_⟩) hHeld ?_ ?_; rotate_left
                      ·rintro w' ⟨s0, s1, s2, s3, s4, s5, s6, s7⟩; go_simp; with_reducible rfl
                      rotate_left
                      ·simp only [Act.put, sA, sB, sC, i64_w, i32_w]; rfl
                      refine take_ (i := 12) (N := some 93) (v := ?_) (a' := ?_) kPr299 rfl rfl (take_ofW HT_.out HW_.out (by kernel_rfl)) (fun _ _ _ h => h) (Or.inl ⟨by rfl, ?_⟩) hHeld ?_ ?_; rotate_left
                      ·rintro w' ⟨s0, s1, s2, s3, s4, s5, s6, s7⟩; go_simp; with_reducible rfl
                      rotate_left
                      ·simp only [Act.put, sA, sB, sC, i64_w, i32_w]; rfl
                      refine pure_ (i := 14) (N := some 95) (v := ?_) (a' := ?_) kPr298 rfl rfl (any_of HT_.out (by kernel_rfl)) (fun _ _ _ h => h) (Or.inl ⟨by rfl, ?_⟩) ?_ ?_; rotate_left
                      ·intro w'; go_simp; with_reducible rfl
                      rotate_left
                      ·simp only [Act.put, sA, sB, sC, i64_w, i32_w]; rfl
                      refine pure_ (i := 15) (N := some 96) (v := ?_) (a' := ?_) kPr297 rfl rfl (any_of HT_.out (by kernel_rfl)) (fun _ _ _ h => h) (Or.inl ⟨by rfl, ?_⟩) ?_ ?_; rotate_left
                      ·intro w'; go_simp; with_reducible rfl
                      rotate_left
                      ·simp only [Act.put, sA, sB, sC, i64_w, i32_w]; rfl
                      refine take_ (i := 16) (N := some 97) (v := ?_) (a' := ?_) kPr296 rfl rfl (take_ofW HT_.out HW_.out (by kernel_rfl)) (fun _ _ _ h => h) (Or.inl ⟨by rfl, ?_⟩) hHeld ?_ ?_; rotate_left
                      ·rintro w' ⟨s0, s1, s2, s3, s4, s5, s6, s7⟩; go_simp; with_reducible rfl
                      rotate_left
                      ·simp only [Act.put, sA, sB, sC, i64_w, i32_w]; rfl
                      refine one_ (i := 8) (N := some 89) kPr295 rfl rfl (one_of HT_.out (by kernel_rfl)) (by decide) (fun K hK => ?_); refine goes_ Tryd.func37 (by kernel_rfl) rfl #[.int .i64 ((rd_T36 l0_3 x6_6).f0)] (by rfl) rfl rfl (by (try simp only [List.map_toArray, List.map_cons, List.map_nil]); first | done | rfl | (simp only [List.length_drop, List.length_take]; rfl)) ?_; (with_reducible refine (musterref31_Decimal.calls k6 ((rd_T36 l0_3 x6_6).f0) t360 _ A38.out).mono ?_); rintro e w45 ⟨rfl, hb⟩; refine ⟨_, rfl, ?_⟩; have n0_ := Aside0.mk (blk_below (g := gb351) (o := .cells #[.int .i64 a0_0, .slice A0_1 l0_1.length c0_1, .slice A0_2 l0_2.length c0_2, .slice (some ad359) l0_3.length c0_3] 27 (0, 0)) (by (with_reducible repeat (first | refine blk_drewN ?_ _ | refine blk_drew ?_ | refine blk_alloc ?_ _)); exact BK351.out) hb); have n1_ := Aside0.mk (below_step (by repeat (first | (with_reducible first | exact HB.out | apply below_alloc | apply pw_below_drewN | apply below_drew1 | refine below_set ?_ GE351.out) | exact HB.out)) hb); clear BK351; clear HB; have BK351 := n0_; have HB := n1_; clear n0_ n1_; (try clear hb); (try clear hb2); (try clear hk); (try clear hi); refine hK.out _ _ ⟨(blk_cell BK351.out 0).trans rfl, (blk_cell BK351.out 1).trans rfl, (blk_cell BK351.out 2).trans rfl, (blk_cell BK351.out 3).trans rfl, ((HB.out.cell (World.block_lt_of_cell? w _ hw359_0)).trans hw359_0), ((HB.out.cell (World.block_lt_of_cell? w _ hw359_1)).trans hw359_1), ((HB.out.cell (World.block_lt_of_cell? w _ hw361_0)).trans hw361_0), ((HB.out.cell (World.block_lt_of_cell? w _ hw361_1)).trans hw361_1)⟩ (fun hHeld => ?_); clear hK K; refine norm_ (a' := ?_) ?_ ?_; rotate_left
                      ·show Act.put _ (some 89) _ = _; simp only [Act.put, sA, sB, sC, i64_w, i32_w]; rfl
                      refine pure_ (i := 9) (N := some 90) (v := ?_) (a' := ?_) kPr294 rfl rfl (any_of HT_.out (by kernel_rfl)) (fun _ _ _ h => h) (Or.inl ⟨by rfl, ?_⟩) ?_ ?_; rotate_left
                      ·intro w'; go_simp; with_reducible rfl
                      rotate_left
                      ·simp only [Act.put, sA, sB, sC, i64_w, i32_w]; rfl
                      refine pure_ (i := 10) (N := some 91) (v := ?_) (a' := ?_) kPr293 rfl rfl (any_of HT_.out (by kernel_rfl)) (fun _ _ _ h => h) (Or.inl ⟨by rfl, ?_⟩) ?_ ?_; rotate_left
                      ·intro w'; go_simp; with_reducible rfl
                      rotate_left
                      ·simp only [Act.put, sA, sB, sC, i64_w, i32_w]; rfl
                      refine one_ (i := 17) (N := some 98) kPr292 rfl rfl (one_of HT_.out (by kernel_rfl)) (by decide) (fun K hK => ?_); refine goes_ Tryd.func39 (by kernel_rfl) rfl #[.int .u32 ((rd_T36 l0_3 x6_6).f1)] (by rfl) rfl rfl (by (try simp only [List.map_toArray, List.map_cons, List.map_nil]); first | done | rfl | (simp only [List.length_drop, List.length_take]; rfl)) ?_; (with_reducible refine (musterref10_Print.calls k6 ((rd_T36 l0_3 x6_6).f1) t362 _ A41.out).mono ?_); rintro e w46 ⟨rfl, hb⟩; refine ⟨_, rfl, ?_⟩; have n0_ := Aside0.mk (blk_below (g := gb351) (o := .cells #[.int .i64 a0_0, .slice A0_1 l0_1.length c0_1, .slice A0_2 l0_2.length c0_2, .slice (some ad359) l0_3.length c0_3] 27 (0, 0)) (by (with_reducible repeat (first | refine blk_drewN ?_ _ | refine blk_drew ?_ | refine blk_alloc ?_ _)); exact BK351.out) hb); have n1_ := Aside0.mk (below_step (by repeat (first | (with_reducible first | exact HB.out | apply below_alloc | apply pw_below_drewN | apply below_drew1 | refine below_set ?_ GE351.out) | exact HB.out)) hb); clear BK351; clear HB; have BK351 := n0_; have HB := n1_; clear n0_ n1_; (try clear hb); (try clear hb2); (try clear hk); (try clear hi); refine hK.out _ _ ⟨(blk_cell BK351.out 0).trans rfl, (blk_cell BK351.out 1).trans rfl, (blk_cell BK351.out 2).trans rfl, (blk_cell BK351.out 3).trans rfl, ((HB.out.cell (World.block_lt_of_cell? w _ hw359_0)).trans hw359_0), ((HB.out.cell (World.block_lt_of_cell? w _ hw359_1)).trans hw359_1), ((HB.out.cell (World.block_lt_of_cell? w _ hw361_0)).trans hw361_0), ((HB.out.cell (World.block_lt_of_cell? w _ hw361_1)).trans hw361_1)⟩ (fun hHeld => ?_); clear hK K; refine norm_ (a' := ?_) ?_ ?_; rotate_left
                      ·show Act.put _ (some 98) _ = _; simp only [Act.put, sA, sB, sC, i64_w, i32_w]; rfl
                      refine pure_ (i := 18) (N := some 99) (v := ?_) (a' := ?_) kPr291 rfl rfl (any_of HT_.out (by kernel_rfl)) (fun _ _ _ h => h) (Or.inl ⟨by rfl, ?_⟩) ?_ ?_; rotate_left
                      ·intro w'; go_simp; with_reducible rfl
                      rotate_left
                      ·simp only [Act.put, sA, sB, sC, i64_w, i32_w]; rfl
                      refine pure_ (i := 19) (N := some 3) (v := ?_) (a' := ?_) kPr290 rfl rfl (any_of HT_.out (by kernel_rfl)) (fun _ _ _ h => h) (Or.inl ⟨by rfl, ?_⟩) ?_ ?_; rotate_left
                      ·intro w'; go_simp; with_reducible rfl
                      rotate_left
                      ·simp only [Act.put, sA, sB, sC, i64_w, i32_w]; rfl
                      refine done_ (done_of HT_.out (by kernel_rfl)) ?_; (try go_wp2); go_roundg k6
                      case measure => have := HJ2.out; have := HK2.out; have := HJ14.out; have := HK4.out; have := HJ30.out; have := HK6.out; omega
                      case rel => exact ⟨((((x3_6 ++ (⟨#[32]⟩ : ByteArray)) ++ t360) ++ (⟨#[58]⟩ : ByteArray)) ++ t362), (wrap64 (x6_6 + 1)), (by first | rfl | (simp; done) | (simp [*]; done)), (by first | rfl | (simp; done) | (simp [*]; done)), H', ⟨by have := HJ2.out; have := HK2.out; have := HJ14.out; have := HK4.out; have := HJ30.out; have := HK6.out; omega⟩, ⟨by (with_reducible repeat (first | refine blk_drewN ?_ _ | refine blk_drew ?_ | refine blk_alloc ?_ _)); exact BK351.out⟩, ⟨by repeat (first | (with_reducible first | exact HB.out | apply below_alloc | apply pw_below_drewN | apply below_drew1 | refine below_set ?_ GE351.out) | exact HB.out)⟩⟩
                     ·rw [if_neg c42] at H; exact absurd H (by simp)
                    ·rw [if_neg c40] at H; exact absurd H (by simp)
                   ·rw [if_neg c39] at H; exact absurd H (by simp)
                  ·rw [if_neg c37] at H; exact absurd H (by simp)
                 ·rw [if_neg c36] at H; exact absurd H (by simp)
                ·rw [if_neg c35] at H; have c35b0 : decide (x6_6 < (l0_3.length : Int)) = false := decide_eq_false c35; clear c35; obtain rfl := Option.some.inj H; have hcz47_0 : wr.cell? ⟨gb351, 0, none⟩ = some (.int .i64 a0_0) := (blk_cell BK351.out 0).trans rfl; have hcz47_1 : wr.cell? ⟨gb351, 1, none⟩ = some (.slice A0_1 l0_1.length c0_1) := (blk_cell BK351.out 1).trans rfl; have hcz47_2 : wr.cell? ⟨gb351, 2, none⟩ = some (.slice A0_2 l0_2.length c0_2) := (blk_cell BK351.out 2).trans rfl; have hcz47_3 : wr.cell? ⟨gb351, 3, none⟩ = some (.slice A0_3 l0_3.length c0_3) := (blk_cell BK351.out 3).trans rfl; have hfz47_0 := blk_frozen BK351.out 0; have hfz47_1 := blk_frozen BK351.out 1; have hfz47_2 := blk_frozen BK351.out 2; have hfz47_3 := blk_frozen BK351.out 3; go_wp2; go_ret; exact ⟨by first | rfl | (simp [errW_none, errW_some] <;> rfl) | (simp [*, errW_none, errW_some] <;> rfl), by repeat (first | (with_reducible first | exact HB.out | apply below_alloc | apply pw_below_drewN | apply below_drew1 | refine below_set ?_ GE351.out) | exact HB.out)⟩
 ·rw [if_neg c2] at H; have c2b0 : (a0_0 == 0) = false := beq_eq_false_iff_ne.mpr c2; have c2b1 : (a0_0 != 0) = true := bne_iff_ne.mpr c2; replace H := Option.bind_eq_some_iff.mp H; obtain ⟨t352, A480, H⟩ := H; replace H : (if 6 + t352.size ≤ 9223372036854775807 then (some ((⟨#[101, 114, 114, 111, 114, 32]⟩ : ByteArray) ++ t352)) else (none)) = some r := H; have A48 := Aside0.mk A480; clear A480; by_cases c49 : 6 + t352.size ≤ 9223372036854775807
  ·rw [if_pos c49] at H; have c49b0 := eq_true c49; have c49b1 : decide (6 + t352.size ≤ 9223372036854775807) = true := decide_eq_true c49; (try have c49b2 : (9223372036854775807 < 6 + t352.size) = False := eq_false (Nat.not_lt.2 c49)); obtain rfl := Option.some.inj H; go_enter Tryd.func25, Tryd.ntmps25
   (go_wp2_with (first | ((with_reducible refine gate_dst (N := 1) rfl ?_); refine box_event ?hg (N := 1) ?hd (cs := #[.int .i64 a0_0, .slice A0_1 l0_1.length c0_1, .slice A0_2 l0_2.length c0_2, .slice A0_3 l0_3.length c0_3]) (t := 27) ?hr ?_; (case hd => rfl); (case hg => rfl); (case hr => first | (go_simp; done) | (go_simp; rfl)); intro gb351 hg w50 hbox hb; have n0_ := Aside0.mk (below_step (by repeat (first | (with_reducible first | exact HB.out | apply below_alloc | apply pw_below_drewN | apply below_drew1) | exact HB.out)) hb); have n1_ := Aside0.mk (hbox); have n2_ := Aside0.mk ((by rw [hg]; exact (below_size (by repeat (first | (with_reducible first | exact HB.out | apply below_alloc | apply pw_below_drewN | apply below_drew1) | exact HB.out))) : w.heap.size ≤ gb351)); have n3_ := Aside0.mk ((by rw [hg]; exact (below_size (by repeat (first | (with_reducible first | exact HB.out | apply below_alloc | apply pw_below_drewN | apply below_drew1) | exact HB.out))) : w.heap.size ≤ gb351)); clear HB; have HB := n0_; have BK351 := n1_; have GW351 := n2_; have GE351 := n3_; clear n0_ n1_ n2_ n3_; clear hb hbox hg; have hcz51_0 : w50.cell? ⟨gb351, 0, none⟩ = some (.int .i64 a0_0) := (blk_cell BK351.out 0).trans rfl; have hcz51_1 : w50.cell? ⟨gb351, 1, none⟩ = some (.slice A0_1 l0_1.length c0_1) := (blk_cell BK351.out 1).trans rfl; have hcz51_2 : w50.cell? ⟨gb351, 2, none⟩ = some (.slice A0_2 l0_2.length c0_2) := (blk_cell BK351.out 2).trans rfl; have hcz51_3 : w50.cell? ⟨gb351, 3, none⟩ = some (.slice A0_3 l0_3.length c0_3) := (blk_cell BK351.out 3).trans rfl; have hfz51_0 := blk_frozen BK351.out 0; have hfz51_1 := blk_frozen BK351.out 1; have hfz51_2 := blk_frozen BK351.out 2; have hfz51_3 := blk_frozen BK351.out 3) | ((with_reducible refine gate_callee (f := 37) rfl ?_); refine goesL_ (some 12) rfl rfl Tryd.func37 (by kernel_rfl) rfl #[.int .i64 a0_0] rfl (by (try simp only [List.map_toArray, List.map_cons, List.map_nil]); first | done | rfl | (simp only [List.length_drop, List.length_take]; rfl)) ?_; (with_reducible refine (musterref31_Decimal.calls k a0_0 t352 _ A48.out).mono ?_); rintro e w52 ⟨rfl, hb⟩; refine ⟨_, rfl, ?_⟩; have n0_ := Aside0.mk (blk_below (g := gb351) (o := .cells #[.int .i64 a0_0, .slice A0_1 l0_1.length c0_1, .slice A0_2 l0_2.length c0_2, .slice A0_3 l0_3.length c0_3] 27 (0, 0)) (by (with_reducible repeat (first | refine blk_drewN ?_ _ | refine blk_drew ?_ | refine blk_alloc ?_ _)); exact BK351.out) hb); have n1_ := Aside0.mk (below_step (by repeat (first | (with_reducible first | exact HB.out | apply below_alloc | apply pw_below_drewN | apply below_drew1 | refine below_set ?_ GE351.out) | exact HB.out)) hb); clear BK351; clear HB; have BK351 := n0_; have HB := n1_; clear n0_ n1_; (try clear hb); (try clear hb2); (try clear hk); (try clear hi)))); go_ret
   exact ⟨by first | rfl | (simp [errW_none, errW_some] <;> rfl) | (simp [*, errW_none, errW_some] <;> rfl), by repeat (first | (with_reducible first | exact HB.out | apply below_alloc | apply pw_below_drewN | apply below_drew1 | refine below_set ?_ GE351.out) | exact HB.out)⟩
  ·rw [if_neg c49] at H; exact absurd H (by simp)

end Go.Proofs.YthlbdbaanlehhaaDoor.Pr

-- MENDED
-- NATB
