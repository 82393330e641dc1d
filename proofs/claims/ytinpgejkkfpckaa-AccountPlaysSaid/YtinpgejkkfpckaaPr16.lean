-- MINIFIED by wip/tools/minify.py
-- Written by this session's program wip/tools/pr.py out of the translation (with the kit's print.py). Not trusted: Lean checks it.
import Derived.Test.YtinpgejkkfpckaaPr0
import Derived.Test.YtinpgejkkfpckaaPr14
import Derived.Test.YtinpgejkkfpckaaPr15
namespace Go.Proofs.Ytinpgejkkfpckaa.Pr
open Go.RowKit Go.Proofs.YtinpgejkkfpckaaW.PrintWords Go.Proofs.YtinpgejkkfpckaaW.PrintLast Go.Proofs.YtinpgejkkfpckaaW.PrintMore
attribute [local go_sem] max2_int min2_int max_two min_two max_three min_three max_four min_four   -- for this text's walks alone
set_option linter.unusedVariables false
set_option linter.unusedSimpArgs false

/-! ### musterref27_Rollup: function 33 -/
mutual
def musterref27_Rollup.j0 : Nat → List (S36) → ByteArray → Int → Int → Int → Bool → Option (List Int × Bool × Int)
 | 0, _, _, _, _, _, _ => none
 | k + 1, x0, x1, x2, x3, x4, x29 => if x29 = true then (some (([] : List Int), false, 2)) else (if x4 = 0 then (none) else (musterref27_Rollup.l0 k x0 x1 x2 x3 x4 ([] : List Int) false (wrap64 (Int.tdiv x2 x4))))
def musterref27_Rollup.l0 : Nat → List (S36) → ByteArray → Int → Int → Int → List Int → Bool → Int → Option (List Int × Bool × Int)
 | 0, _, _, _, _, _, _, _, _ => none
 | k + 1, x0, x1, x2, x3, x4, x13, x14, x15 => if x2 < x3 then (musterref27_Rollup.j2 k x0 x1 x2 x3 x4 x13 x14 x15 (decide ((wrap64 (x15 * x4)) < x3))) else (musterref27_Rollup.j2 k x0 x1 x2 x3 x4 x13 x14 x15 false)
def musterref27_Rollup.j2 : Nat → List (S36) → ByteArray → Int → Int → Int → List Int → Bool → Int → Bool → Option (List Int × Bool × Int)
 | 0, _, _, _, _, _, _, _, _, _ => none
 | k + 1, x0, x1, x2, x3, x4, x13, x14, x15, x42 => if x42 = true then (if (x13.length : Int) = 1000 then (some (([] : List Int), false, 3)) else ((musterref27_Used.f k x0 x1 (wrap64 (x15 * x4)) (mn (wrap64 ((wrap64 (x15 + 1)) * x4)) 1099511627776)).bind fun bt281 => (if (wrap64 ((wrap64 (x15 + 1)) * x4)) > 1099511627776 then ((musterref27_beyond.f k x0 x1 (wrap64 (x15 * x4)) (wrap64 ((wrap64 (x15 + 1)) * x4))).bind fun bt284 => (if x13.length < 17592186044416 then ((some (x13 ++ [bt284.1] : List Int)).bind fun y286 => (if x14 = true then (musterref27_Rollup.l0 k x0 x1 x2 x3 x4 y286 true (wrap64 (x15 + 1))) else (musterref27_Rollup.l0 k x0 x1 x2 x3 x4 y286 bt284.2 (wrap64 (x15 + 1))))) else (none))) else (if x13.length < 17592186044416 then ((some (x13 ++ [bt281.1] : List Int)).bind fun y289 => (if x14 = true then (musterref27_Rollup.l0 k x0 x1 x2 x3 x4 y289 true (wrap64 (x15 + 1))) else (musterref27_Rollup.l0 k x0 x1 x2 x3 x4 y289 bt281.2.1 (wrap64 (x15 + 1))))) else (none))))) else (some (x13, x14, 0))
end
def musterref27_Rollup.f (k : Nat) (l0 : List (S36)) (a1 : ByteArray) (a2 : Int) (a3 : Int) (a4 : Int) : Option (List Int × Bool × Int) := if a2 < 0 then (musterref27_Rollup.j0 k l0 a1 a2 a3 a4 true) else (if a2 > a3 then (musterref27_Rollup.j0 k l0 a1 a2 a3 a4 true) else (musterref27_Rollup.j0 k l0 a1 a2 a3 a4 (decide (a3 > 1099511627776))))
theorem musterref27_Rollup.mono_l : ∀ k, (∀ y0 y1 y2 y3 y4 y5, LeO (musterref27_Rollup.j0 k y0 y1 y2 y3 y4 y5) (musterref27_Rollup.j0 (k + 1) y0 y1 y2 y3 y4 y5)) ∧ (∀ y0 y1 y2 y3 y4 y5 y6 y7, LeO (musterref27_Rollup.l0 k y0 y1 y2 y3 y4 y5 y6 y7) (musterref27_Rollup.l0 (k + 1) y0 y1 y2 y3 y4 y5 y6 y7)) ∧ (∀ y0 y1 y2 y3 y4 y5 y6 y7 y8, LeO (musterref27_Rollup.j2 k y0 y1 y2 y3 y4 y5 y6 y7 y8) (musterref27_Rollup.j2 (k + 1) y0 y1 y2 y3 y4 y5 y6 y7 y8))
 | 0 => ⟨fun _ _ _ _ _ _ r h => by simp [musterref27_Rollup.j0] at h, fun _ _ _ _ _ _ _ _ r h => by simp [musterref27_Rollup.l0] at h, fun _ _ _ _ _ _ _ _ _ r h => by simp [musterref27_Rollup.j2] at h⟩
 | k + 1 => by
  obtain ⟨ih0, ih1, ih2⟩ := musterref27_Rollup.mono_l k
  refine ⟨?_, ?_, ?_⟩
  ·intro y0 y1 y2 y3 y4 y5
   unfold musterref27_Rollup.j0
   repeat' first
   | (with_reducible exact ih0 _ _ _ _ _ _)
   | (with_reducible exact ih1 _ _ _ _ _ _ _ _)
   | (with_reducible exact ih2 _ _ _ _ _ _ _ _ _)
   | (with_reducible exact musterref27_Used.mono _ _ _ _ _)
   | (with_reducible exact musterref27_beyond.mono _ _ _ _ _)
   | (with_reducible exact LeO.refl _)
   | (with_reducible exact LeO.none _)
   | (with_reducible refine LeO.ite ?_ ?_)
   | (with_reducible refine LeO.bind ?_ (fun _ => ?_))
   | exact ih0 _ _ _ _ _ _
   | exact ih1 _ _ _ _ _ _ _ _
   | exact ih2 _ _ _ _ _ _ _ _ _
   | exact musterref27_Used.mono _ _ _ _ _
   | exact musterref27_beyond.mono _ _ _ _ _
   | exact LeO.none _
   | refine LeO.ite ?_ ?_
   | refine LeO.bind ?_ (fun _ => ?_)
  ·intro y0 y1 y2 y3 y4 y5 y6 y7
   unfold musterref27_Rollup.l0
   repeat' first
   | (with_reducible exact ih0 _ _ _ _ _ _)
   | (with_reducible exact ih1 _ _ _ _ _ _ _ _)
   | (with_reducible exact ih2 _ _ _ _ _ _ _ _ _)
   | (with_reducible exact musterref27_Used.mono _ _ _ _ _)
   | (with_reducible exact musterref27_beyond.mono _ _ _ _ _)
   | (with_reducible exact LeO.refl _)
   | (with_reducible exact LeO.none _)
   | (with_reducible refine LeO.ite ?_ ?_)
   | (with_reducible refine LeO.bind ?_ (fun _ => ?_))
   | exact ih0 _ _ _ _ _ _
   | exact ih1 _ _ _ _ _ _ _ _
   | exact ih2 _ _ _ _ _ _ _ _ _
   | exact musterref27_Used.mono _ _ _ _ _
   | exact musterref27_beyond.mono _ _ _ _ _
   | exact LeO.none _
   | refine LeO.ite ?_ ?_
   | refine LeO.bind ?_ (fun _ => ?_)
  ·intro y0 y1 y2 y3 y4 y5 y6 y7 y8
   unfold musterref27_Rollup.j2
   repeat' first
   | (with_reducible exact ih0 _ _ _ _ _ _)
   | (with_reducible exact ih1 _ _ _ _ _ _ _ _)
   | (with_reducible exact ih2 _ _ _ _ _ _ _ _ _)
   | (with_reducible exact musterref27_Used.mono _ _ _ _ _)
   | (with_reducible exact musterref27_beyond.mono _ _ _ _ _)
   | (with_reducible exact LeO.refl _)
   | (with_reducible exact LeO.none _)
   | (with_reducible refine LeO.ite ?_ ?_)
   | (with_reducible refine LeO.bind ?_ (fun _ => ?_))
   | exact ih0 _ _ _ _ _ _
   | exact ih1 _ _ _ _ _ _ _ _
   | exact ih2 _ _ _ _ _ _ _ _ _
   | exact musterref27_Used.mono _ _ _ _ _
   | exact musterref27_beyond.mono _ _ _ _ _
   | exact LeO.none _
   | refine LeO.ite ?_ ?_
   | refine LeO.bind ?_ (fun _ => ?_)
theorem musterref27_Rollup.mono : ∀ a0 a1 a2 a3 a4 k, LeO (musterref27_Rollup.f k a0 a1 a2 a3 a4) (musterref27_Rollup.f (k + 1) a0 a1 a2 a3 a4) := by
 intro a0 a1 a2 a3 a4 k
 obtain ⟨ih0, ih1, ih2⟩ := musterref27_Rollup.mono_l k
 unfold musterref27_Rollup.f
 repeat' first
   | (with_reducible exact ih0 _ _ _ _ _ _)
   | (with_reducible exact ih1 _ _ _ _ _ _ _ _)
   | (with_reducible exact ih2 _ _ _ _ _ _ _ _ _)
   | (with_reducible exact musterref27_Used.mono _ _ _ _ _)
   | (with_reducible exact musterref27_beyond.mono _ _ _ _ _)
   | (with_reducible exact LeO.refl _)
   | (with_reducible exact LeO.none _)
   | (with_reducible refine LeO.ite ?_ ?_)
   | (with_reducible refine LeO.bind ?_ (fun _ => ?_))
   | exact ih0 _ _ _ _ _ _
   | exact ih1 _ _ _ _ _ _ _ _
   | exact ih2 _ _ _ _ _ _ _ _ _
   | exact musterref27_Used.mono _ _ _ _ _
   | exact musterref27_beyond.mono _ _ _ _ _
   | exact LeO.none _
   | refine LeO.ite ?_ ?_
   | refine LeO.bind ?_ (fun _ => ?_)
set_option maxHeartbeats 8000000 in
set_option maxRecDepth 100000 in
theorem musterref27_Rollup.calls (k : Nat) (A0 : Option Addr) (c0 : Nat) (l0 : List (S36)) (a1 : ByteArray) (a2 : Int) (a3 : Int) (a4 : Int) (r1 : List Int) (r2 : Bool) (r3 : Int) (w : World) (hr0 : Kd.C k36 w A0 l0.length l0) (hc0 : l0.length ≤ c0) (h : musterref27_Rollup.f k l0 a1 a2 a3 a4 = some (r1, r2, r3)) :
  Calls Try.prog 33 #[.slice A0 l0.length c0, .string a1, .int .i64 a2, .int .i64 a3, .int .i64 a4] w fun e w' => ∃ v0_ : Value, e = .returned (.tuple #[v0_, .bool r2, .int .i64 r3]) ∧ Kd.R (Kd.int .i64) 2 w' w.heap.size (fun _ => True) v0_ r1 ∧ Below w.heap.size w w' := by
 have HR0 := Aside0.mk hr0
 have HC0 := Aside0.mk hc0
 clear hr0 hc0
 have HB := Aside0.mk (Below.refl w.heap.size w)
 have H : (if a2 < 0 then (musterref27_Rollup.j0 k l0 a1 a2 a3 a4 true) else (if a2 > a3 then (musterref27_Rollup.j0 k l0 a1 a2 a3 a4 true) else (musterref27_Rollup.j0 k l0 a1 a2 a3 a4 (decide (a3 > 1099511627776))))) = some (r1, r2, r3) := h
 clear h
 have HC6 := Aside0.mk H
 clear H
 go_enter Try.func33, Try.ntmps33
 go_upto_region 1 with (fail)
 go_cut [29] (fun v29 wc => ∃ (kq : Nat) (x29_5 : Bool), v29 = .bool x29_5 ∧ Aside0 (musterref27_Rollup.j0 kq l0 a1 a2 a3 a4 x29_5 = some (r1, r2, r3)) ∧ Aside0 (kq ≤ k) ∧ Aside0 (Below w.heap.size w wc))
 case first =>
  have H := HC6.out
  clear HC6
  by_cases c7 : a2 < 0
  ·rw [if_pos c7] at H
   have c7b0 : decide (a2 < 0) = true := decide_eq_true c7
   clear c7
   (first | rw [c7b0] | (simp only [i64_w, i32_w]; rw [c7b0]) | skip)
   have H' := Aside0.mk H
   clear H
   go_wp2
   go_meet
   case rel => exact ⟨_, (true), (by first | rfl | (simp; done) | (simp [*]; done)), H', ⟨by first | omega | exact Nat.le_refl _⟩, ⟨by repeat (first | (with_reducible first | exact HB.out | apply below_alloc | apply pw_below_drewN | apply below_drew1) | exact HB.out)⟩⟩
  ·rw [if_neg c7] at H
   have c7b0 : decide (a2 < 0) = false := decide_eq_false c7
   clear c7
   (first | rw [c7b0] | (simp only [i64_w, i32_w]; rw [c7b0]) | skip)
   by_cases c8 : a2 > a3
   ·rw [if_pos c8] at H
    have c8b0 : decide (a3 < a2) = true := decide_eq_true c8
    clear c8
    have H' := Aside0.mk H
    clear H
    go_wp2
    go_meet
    case rel => exact ⟨_, (true), (by first | rfl | (simp; done) | (simp [*]; done)), H', ⟨by first | omega | exact Nat.le_refl _⟩, ⟨by repeat (first | (with_reducible first | exact HB.out | apply below_alloc | apply pw_below_drewN | apply below_drew1) | exact HB.out)⟩⟩
   ·rw [if_neg c8] at H
    have c8b0 : decide (a3 < a2) = false := decide_eq_false c8
    clear c8
    have H' := Aside0.mk H
    clear H
    go_wp2
    go_meet
    case rel => exact ⟨_, (decide (a3 > 1099511627776)), (by first | rfl | (simp; done) | (simp [*]; done)), H', ⟨by first | omega | exact Nat.le_refl _⟩, ⟨by repeat (first | (with_reducible first | exact HB.out | apply below_alloc | apply pw_below_drewN | apply below_drew1) | exact HB.out)⟩⟩
 case rest =>
  clear HC6
  try clear p2
  try clear c3
  try clear c7
  try clear c7b0
  try clear c8
  try clear c8b0
  obtain ⟨kq, x29_5, rfl, HA, HJ5, HB⟩ := hcut
  cases kq with
  | zero => exact absurd HA.out (by simp [musterref27_Rollup.j0])
  | succ kj5 =>
   have H := HA.out
   clear HA
   simp only [musterref27_Rollup.j0] at H
   by_cases c9 : x29_5 = true
   ·subst c9
    have H1 : (some (([] : List Int), false, 2)) = some (r1, r2, r3) := by rw [if_pos rfl] at H; exact H
    clear H
    have H := H1
    clear H1
    simp only [Option.some.injEq, Prod.mk.injEq] at H
    obtain ⟨rfl, rfl, rfl⟩ := H
    go_wp2
    go_ret3
    exact ⟨_, by first | rfl | (simp [errW_none, errW_some] <;> rfl) | (simp [*, errW_none, errW_some] <;> rfl), by first | exact Kd.R_nil _ _ _ _ _ | exact Kd.N_nil _ _ _ _ _ | exact Kd.V_nil _ _ _ _ _ | exact Kd.Q_nil _ _ _ _ _ | exact Kd.S_nil _ _ _ _ _, by repeat (first | (with_reducible first | exact HB.out | apply below_alloc | apply pw_below_drewN | apply below_drew1) | exact HB.out)⟩
   ·replace c9 := Bool.eq_false_iff.mpr c9
    subst c9
    have H1 : (if a4 = 0 then (none) else (musterref27_Rollup.l0 kj5 l0 a1 a2 a3 a4 ([] : List Int) false (wrap64 (Int.tdiv a2 a4)))) = some (r1, r2, r3) := by rw [if_neg (show ¬ (false = true) by decide)] at H; exact H
    clear H
    have H := H1
    clear H1
    by_cases c10 : a4 = 0
    ·rw [if_pos c10] at H
     exact absurd H (by simp)
    ·rw [if_neg c10] at H
     have c10b0 : (a4 == 0) = false := beq_eq_false_iff_ne.mpr c10
     have c10b1 : (a4 != 0) = true := bne_iff_ne.mpr c10
     have H' := Aside0.mk H
     clear H
     go_wp2
     go_loopg [13, 14, 15] kj5 (fun kq v13 v14 v15 w' => ∃ (x13_2 : List Int) (x14_2 : Bool) (x15_2 : Int), v14 = .bool x14_2 ∧ v15 = .int .i64 x15_2 ∧ Aside0 (musterref27_Rollup.l0 kq l0 a1 a2 a3 a4 x13_2 x14_2 x15_2 = some (r1, r2, r3)) ∧ Aside0 (kq ≤ kj5) ∧ Aside0 (Kd.R (Kd.int .i64) 2 w' w.heap.size (fun _ => True) v13 x13_2) ∧ Aside0 (Below w.heap.size w w'))
     case atStart => exact ⟨(([] : List Int)), (false), (wrap64 (Int.tdiv a2 a4)), (by first | rfl | (simp; done) | (simp [*]; done)), (by first | rfl | (simp; done) | (simp [*]; done)), H', ⟨Nat.le_refl _⟩, ⟨by first | exact Kd.R_nil _ _ _ _ _ | exact Kd.N_nil _ _ _ _ _ | exact Kd.V_nil _ _ _ _ _ | exact Kd.Q_nil _ _ _ _ _ | exact Kd.S_nil _ _ _ _ _⟩, ⟨by repeat (first | (with_reducible first | exact HB.out | apply below_alloc | apply pw_below_drewN | apply below_drew1) | exact HB.out)⟩⟩
     case round =>
      clear H'
      try clear c1
      try clear p2
      try clear c3
      try clear p6
      try clear c7
      try clear c7b0
      try clear c8
      try clear c8b0
      try clear c9
      try clear c10
      try clear c10b0
      try clear c10b1
      try clear p2
      obtain ⟨x13_2, x14_2, x15_2, rfl, rfl, HA, HK2, HO_13, HB⟩ := hrel
      cases gk with
      | zero => exact absurd HA.out (by simp [musterref27_Rollup.l0])
      | succ k2 =>
       have H := HA.out
       clear HA
       simp only [musterref27_Rollup.l0] at H
       have HC11 := Aside0.mk H
       clear H
       go_upto_region 6 with (fail)
       go_cut [42] (fun v42 wc => ∃ (kq : Nat) (x42_10 : Bool), v42 = .bool x42_10 ∧ Aside0 (musterref27_Rollup.j2 kq l0 a1 a2 a3 a4 x13_2 x14_2 x15_2 x42_10 = some (r1, r2, r3)) ∧ Aside0 (kq ≤ k2) ∧ Aside0 (Kd.R (Kd.int .i64) 2 wc w.heap.size (fun _ => True) u13 x13_2) ∧ Aside0 (Below w.heap.size w wc))
       case first =>
        have H := HC11.out
        clear HC11
        by_cases c12 : a2 < a3
        ·rw [if_pos c12] at H
         have c12b0 : decide (a2 < a3) = true := decide_eq_true c12
         clear c12
         (first | rw [c12b0] | (simp only [i64_w, i32_w]; rw [c12b0]) | skip)
         have H' := Aside0.mk H
         clear H
         go_wp2
         go_meet
         case rel => exact ⟨_, (decide ((wrap64 (x15_2 * a4)) < a3)), (by first | rfl | (simp; done) | (simp [*]; done)), H', ⟨by have := HJ5.out; have := HK2.out; first | omega | exact Nat.le_refl _⟩, ⟨by (with_reducible repeat (first | apply Kd.R_alloc | apply Kd.R_drewN | apply Kd.R_drew)); exact HO_13.out⟩, ⟨by repeat (first | (with_reducible first | exact HB.out | apply below_alloc | apply pw_below_drewN | apply below_drew1) | exact HB.out)⟩⟩
        ·rw [if_neg c12] at H
         have c12b0 : decide (a2 < a3) = false := decide_eq_false c12
         clear c12
         (first | rw [c12b0] | (simp only [i64_w, i32_w]; rw [c12b0]) | skip)
         have H' := Aside0.mk H
         clear H
         go_wp2
         go_meet
         case rel => exact ⟨_, (false), (by first | rfl | (simp; done) | (simp [*]; done)), H', ⟨by have := HJ5.out; have := HK2.out; first | omega | exact Nat.le_refl _⟩, ⟨by (with_reducible repeat (first | apply Kd.R_alloc | apply Kd.R_drewN | apply Kd.R_drew)); exact HO_13.out⟩, ⟨by repeat (first | (with_reducible first | exact HB.out | apply below_alloc | apply pw_below_drewN | apply below_drew1) | exact HB.out)⟩⟩
       case rest =>
        clear HC11
        try clear c1
        try clear p2
        try clear c3
        try clear p6
        try clear c7
        try clear c7b0
        try clear c8
        try clear c8b0
        try clear c9
        try clear c10
        try clear c10b0
        try clear c10b1
        try clear c12
        try clear c12b0
        try clear p2
        try clear p6
        obtain ⟨kq, x42_10, rfl, HA, HJ10, HO_13, HB⟩ := hcut
        cases kq with
        | zero => exact absurd HA.out (by simp [musterref27_Rollup.j2])
        | succ kj10 =>
         have H := HA.out
         clear HA
         simp only [musterref27_Rollup.j2] at H
         by_cases c13 : x42_10 = true
         ·subst c13
          have H1 : (if (x13_2.length : Int) = 1000 then (some (([] : List Int), false, 3)) else ((musterref27_Used.f kj10 l0 a1 (wrap64 (x15_2 * a4)) (mn (wrap64 ((wrap64 (x15_2 + 1)) * a4)) 1099511627776)).bind fun bt281 => (if (wrap64 ((wrap64 (x15_2 + 1)) * a4)) > 1099511627776 then ((musterref27_beyond.f kj10 l0 a1 (wrap64 (x15_2 * a4)) (wrap64 ((wrap64 (x15_2 + 1)) * a4))).bind fun bt284 => (if x13_2.length < 17592186044416 then ((some (x13_2 ++ [bt284.1] : List Int)).bind fun y286 => (if x14_2 = true then (musterref27_Rollup.l0 kj10 l0 a1 a2 a3 a4 y286 true (wrap64 (x15_2 + 1))) else (musterref27_Rollup.l0 kj10 l0 a1 a2 a3 a4 y286 bt284.2 (wrap64 (x15_2 + 1))))) else (none))) else (if x13_2.length < 17592186044416 then ((some (x13_2 ++ [bt281.1] : List Int)).bind fun y289 => (if x14_2 = true then (musterref27_Rollup.l0 kj10 l0 a1 a2 a3 a4 y289 true (wrap64 (x15_2 + 1))) else (musterref27_Rollup.l0 kj10 l0 a1 a2 a3 a4 y289 bt281.2.1 (wrap64 (x15_2 + 1))))) else (none))))) = some (r1, r2, r3) := by rw [if_pos rfl] at H; exact H
          clear H
          have H := H1
          clear H1
          by_cases c14 : (x13_2.length : Int) = 1000
          ·rw [if_pos c14] at H
           have c14b0 : ((x13_2.length : Int) == 1000) = true := beq_iff_eq.mpr c14
           have c14b1 : ((x13_2.length : Int) != 1000) = false := bne_eq_false_iff_eq.mpr c14
           clear c14
           simp only [Option.some.injEq, Prod.mk.injEq] at H
           obtain ⟨rfl, rfl, rfl⟩ := H
           obtain ⟨Ao15, co15, eo15⟩ := Kd.R_slice HO_13.out
           subst eo15
           go_wp2
           go_ret3
           exact ⟨_, by first | rfl | (simp [errW_none, errW_some] <;> rfl) | (simp [*, errW_none, errW_some] <;> rfl), by first | exact Kd.R_nil _ _ _ _ _ | exact Kd.N_nil _ _ _ _ _ | exact Kd.V_nil _ _ _ _ _ | exact Kd.Q_nil _ _ _ _ _ | exact Kd.S_nil _ _ _ _ _, by repeat (first | (with_reducible first | exact HB.out | apply below_alloc | apply pw_below_drewN | apply below_drew1) | exact HB.out)⟩
          ·rw [if_neg c14] at H
           have c14b0 : ((x13_2.length : Int) == 1000) = false := beq_eq_false_iff_ne.mpr c14
           have c14b1 : ((x13_2.length : Int) != 1000) = true := bne_iff_ne.mpr c14
           obtain ⟨ji16, hji16⟩ : ∃ j_ : Int, (mn (wrap64 ((wrap64 (x15_2 + 1)) * a4)) 1099511627776) = j_ := ⟨_, rfl⟩
           replace H : ((musterref27_Used.f kj10 l0 a1 (wrap64 (x15_2 * a4)) (ji16)).bind fun bt281 => (if (wrap64 ((wrap64 (x15_2 + 1)) * a4)) > 1099511627776 then ((musterref27_beyond.f kj10 l0 a1 (wrap64 (x15_2 * a4)) (wrap64 ((wrap64 (x15_2 + 1)) * a4))).bind fun bt284 => (if x13_2.length < 17592186044416 then ((some (x13_2 ++ [bt284.1] : List Int)).bind fun y286 => (if x14_2 = true then (musterref27_Rollup.l0 kj10 l0 a1 a2 a3 a4 y286 true (wrap64 (x15_2 + 1))) else (musterref27_Rollup.l0 kj10 l0 a1 a2 a3 a4 y286 bt284.2 (wrap64 (x15_2 + 1))))) else (none))) else (if x13_2.length < 17592186044416 then ((some (x13_2 ++ [bt281.1] : List Int)).bind fun y289 => (if x14_2 = true then (musterref27_Rollup.l0 kj10 l0 a1 a2 a3 a4 y289 true (wrap64 (x15_2 + 1))) else (musterref27_Rollup.l0 kj10 l0 a1 a2 a3 a4 y289 bt281.2.1 (wrap64 (x15_2 + 1))))) else (none)))) = some (r1, r2, r3) := by first | (rw [hji16] at H; exact H) | (simp only [hji16] at H ⊢; exact H)
           have hji16_ : (if 1099511627776 < (wrap64 ((wrap64 (x15_2 + 1)) * a4)) then 1099511627776 else (wrap64 ((wrap64 (x15_2 + 1)) * a4))) = ji16 := hji16
           replace H := Option.bind_eq_some_iff.mp H
           obtain ⟨⟨t281, t282, t283⟩, A170, H⟩ := H
           replace H : (if (wrap64 ((wrap64 (x15_2 + 1)) * a4)) > 1099511627776 then ((musterref27_beyond.f kj10 l0 a1 (wrap64 (x15_2 * a4)) (wrap64 ((wrap64 (x15_2 + 1)) * a4))).bind fun bt284 => (if x13_2.length < 17592186044416 then ((some (x13_2 ++ [bt284.1] : List Int)).bind fun y286 => (if x14_2 = true then (musterref27_Rollup.l0 kj10 l0 a1 a2 a3 a4 y286 true (wrap64 (x15_2 + 1))) else (musterref27_Rollup.l0 kj10 l0 a1 a2 a3 a4 y286 bt284.2 (wrap64 (x15_2 + 1))))) else (none))) else (if x13_2.length < 17592186044416 then ((some (x13_2 ++ [t281] : List Int)).bind fun y289 => (if x14_2 = true then (musterref27_Rollup.l0 kj10 l0 a1 a2 a3 a4 y289 true (wrap64 (x15_2 + 1))) else (musterref27_Rollup.l0 kj10 l0 a1 a2 a3 a4 y289 t282 (wrap64 (x15_2 + 1))))) else (none))) = some (r1, r2, r3) := H
           have A17 := Aside0.mk A170
           clear A170
           by_cases c18 : (wrap64 ((wrap64 (x15_2 + 1)) * a4)) > 1099511627776
           ·rw [if_pos c18] at H
            have c18b0 : decide (1099511627776 < (wrap64 ((wrap64 (x15_2 + 1)) * a4))) = true := decide_eq_true c18
            clear c18
            replace H := Option.bind_eq_some_iff.mp H
            obtain ⟨⟨t284, t285⟩, A190, H⟩ := H
            replace H : (if x13_2.length < 17592186044416 then ((some (x13_2 ++ [t284] : List Int)).bind fun y286 => (if x14_2 = true then (musterref27_Rollup.l0 kj10 l0 a1 a2 a3 a4 y286 true (wrap64 (x15_2 + 1))) else (musterref27_Rollup.l0 kj10 l0 a1 a2 a3 a4 y286 t285 (wrap64 (x15_2 + 1))))) else (none)) = some (r1, r2, r3) := H
            have A19 := Aside0.mk A190
            clear A190
            by_cases c20 : x13_2.length < 17592186044416
            ·rw [if_pos c20] at H
             have LMc20 := Aside0.mk c20
             clear c20
             obtain ⟨y286, hy286⟩ : ∃ y_ : List Int, y_ = (x13_2 ++ [t284]) := ⟨_, rfl⟩
             replace H : (if x14_2 = true then (musterref27_Rollup.l0 kj10 l0 a1 a2 a3 a4 y286 true (wrap64 (x15_2 + 1))) else (musterref27_Rollup.l0 kj10 l0 a1 a2 a3 a4 y286 t285 (wrap64 (x15_2 + 1)))) = some (r1, r2, r3) := by first | (rw [hy286]; with_reducible exact H) | (have H2_ := (Option.bind_some _ _).symm.trans H; rw [hy286]; with_reducible exact H2_) | (have H2_ := (Option.bind_some _ _).symm.trans H; with_reducible exact H2_) | with_reducible exact H | (rw [hy286]; exact H) | exact H
             have Ny286 := Aside0.mk hy286
             clear hy286
             by_cases c21 : x14_2 = true
             ·subst c21
              have H1 : (musterref27_Rollup.l0 kj10 l0 a1 a2 a3 a4 y286 true (wrap64 (x15_2 + 1))) = some (r1, r2, r3) := by rw [if_pos rfl] at H; exact H
              clear H
              have H := H1
              clear H1
              have H' := Aside0.mk H
              clear H
              obtain ⟨Ao22, co22, eo22⟩ := Kd.R_slice HO_13.out
              subst eo22
              go_wp2_with (first | ((with_reducible refine gate_callee (f := 32) rfl ?_); refine goesL_ (some 59) rfl rfl Try.func32 (by kernel_rfl) rfl #[.slice A0 l0.length c0, .string a1, .int .i64 (wrap64 (x15_2 * a4)), .int .i64 ji16] rfl (by (try simp only [List.map_toArray, List.map_cons, List.map_nil]); first | done | (simp only [hji16]; rfl) | rfl | (simp only [List.length_drop, List.length_take]; rfl)) ?_; (with_reducible refine (musterref27_Used.calls kj10 _ _ l0 a1 (wrap64 (x15_2 * a4)) ji16 t281 t282 t283 _ ?side1 ?side2 A17.out).mono ?_); (case side1 => repeat (first | exact (Kd.C_below HR0.out HB.out) | (with_reducible refine Kd.C_alloc ?_ _) | (with_reducible refine Kd.C_drewN ?_ _) | (with_reducible refine Kd.C_drew ?_))); (case side2 => exact HC0.out); rintro e w23 ⟨rfl, hb⟩; refine ⟨_, rfl, ?_⟩; have n0_ := Aside0.mk (Kd.R_below (by (with_reducible repeat (first | apply Kd.R_alloc | apply Kd.R_drewN | apply Kd.R_drew)); exact HO_13.out) hb); have n1_ := Aside0.mk (below_step (by repeat (first | (with_reducible first | exact HB.out | apply below_alloc | apply pw_below_drewN | apply below_drew1) | exact HB.out)) hb); clear HO_13; clear HB; have HO_13 := n0_; have HB := n1_; clear n0_ n1_; (try clear hb); (try clear hb2); (try clear hk); (try clear hi)) | ((with_reducible refine gate_callee (f := 47) rfl ?_); refine goesL_ (some 78) rfl rfl Try.func47 (by kernel_rfl) rfl #[.slice A0 l0.length c0, .string a1, .int .i64 (wrap64 (x15_2 * a4)), .int .i64 (wrap64 ((wrap64 (x15_2 + 1)) * a4))] rfl (by (try simp only [List.map_toArray, List.map_cons, List.map_nil]); first | done | rfl | (simp only [List.length_drop, List.length_take]; rfl)) ?_; (with_reducible refine (musterref27_beyond.calls kj10 _ _ l0 a1 (wrap64 (x15_2 * a4)) (wrap64 ((wrap64 (x15_2 + 1)) * a4)) t284 t285 _ ?side1 ?side2 A19.out).mono ?_); (case side1 => repeat (first | exact (Kd.C_below HR0.out HB.out) | (with_reducible refine Kd.C_alloc ?_ _) | (with_reducible refine Kd.C_drewN ?_ _) | (with_reducible refine Kd.C_drew ?_))); (case side2 => exact HC0.out); rintro e w24 ⟨rfl, hb⟩; refine ⟨_, rfl, ?_⟩; have n0_ := Aside0.mk (Kd.R_below (by (with_reducible repeat (first | apply Kd.R_alloc | apply Kd.R_drewN | apply Kd.R_drew)); exact HO_13.out) hb); have n1_ := Aside0.mk (below_step (by repeat (first | (with_reducible first | exact HB.out | apply below_alloc | apply pw_below_drewN | apply below_drew1) | exact HB.out)) hb); clear HO_13; clear HB; have HO_13 := n0_; have HB := n1_; clear n0_ n1_; (try clear hb); (try clear hb2); (try clear hk); (try clear hi)) | ((with_reducible refine gate_builtin (b := .append) (xs := #[.tmp 81, .tmp 83]) rfl ?_); at_builtin; refine Kd.R_append (Kd.int .i64) (w0 := w) w.heap.size rfl (.tmp 81) (.tmp 83) 22 2 (.int .i64 0) 8 rfl Try.underlying22 info2 rfl (by decide) (by omega) (.slice Ao22 x13_2.length co22) x13_2 t284 [.int .i64 t284] (fun _ => True) (fun _ => False) rfl rfl ?aP (fun _ hk => hk.elim) ?aF ?aO ?aB ?aS ?aL ?_; (case aP => exact rfl); (case aB => exact (by repeat (first | (with_reducible first | exact HB.out | apply below_alloc | apply pw_below_drewN | apply below_drew1) | exact HB.out))); (case aF => exact (fun _ _ => trivial)); (case aO => exact (by (with_reducible repeat (first | apply Kd.R_alloc | apply Kd.R_drewN | apply Kd.R_drew)); exact HO_13.out)); (case aS => exact (below_size (by repeat (first | (with_reducible first | exact HB.out | apply below_alloc | apply pw_below_drewN | apply below_drew1) | exact HB.out)))); (case aL => have := LMc20.out; omega); intro v287 w25 ho hb hg hat; rw [← Ny286.out] at ho; have n0_ := Aside0.mk (hb); have n1_ := Aside0.mk (ho); clear HB; clear HO_13; have HB := n0_; have HO288 := n1_; clear n0_ n1_; clear ho hb hg hat))
              go_roundg kj10
              case measure => have := HJ5.out; have := HK2.out; have := HJ10.out; omega
              case rel => exact ⟨(y286), (true), (wrap64 (x15_2 + 1)), (by first | rfl | (simp; done) | (simp [*]; done)), (by first | rfl | (simp; done) | (simp [*]; done)), H', ⟨by have := HJ5.out; have := HK2.out; have := HJ10.out; omega⟩, ⟨by (with_reducible repeat (first | apply Kd.R_alloc | apply Kd.R_drewN | apply Kd.R_drew)); exact HO288.out⟩, ⟨by repeat (first | (with_reducible first | exact HB.out | apply below_alloc | apply pw_below_drewN | apply below_drew1) | exact HB.out)⟩⟩
             ·replace c21 := Bool.eq_false_iff.mpr c21
              subst c21
              have H1 : (musterref27_Rollup.l0 kj10 l0 a1 a2 a3 a4 y286 t285 (wrap64 (x15_2 + 1))) = some (r1, r2, r3) := by rw [if_neg (show ¬ (false = true) by decide)] at H; exact H
              clear H
              have H := H1
              clear H1
              have H' := Aside0.mk H
              clear H
              obtain ⟨Ao26, co26, eo26⟩ := Kd.R_slice HO_13.out
              subst eo26
              go_wp2_with (first | ((with_reducible refine gate_callee (f := 32) rfl ?_); refine goesL_ (some 59) rfl rfl Try.func32 (by kernel_rfl) rfl #[.slice A0 l0.length c0, .string a1, .int .i64 (wrap64 (x15_2 * a4)), .int .i64 ji16] rfl (by (try simp only [List.map_toArray, List.map_cons, List.map_nil]); first | done | (simp only [hji16]; rfl) | rfl | (simp only [List.length_drop, List.length_take]; rfl)) ?_; (with_reducible refine (musterref27_Used.calls kj10 _ _ l0 a1 (wrap64 (x15_2 * a4)) ji16 t281 t282 t283 _ ?side1 ?side2 A17.out).mono ?_); (case side1 => repeat (first | exact (Kd.C_below HR0.out HB.out) | (with_reducible refine Kd.C_alloc ?_ _) | (with_reducible refine Kd.C_drewN ?_ _) | (with_reducible refine Kd.C_drew ?_))); (case side2 => exact HC0.out); rintro e w27 ⟨rfl, hb⟩; refine ⟨_, rfl, ?_⟩; have n0_ := Aside0.mk (Kd.R_below (by (with_reducible repeat (first | apply Kd.R_alloc | apply Kd.R_drewN | apply Kd.R_drew)); exact HO_13.out) hb); have n1_ := Aside0.mk (below_step (by repeat (first | (with_reducible first | exact HB.out | apply below_alloc | apply pw_below_drewN | apply below_drew1) | exact HB.out)) hb); clear HO_13; clear HB; have HO_13 := n0_; have HB := n1_; clear n0_ n1_; (try clear hb); (try clear hb2); (try clear hk); (try clear hi)) | ((with_reducible refine gate_callee (f := 47) rfl ?_); refine goesL_ (some 78) rfl rfl Try.func47 (by kernel_rfl) rfl #[.slice A0 l0.length c0, .string a1, .int .i64 (wrap64 (x15_2 * a4)), .int .i64 (wrap64 ((wrap64 (x15_2 + 1)) * a4))] rfl (by (try simp only [List.map_toArray, List.map_cons, List.map_nil]); first | done | rfl | (simp only [List.length_drop, List.length_take]; rfl)) ?_; (with_reducible refine (musterref27_beyond.calls kj10 _ _ l0 a1 (wrap64 (x15_2 * a4)) (wrap64 ((wrap64 (x15_2 + 1)) * a4)) t284 t285 _ ?side1 ?side2 A19.out).mono ?_); (case side1 => repeat (first | exact (Kd.C_below HR0.out HB.out) | (with_reducible refine Kd.C_alloc ?_ _) | (with_reducible refine Kd.C_drewN ?_ _) | (with_reducible refine Kd.C_drew ?_))); (case side2 => exact HC0.out); rintro e w28 ⟨rfl, hb⟩; refine ⟨_, rfl, ?_⟩; have n0_ := Aside0.mk (Kd.R_below (by (with_reducible repeat (first | apply Kd.R_alloc | apply Kd.R_drewN | apply Kd.R_drew)); exact HO_13.out) hb); have n1_ := Aside0.mk (below_step (by repeat (first | (with_reducible first | exact HB.out | apply below_alloc | apply pw_below_drewN | apply below_drew1) | exact HB.out)) hb); clear HO_13; clear HB; have HO_13 := n0_; have HB := n1_; clear n0_ n1_; (try clear hb); (try clear hb2); (try clear hk); (try clear hi)) | ((with_reducible refine gate_builtin (b := .append) (xs := #[.tmp 81, .tmp 83]) rfl ?_); at_builtin; refine Kd.R_append (Kd.int .i64) (w0 := w) w.heap.size rfl (.tmp 81) (.tmp 83) 22 2 (.int .i64 0) 8 rfl Try.underlying22 info2 rfl (by decide) (by omega) (.slice Ao26 x13_2.length co26) x13_2 t284 [.int .i64 t284] (fun _ => True) (fun _ => False) rfl rfl ?aP (fun _ hk => hk.elim) ?aF ?aO ?aB ?aS ?aL ?_; (case aP => exact rfl); (case aB => exact (by repeat (first | (with_reducible first | exact HB.out | apply below_alloc | apply pw_below_drewN | apply below_drew1) | exact HB.out))); (case aF => exact (fun _ _ => trivial)); (case aO => exact (by (with_reducible repeat (first | apply Kd.R_alloc | apply Kd.R_drewN | apply Kd.R_drew)); exact HO_13.out)); (case aS => exact (below_size (by repeat (first | (with_reducible first | exact HB.out | apply below_alloc | apply pw_below_drewN | apply below_drew1) | exact HB.out)))); (case aL => have := LMc20.out; omega); intro v287 w29 ho hb hg hat; rw [← Ny286.out] at ho; have n0_ := Aside0.mk (hb); have n1_ := Aside0.mk (ho); clear HB; clear HO_13; have HB := n0_; have HO288 := n1_; clear n0_ n1_; clear ho hb hg hat))
              go_roundg kj10
              case measure => have := HJ5.out; have := HK2.out; have := HJ10.out; omega
              case rel => exact ⟨(y286), (t285), (wrap64 (x15_2 + 1)), (by first | rfl | (simp; done) | (simp [*]; done)), (by first | rfl | (simp; done) | (simp [*]; done)), H', ⟨by have := HJ5.out; have := HK2.out; have := HJ10.out; omega⟩, ⟨by (with_reducible repeat (first | apply Kd.R_alloc | apply Kd.R_drewN | apply Kd.R_drew)); exact HO288.out⟩, ⟨by repeat (first | (with_reducible first | exact HB.out | apply below_alloc | apply pw_below_drewN | apply below_drew1) | exact HB.out)⟩⟩
            ·rw [if_neg c20] at H
             exact absurd H (by simp)
           ·rw [if_neg c18] at H
            have c18b0 : decide (1099511627776 < (wrap64 ((wrap64 (x15_2 + 1)) * a4))) = false := decide_eq_false c18
            clear c18
            by_cases c30 : x13_2.length < 17592186044416
            ·rw [if_pos c30] at H
             have LMc30 := Aside0.mk c30
             clear c30
             obtain ⟨y289, hy289⟩ : ∃ y_ : List Int, y_ = (x13_2 ++ [t281]) := ⟨_, rfl⟩
             replace H : (if x14_2 = true then (musterref27_Rollup.l0 kj10 l0 a1 a2 a3 a4 y289 true (wrap64 (x15_2 + 1))) else (musterref27_Rollup.l0 kj10 l0 a1 a2 a3 a4 y289 t282 (wrap64 (x15_2 + 1)))) = some (r1, r2, r3) := by first | (rw [hy289]; with_reducible exact H) | (have H2_ := (Option.bind_some _ _).symm.trans H; rw [hy289]; with_reducible exact H2_) | (have H2_ := (Option.bind_some _ _).symm.trans H; with_reducible exact H2_) | with_reducible exact H | (rw [hy289]; exact H) | exact H
             have Ny289 := Aside0.mk hy289
             clear hy289
             by_cases c31 : x14_2 = true
             ·subst c31
              have H1 : (musterref27_Rollup.l0 kj10 l0 a1 a2 a3 a4 y289 true (wrap64 (x15_2 + 1))) = some (r1, r2, r3) := by rw [if_pos rfl] at H; exact H
              clear H
              have H := H1
              clear H1
              have H' := Aside0.mk H
              clear H
              obtain ⟨Ao32, co32, eo32⟩ := Kd.R_slice HO_13.out
              subst eo32
              go_wp2_with (first | ((with_reducible refine gate_callee (f := 32) rfl ?_); refine goesL_ (some 59) rfl rfl Try.func32 (by kernel_rfl) rfl #[.slice A0 l0.length c0, .string a1, .int .i64 (wrap64 (x15_2 * a4)), .int .i64 ji16] rfl (by (try simp only [List.map_toArray, List.map_cons, List.map_nil]); first | done | (simp only [hji16]; rfl) | rfl | (simp only [List.length_drop, List.length_take]; rfl)) ?_; (with_reducible refine (musterref27_Used.calls kj10 _ _ l0 a1 (wrap64 (x15_2 * a4)) ji16 t281 t282 t283 _ ?side1 ?side2 A17.out).mono ?_); (case side1 => repeat (first | exact (Kd.C_below HR0.out HB.out) | (with_reducible refine Kd.C_alloc ?_ _) | (with_reducible refine Kd.C_drewN ?_ _) | (with_reducible refine Kd.C_drew ?_))); (case side2 => exact HC0.out); rintro e w33 ⟨rfl, hb⟩; refine ⟨_, rfl, ?_⟩; have n0_ := Aside0.mk (Kd.R_below (by (with_reducible repeat (first | apply Kd.R_alloc | apply Kd.R_drewN | apply Kd.R_drew)); exact HO_13.out) hb); have n1_ := Aside0.mk (below_step (by repeat (first | (with_reducible first | exact HB.out | apply below_alloc | apply pw_below_drewN | apply below_drew1) | exact HB.out)) hb); clear HO_13; clear HB; have HO_13 := n0_; have HB := n1_; clear n0_ n1_; (try clear hb); (try clear hb2); (try clear hk); (try clear hi)) | ((with_reducible refine gate_builtin (b := .append) (xs := #[.tmp 81, .tmp 83]) rfl ?_); at_builtin; refine Kd.R_append (Kd.int .i64) (w0 := w) w.heap.size rfl (.tmp 81) (.tmp 83) 22 2 (.int .i64 0) 8 rfl Try.underlying22 info2 rfl (by decide) (by omega) (.slice Ao32 x13_2.length co32) x13_2 t281 [.int .i64 t281] (fun _ => True) (fun _ => False) rfl rfl ?aP (fun _ hk => hk.elim) ?aF ?aO ?aB ?aS ?aL ?_; (case aP => exact rfl); (case aB => exact (by repeat (first | (with_reducible first | exact HB.out | apply below_alloc | apply pw_below_drewN | apply below_drew1) | exact HB.out))); (case aF => exact (fun _ _ => trivial)); (case aO => exact (by (with_reducible repeat (first | apply Kd.R_alloc | apply Kd.R_drewN | apply Kd.R_drew)); exact HO_13.out)); (case aS => exact (below_size (by repeat (first | (with_reducible first | exact HB.out | apply below_alloc | apply pw_below_drewN | apply below_drew1) | exact HB.out)))); (case aL => have := LMc30.out; omega); intro v290 w34 ho hb hg hat; rw [← Ny289.out] at ho; have n0_ := Aside0.mk (hb); have n1_ := Aside0.mk (ho); clear HB; clear HO_13; have HB := n0_; have HO291 := n1_; clear n0_ n1_; clear ho hb hg hat))
              go_roundg kj10
              case measure => have := HJ5.out; have := HK2.out; have := HJ10.out; omega
              case rel => exact ⟨(y289), (true), (wrap64 (x15_2 + 1)), (by first | rfl | (simp; done) | (simp [*]; done)), (by first | rfl | (simp; done) | (simp [*]; done)), H', ⟨by have := HJ5.out; have := HK2.out; have := HJ10.out; omega⟩, ⟨by (with_reducible repeat (first | apply Kd.R_alloc | apply Kd.R_drewN | apply Kd.R_drew)); exact HO291.out⟩, ⟨by repeat (first | (with_reducible first | exact HB.out | apply below_alloc | apply pw_below_drewN | apply below_drew1) | exact HB.out)⟩⟩
             ·replace c31 := Bool.eq_false_iff.mpr c31
              subst c31
              have H1 : (musterref27_Rollup.l0 kj10 l0 a1 a2 a3 a4 y289 t282 (wrap64 (x15_2 + 1))) = some (r1, r2, r3) := by rw [if_neg (show ¬ (false = true) by decide)] at H; exact H
              clear H
              have H := H1
              clear H1
              have H' := Aside0.mk H
              clear H
              obtain ⟨Ao35, co35, eo35⟩ := Kd.R_slice HO_13.out
              subst eo35
              go_wp2_with (first | ((with_reducible refine gate_callee (f := 32) rfl ?_); refine goesL_ (some 59) rfl rfl Try.func32 (by kernel_rfl) rfl #[.slice A0 l0.length c0, .string a1, .int .i64 (wrap64 (x15_2 * a4)), .int .i64 ji16] rfl (by (try simp only [List.map_toArray, List.map_cons, List.map_nil]); first | done | (simp only [hji16]; rfl) | rfl | (simp only [List.length_drop, List.length_take]; rfl)) ?_; (with_reducible refine (musterref27_Used.calls kj10 _ _ l0 a1 (wrap64 (x15_2 * a4)) ji16 t281 t282 t283 _ ?side1 ?side2 A17.out).mono ?_); (case side1 => repeat (first | exact (Kd.C_below HR0.out HB.out) | (with_reducible refine Kd.C_alloc ?_ _) | (with_reducible refine Kd.C_drewN ?_ _) | (with_reducible refine Kd.C_drew ?_))); (case side2 => exact HC0.out); rintro e w36 ⟨rfl, hb⟩; refine ⟨_, rfl, ?_⟩; have n0_ := Aside0.mk (Kd.R_below (by (with_reducible repeat (first | apply Kd.R_alloc | apply Kd.R_drewN | apply Kd.R_drew)); exact HO_13.out) hb); have n1_ := Aside0.mk (below_step (by repeat (first | (with_reducible first | exact HB.out | apply below_alloc | apply pw_below_drewN | apply below_drew1) | exact HB.out)) hb); clear HO_13; clear HB; have HO_13 := n0_; have HB := n1_; clear n0_ n1_; (try clear hb); (try clear hb2); (try clear hk); (try clear hi)) | ((with_reducible refine gate_builtin (b := .append) (xs := #[.tmp 81, .tmp 83]) rfl ?_); at_builtin; refine Kd.R_append (Kd.int .i64) (w0 := w) w.heap.size rfl (.tmp 81) (.tmp 83) 22 2 (.int .i64 0) 8 rfl Try.underlying22 info2 rfl (by decide) (by omega) (.slice Ao35 x13_2.length co35) x13_2 t281 [.int .i64 t281] (fun _ => True) (fun _ => False) rfl rfl ?aP (fun _ hk => hk.elim) ?aF ?aO ?aB ?aS ?aL ?_; (case aP => exact rfl); (case aB => exact (by repeat (first | (with_reducible first | exact HB.out | apply below_alloc | apply pw_below_drewN | apply below_drew1) | exact HB.out))); (case aF => exact (fun _ _ => trivial)); (case aO => exact (by (with_reducible repeat (first | apply Kd.R_alloc | apply Kd.R_drewN | apply Kd.R_drew)); exact HO_13.out)); (case aS => exact (below_size (by repeat (first | (with_reducible first | exact HB.out | apply below_alloc | apply pw_below_drewN | apply below_drew1) | exact HB.out)))); (case aL => have := LMc30.out; omega); intro v290 w37 ho hb hg hat; rw [← Ny289.out] at ho; have n0_ := Aside0.mk (hb); have n1_ := Aside0.mk (ho); clear HB; clear HO_13; have HB := n0_; have HO291 := n1_; clear n0_ n1_; clear ho hb hg hat))
              go_roundg kj10
              case measure => have := HJ5.out; have := HK2.out; have := HJ10.out; omega
              case rel => exact ⟨(y289), (t282), (wrap64 (x15_2 + 1)), (by first | rfl | (simp; done) | (simp [*]; done)), (by first | rfl | (simp; done) | (simp [*]; done)), H', ⟨by have := HJ5.out; have := HK2.out; have := HJ10.out; omega⟩, ⟨by (with_reducible repeat (first | apply Kd.R_alloc | apply Kd.R_drewN | apply Kd.R_drew)); exact HO291.out⟩, ⟨by repeat (first | (with_reducible first | exact HB.out | apply below_alloc | apply pw_below_drewN | apply below_drew1) | exact HB.out)⟩⟩
            ·rw [if_neg c30] at H
             exact absurd H (by simp)
         ·replace c13 := Bool.eq_false_iff.mpr c13
          subst c13
          have H1 : (some (x13_2, x14_2, 0)) = some (r1, r2, r3) := by rw [if_neg (show ¬ (false = true) by decide)] at H; exact H
          clear H
          have H := H1
          clear H1
          simp only [Option.some.injEq, Prod.mk.injEq] at H
          obtain ⟨rfl, rfl, rfl⟩ := H
          go_wp2
          go_ret3
          exact ⟨_, by first | rfl | (simp [errW_none, errW_some] <;> rfl) | (simp [*, errW_none, errW_some] <;> rfl), by (with_reducible repeat (first | apply Kd.R_alloc | apply Kd.R_drewN | apply Kd.R_drew)); exact HO_13.out, by repeat (first | (with_reducible first | exact HB.out | apply below_alloc | apply pw_below_drewN | apply below_drew1) | exact HB.out)⟩

end Go.Proofs.Ytinpgejkkfpckaa.Pr
