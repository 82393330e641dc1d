-- MINIFIED by wip/tools/minify.py
-- Written by this session's program wip/tools/pr.py out of the translation (with the kit's print.py). Not trusted: Lean checks it.
import Derived.Test.YtinpgejkkfpckaaPr0
import Derived.Test.YtinpgejkkfpckaaPr2
import Derived.Test.YtinpgejkkfpckaaPr11
import Derived.Test.YtinpgejkkfpckaaPr13
namespace Go.Proofs.Ytinpgejkkfpckaa.Pr
open Go.RowKit Go.Proofs.YtinpgejkkfpckaaW.PrintWords Go.Proofs.YtinpgejkkfpckaaW.PrintLast Go.Proofs.YtinpgejkkfpckaaW.PrintMore
attribute [local go_sem] max2_int min2_int max_two min_two max_three min_three max_four min_four   -- for this text's walks alone
set_option linter.unusedVariables false
set_option linter.unusedSimpArgs false

/-! ### musterref27_Used: function 32 -/
mutual
def musterref27_Used.j0 : Nat → List (S36) → ByteArray → Int → Int → Bool → Option (Int × Bool × Int)
 | 0, _, _, _, _, _ => none
 | k + 1, x0, x1, x2, x3, x29 => if x29 = true then (some (0, false, 2)) else ((musterref27_ids.f k x0).bind fun t237 => (musterref27_Used.l0 k x0 x1 x2 x3 t237 ([] : List Int) 0))
def musterref27_Used.l0 : Nat → List (S36) → ByteArray → Int → Int → List Int → List Int → Int → Option (Int × Bool × Int)
 | 0, _, _, _, _, _, _, _ => none
 | k + 1, x0, x1, x2, x3, x11, x12, x13 => if x13 < (x11.length : Int) then (if 0 ≤ x13 then ((musterref27_run.f k x0 (rd x11 x13)).bind fun bt243 => (if x1.toList = ([] : List UInt8) then (musterref27_Used.j2 k x0 x1 x2 x3 x11 x12 x13 (decide (bt243.2.2.2.2.2.2.2.1 < 0)) bt243.1 bt243.2.1 bt243.2.2.1 bt243.2.2.2.1 bt243.2.2.2.2.1 bt243.2.2.2.2.2.1 bt243.2.2.2.2.2.2.1 bt243.2.2.2.2.2.2.2.1 bt243.2.2.2.2.2.2.2.2) else (if bt243.2.1.toList = x1.toList then (musterref27_Used.j2 k x0 x1 x2 x3 x11 x12 x13 (decide (bt243.2.2.2.2.2.2.2.1 < 0)) bt243.1 bt243.2.1 bt243.2.2.1 bt243.2.2.2.1 bt243.2.2.2.2.1 bt243.2.2.2.2.2.1 bt243.2.2.2.2.2.2.1 bt243.2.2.2.2.2.2.2.1 bt243.2.2.2.2.2.2.2.2) else (musterref27_Used.j2 k x0 x1 x2 x3 x11 x12 x13 true bt243.1 bt243.2.1 bt243.2.2.1 bt243.2.2.2.1 bt243.2.2.2.2.1 bt243.2.2.2.2.2.1 bt243.2.2.2.2.2.2.1 bt243.2.2.2.2.2.2.2.1 bt243.2.2.2.2.2.2.2.2)))) else (none)) else ((musterref27_Sum.f k x12).bind fun bt240 => (some (bt240.1, bt240.2, 0)))
def musterref27_Used.j2 : Nat → List (S36) → ByteArray → Int → Int → List Int → List Int → Int → Bool → Int → ByteArray → ByteArray → Int → Int → Int → Int → Int → Int → Option (Int × Bool × Int)
 | 0, _, _, _, _, _, _, _, _, _, _, _, _, _, _, _, _, _ => none
 | k + 1, x0, x1, x2, x3, x11, x12, x13, x56, x253000, x253001, x253002, x253003, x253004, x253005, x253006, x253007, x253008 => if x56 = true then (musterref27_Used.l0 k x0 x1 x2 x3 x11 x12 (wrap64 (x13 + 1))) else (if x253008 ≥ 0 then (musterref27_Used.j3 k x0 x1 x2 x3 x11 x12 x13 (mx x2 x253007) x3 (decide (x253008 < x3)) x253000 x253001 x253002 x253003 x253004 x253005 x253006 x253007 x253008) else (musterref27_Used.j3 k x0 x1 x2 x3 x11 x12 x13 (mx x2 x253007) x3 false x253000 x253001 x253002 x253003 x253004 x253005 x253006 x253007 x253008))
def musterref27_Used.j3 : Nat → List (S36) → ByteArray → Int → Int → List Int → List Int → Int → Int → Int → Bool → Int → ByteArray → ByteArray → Int → Int → Int → Int → Int → Int → Option (Int × Bool × Int)
 | 0, _, _, _, _, _, _, _, _, _, _, _, _, _, _, _, _, _, _, _ => none
 | k + 1, x0, x1, x2, x3, x11, x12, x13, x15, x16, x70, x253000, x253001, x253002, x253003, x253004, x253005, x253006, x253007, x253008 => if x70 = true then (if x253008 > x15 then (if x12.length < 17592186044416 then (musterref27_Used.l0 k x0 x1 x2 x3 x11 (x12 ++ [wrap64 ((wrap64 (x253008 - x15)) * (wrap64 (x253003 * x253004)))]) (wrap64 (x13 + 1))) else (none)) else (musterref27_Used.l0 k x0 x1 x2 x3 x11 x12 (wrap64 (x13 + 1)))) else (if x16 > x15 then (if x12.length < 17592186044416 then (musterref27_Used.l0 k x0 x1 x2 x3 x11 (x12 ++ [wrap64 ((wrap64 (x16 - x15)) * (wrap64 (x253003 * x253004)))]) (wrap64 (x13 + 1))) else (none)) else (musterref27_Used.l0 k x0 x1 x2 x3 x11 x12 (wrap64 (x13 + 1))))
end
def musterref27_Used.f (k : Nat) (l0 : List (S36)) (a1 : ByteArray) (a2 : Int) (a3 : Int) : Option (Int × Bool × Int) := if a2 < 0 then (musterref27_Used.j0 k l0 a1 a2 a3 true) else (if a2 > a3 then (musterref27_Used.j0 k l0 a1 a2 a3 true) else (musterref27_Used.j0 k l0 a1 a2 a3 (decide (a3 > 1099511627776))))
theorem musterref27_Used.mono_l : ∀ k, (∀ y0 y1 y2 y3 y4, LeO (musterref27_Used.j0 k y0 y1 y2 y3 y4) (musterref27_Used.j0 (k + 1) y0 y1 y2 y3 y4)) ∧ (∀ y0 y1 y2 y3 y4 y5 y6, LeO (musterref27_Used.l0 k y0 y1 y2 y3 y4 y5 y6) (musterref27_Used.l0 (k + 1) y0 y1 y2 y3 y4 y5 y6)) ∧ (∀ y0 y1 y2 y3 y4 y5 y6 y7 y8 y9 y10 y11 y12 y13 y14 y15 y16, LeO (musterref27_Used.j2 k y0 y1 y2 y3 y4 y5 y6 y7 y8 y9 y10 y11 y12 y13 y14 y15 y16) (musterref27_Used.j2 (k + 1) y0 y1 y2 y3 y4 y5 y6 y7 y8 y9 y10 y11 y12 y13 y14 y15 y16)) ∧ (∀ y0 y1 y2 y3 y4 y5 y6 y7 y8 y9 y10 y11 y12 y13 y14 y15 y16 y17 y18, LeO (musterref27_Used.j3 k y0 y1 y2 y3 y4 y5 y6 y7 y8 y9 y10 y11 y12 y13 y14 y15 y16 y17 y18) (musterref27_Used.j3 (k + 1) y0 y1 y2 y3 y4 y5 y6 y7 y8 y9 y10 y11 y12 y13 y14 y15 y16 y17 y18))
 | 0 => ⟨fun _ _ _ _ _ r h => by simp [musterref27_Used.j0] at h, fun _ _ _ _ _ _ _ r h => by simp [musterref27_Used.l0] at h, fun _ _ _ _ _ _ _ _ _ _ _ _ _ _ _ _ _ r h => by simp [musterref27_Used.j2] at h, fun _ _ _ _ _ _ _ _ _ _ _ _ _ _ _ _ _ _ _ r h => by simp [musterref27_Used.j3] at h⟩
 | k + 1 => by
  obtain ⟨ih0, ih1, ih2, ih3⟩ := musterref27_Used.mono_l k
  refine ⟨?_, ?_, ?_, ?_⟩
  ·intro y0 y1 y2 y3 y4
   unfold musterref27_Used.j0
   repeat' first
   | (with_reducible exact ih0 _ _ _ _ _)
   | (with_reducible exact ih1 _ _ _ _ _ _ _)
   | (with_reducible exact ih2 _ _ _ _ _ _ _ _ _ _ _ _ _ _ _ _ _)
   | (with_reducible exact ih3 _ _ _ _ _ _ _ _ _ _ _ _ _ _ _ _ _ _ _)
   | (with_reducible exact musterref27_Sum.mono _ _)
   | (with_reducible exact musterref27_ids.mono _ _)
   | (with_reducible exact musterref27_run.mono _ _ _)
   | (with_reducible exact LeO.refl _)
   | (with_reducible exact LeO.none _)
   | (with_reducible refine LeO.ite ?_ ?_)
   | (with_reducible refine LeO.bind ?_ (fun _ => ?_))
   | exact ih0 _ _ _ _ _
   | exact ih1 _ _ _ _ _ _ _
   | exact ih2 _ _ _ _ _ _ _ _ _ _ _ _ _ _ _ _ _
   | exact ih3 _ _ _ _ _ _ _ _ _ _ _ _ _ _ _ _ _ _ _
   | exact musterref27_Sum.mono _ _
   | exact musterref27_ids.mono _ _
   | exact musterref27_run.mono _ _ _
   | exact LeO.none _
   | refine LeO.ite ?_ ?_
   | refine LeO.bind ?_ (fun _ => ?_)
  ·intro y0 y1 y2 y3 y4 y5 y6
   unfold musterref27_Used.l0
   repeat' first
   | (with_reducible exact ih0 _ _ _ _ _)
   | (with_reducible exact ih1 _ _ _ _ _ _ _)
   | (with_reducible exact ih2 _ _ _ _ _ _ _ _ _ _ _ _ _ _ _ _ _)
   | (with_reducible exact ih3 _ _ _ _ _ _ _ _ _ _ _ _ _ _ _ _ _ _ _)
   | (with_reducible exact musterref27_Sum.mono _ _)
   | (with_reducible exact musterref27_ids.mono _ _)
   | (with_reducible exact musterref27_run.mono _ _ _)
   | (with_reducible exact LeO.refl _)
   | (with_reducible exact LeO.none _)
   | (with_reducible refine LeO.ite ?_ ?_)
   | (with_reducible refine LeO.bind ?_ (fun _ => ?_))
   | exact ih0 _ _ _ _ _
   | exact ih1 _ _ _ _ _ _ _
   | exact ih2 _ _ _ _ _ _ _ _ _ _ _ _ _ _ _ _ _
   | exact ih3 _ _ _ _ _ _ _ _ _ _ _ _ _ _ _ _ _ _ _
   | exact musterref27_Sum.mono _ _
   | exact musterref27_ids.mono _ _
   | exact musterref27_run.mono _ _ _
   | exact LeO.none _
   | refine LeO.ite ?_ ?_
   | refine LeO.bind ?_ (fun _ => ?_)
  ·intro y0 y1 y2 y3 y4 y5 y6 y7 y8 y9 y10 y11 y12 y13 y14 y15 y16
   unfold musterref27_Used.j2
   repeat' first
   | (with_reducible exact ih0 _ _ _ _ _)
   | (with_reducible exact ih1 _ _ _ _ _ _ _)
   | (with_reducible exact ih2 _ _ _ _ _ _ _ _ _ _ _ _ _ _ _ _ _)
   | (with_reducible exact ih3 _ _ _ _ _ _ _ _ _ _ _ _ _ _ _ _ _ _ _)
   | (with_reducible exact musterref27_Sum.mono _ _)
   | (with_reducible exact musterref27_ids.mono _ _)
   | (with_reducible exact musterref27_run.mono _ _ _)
   | (with_reducible exact LeO.refl _)
   | (with_reducible exact LeO.none _)
   | (with_reducible refine LeO.ite ?_ ?_)
   | (with_reducible refine LeO.bind ?_ (fun _ => ?_))
   | exact ih0 _ _ _ _ _
   | exact ih1 _ _ _ _ _ _ _
   | exact ih2 _ _ _ _ _ _ _ _ _ _ _ _ _ _ _ _ _
   | exact ih3 _ _ _ _ _ _ _ _ _ _ _ _ _ _ _ _ _ _ _
   | exact musterref27_Sum.mono _ _
   | exact musterref27_ids.mono _ _
   | exact musterref27_run.mono _ _ _
   | exact LeO.none _
   | refine LeO.ite ?_ ?_
   | refine LeO.bind ?_ (fun _ => ?_)
  ·intro y0 y1 y2 y3 y4 y5 y6 y7 y8 y9 y10 y11 y12 y13 y14 y15 y16 y17 y18
   unfold musterref27_Used.j3
   repeat' first
   | (with_reducible exact ih0 _ _ _ _ _)
   | (with_reducible exact ih1 _ _ _ _ _ _ _)
   | (with_reducible exact ih2 _ _ _ _ _ _ _ _ _ _ _ _ _ _ _ _ _)
   | (with_reducible exact ih3 _ _ _ _ _ _ _ _ _ _ _ _ _ _ _ _ _ _ _)
   | (with_reducible exact musterref27_Sum.mono _ _)
   | (with_reducible exact musterref27_ids.mono _ _)
   | (with_reducible exact musterref27_run.mono _ _ _)
   | (with_reducible exact LeO.refl _)
   | (with_reducible exact LeO.none _)
   | (with_reducible refine LeO.ite ?_ ?_)
   | (with_reducible refine LeO.bind ?_ (fun _ => ?_))
   | exact ih0 _ _ _ _ _
   | exact ih1 _ _ _ _ _ _ _
   | exact ih2 _ _ _ _ _ _ _ _ _ _ _ _ _ _ _ _ _
   | exact ih3 _ _ _ _ _ _ _ _ _ _ _ _ _ _ _ _ _ _ _
   | exact musterref27_Sum.mono _ _
   | exact musterref27_ids.mono _ _
   | exact musterref27_run.mono _ _ _
   | exact LeO.none _
   | refine LeO.ite ?_ ?_
   | refine LeO.bind ?_ (fun _ => ?_)
theorem musterref27_Used.mono : ∀ a0 a1 a2 a3 k, LeO (musterref27_Used.f k a0 a1 a2 a3) (musterref27_Used.f (k + 1) a0 a1 a2 a3) := by
 intro a0 a1 a2 a3 k
 obtain ⟨ih0, ih1, ih2, ih3⟩ := musterref27_Used.mono_l k
 unfold musterref27_Used.f
 repeat' first
   | (with_reducible exact ih0 _ _ _ _ _)
   | (with_reducible exact ih1 _ _ _ _ _ _ _)
   | (with_reducible exact ih2 _ _ _ _ _ _ _ _ _ _ _ _ _ _ _ _ _)
   | (with_reducible exact ih3 _ _ _ _ _ _ _ _ _ _ _ _ _ _ _ _ _ _ _)
   | (with_reducible exact musterref27_Sum.mono _ _)
   | (with_reducible exact musterref27_ids.mono _ _)
   | (with_reducible exact musterref27_run.mono _ _ _)
   | (with_reducible exact LeO.refl _)
   | (with_reducible exact LeO.none _)
   | (with_reducible refine LeO.ite ?_ ?_)
   | (with_reducible refine LeO.bind ?_ (fun _ => ?_))
   | exact ih0 _ _ _ _ _
   | exact ih1 _ _ _ _ _ _ _
   | exact ih2 _ _ _ _ _ _ _ _ _ _ _ _ _ _ _ _ _
   | exact ih3 _ _ _ _ _ _ _ _ _ _ _ _ _ _ _ _ _ _ _
   | exact musterref27_Sum.mono _ _
   | exact musterref27_ids.mono _ _
   | exact musterref27_run.mono _ _ _
   | exact LeO.none _
   | refine LeO.ite ?_ ?_
   | refine LeO.bind ?_ (fun _ => ?_)
set_option maxHeartbeats 8000000 in
set_option maxRecDepth 100000 in
theorem musterref27_Used.calls (k : Nat) (A0 : Option Addr) (c0 : Nat) (l0 : List (S36)) (a1 : ByteArray) (a2 : Int) (a3 : Int) (r1 : Int) (r2 : Bool) (r3 : Int) (w : World) (hr0 : Kd.C k36 w A0 l0.length l0) (hc0 : l0.length ≤ c0) (h : musterref27_Used.f k l0 a1 a2 a3 = some (r1, r2, r3)) :
  Calls Try.prog 32 #[.slice A0 l0.length c0, .string a1, .int .i64 a2, .int .i64 a3] w fun e w' => e = .returned (.tuple #[.int .i64 r1, .bool r2, .int .i64 r3]) ∧ Below w.heap.size w w' := by
 have hu56 := Try.underlying56
 have HR0 := Aside0.mk hr0
 have HC0 := Aside0.mk hc0
 clear hr0 hc0
 have HB := Aside0.mk (Below.refl w.heap.size w)
 have H : (if a2 < 0 then (musterref27_Used.j0 k l0 a1 a2 a3 true) else (if a2 > a3 then (musterref27_Used.j0 k l0 a1 a2 a3 true) else (musterref27_Used.j0 k l0 a1 a2 a3 (decide (a3 > 1099511627776))))) = some (r1, r2, r3) := h
 clear h
 have HC5 := Aside0.mk H
 clear H
 go_enter Try.func32, Try.ntmps32
 go_upto_region 1 with (fail)
 go_cut [29] (fun v29 wc => ∃ (kq : Nat) (x29_4 : Bool), v29 = .bool x29_4 ∧ Aside0 (musterref27_Used.j0 kq l0 a1 a2 a3 x29_4 = some (r1, r2, r3)) ∧ Aside0 (kq ≤ k) ∧ Aside0 (Below w.heap.size w wc))
 case first =>
  have H := HC5.out
  clear HC5
  by_cases c6 : a2 < 0
  ·rw [if_pos c6] at H
   have c6b0 : decide (a2 < 0) = true := decide_eq_true c6
   clear c6
   (first | rw [c6b0] | (simp only [i64_w, i32_w]; rw [c6b0]) | skip)
   have H' := Aside0.mk H
   clear H
   go_wp2
   go_meet
   case rel => exact ⟨_, (true), (by first | rfl | (simp; done) | (simp [*]; done)), H', ⟨by first | omega | exact Nat.le_refl _⟩, ⟨by repeat (first | (with_reducible first | exact HB.out | apply below_alloc | apply pw_below_drewN | apply below_drew1) | exact HB.out)⟩⟩
  ·rw [if_neg c6] at H
   have c6b0 : decide (a2 < 0) = false := decide_eq_false c6
   clear c6
   (first | rw [c6b0] | (simp only [i64_w, i32_w]; rw [c6b0]) | skip)
   by_cases c7 : a2 > a3
   ·rw [if_pos c7] at H
    have c7b0 : decide (a3 < a2) = true := decide_eq_true c7
    clear c7
    have H' := Aside0.mk H
    clear H
    go_wp2
    go_meet
    case rel => exact ⟨_, (true), (by first | rfl | (simp; done) | (simp [*]; done)), H', ⟨by first | omega | exact Nat.le_refl _⟩, ⟨by repeat (first | (with_reducible first | exact HB.out | apply below_alloc | apply pw_below_drewN | apply below_drew1) | exact HB.out)⟩⟩
   ·rw [if_neg c7] at H
    have c7b0 : decide (a3 < a2) = false := decide_eq_false c7
    clear c7
    have H' := Aside0.mk H
    clear H
    go_wp2
    go_meet
    case rel => exact ⟨_, (decide (a3 > 1099511627776)), (by first | rfl | (simp; done) | (simp [*]; done)), H', ⟨by first | omega | exact Nat.le_refl _⟩, ⟨by repeat (first | (with_reducible first | exact HB.out | apply below_alloc | apply pw_below_drewN | apply below_drew1) | exact HB.out)⟩⟩
 case rest =>
  clear HC5
  try clear p2
  try clear c3
  try clear c6
  try clear c6b0
  try clear c7
  try clear c7b0
  obtain ⟨kq, x29_4, rfl, HA, HJ4, HB⟩ := hcut
  cases kq with
  | zero => exact absurd HA.out (by simp [musterref27_Used.j0])
  | succ kj4 =>
   have H := HA.out
   clear HA
   simp only [musterref27_Used.j0] at H
   by_cases c8 : x29_4 = true
   ·subst c8
    have H1 : (some (0, false, 2)) = some (r1, r2, r3) := by rw [if_pos rfl] at H; exact H
    clear H
    have H := H1
    clear H1
    simp only [Option.some.injEq, Prod.mk.injEq] at H
    obtain ⟨rfl, rfl, rfl⟩ := H
    go_wp2
    go_ret3
    exact ⟨by first | rfl | (simp [errW_none, errW_some] <;> rfl) | (simp [*, errW_none, errW_some] <;> rfl), by repeat (first | (with_reducible first | exact HB.out | apply below_alloc | apply pw_below_drewN | apply below_drew1) | exact HB.out)⟩
   ·replace c8 := Bool.eq_false_iff.mpr c8
    subst c8
    have H1 : ((musterref27_ids.f kj4 l0).bind fun t237 => (musterref27_Used.l0 kj4 l0 a1 a2 a3 t237 ([] : List Int) 0)) = some (r1, r2, r3) := by rw [if_neg (show ¬ (false = true) by decide)] at H; exact H
    clear H
    have H := H1
    clear H1
    replace H := Option.bind_eq_some_iff.mp H
    obtain ⟨t237, A90, H⟩ := H
    replace H : (musterref27_Used.l0 kj4 l0 a1 a2 a3 t237 ([] : List Int) 0) = some (r1, r2, r3) := H
    have A9 := Aside0.mk A90
    clear A90
    have H' := Aside0.mk H
    clear H
    go_wp2_with (first | ((with_reducible refine gate_callee (f := 45) rfl ?_); refine goesL_ (some 31) rfl rfl Try.func45 (by kernel_rfl) rfl #[.slice A0 l0.length c0] rfl (by (try simp only [List.map_toArray, List.map_cons, List.map_nil]); first | done | rfl | (simp only [List.length_drop, List.length_take]; rfl)) ?_; (with_reducible refine (musterref27_ids.calls kj4 _ _ l0 t237 _ ?side1 ?side2 A9.out).mono ?_); (case side1 => repeat (first | exact (Kd.C_below HR0.out HB.out) | (with_reducible refine Kd.C_alloc ?_ _) | (with_reducible refine Kd.C_drewN ?_ _) | (with_reducible refine Kd.C_drew ?_))); (case side2 => exact HC0.out); rintro e w10 ⟨v238, rfl, ho0, hb⟩; refine ⟨_, rfl, ?_⟩; have n0_ := Aside0.mk (Kd.R_lower ho0 (below_size (by repeat (first | (with_reducible first | exact HB.out | apply below_alloc | apply pw_below_drewN | apply below_drew1) | exact HB.out)))); have n1_ := Aside0.mk (below_step (by repeat (first | (with_reducible first | exact HB.out | apply below_alloc | apply pw_below_drewN | apply below_drew1) | exact HB.out)) hb); clear HB; have HO239 := n0_; have HB := n1_; clear n0_ n1_; (try clear hb); (try clear hb2); (try clear hk); (try clear hi); (try clear ho0)))
    go_loopg [12, 13] kj4 (fun kq v12 v13 w' => ∃ (x12_2 : List Int) (x13_2 : Int), v13 = .int .i64 x13_2 ∧ Aside0 (musterref27_Used.l0 kq l0 a1 a2 a3 t237 x12_2 x13_2 = some (r1, r2, r3)) ∧ Aside0 (kq ≤ kj4) ∧ Aside0 (Kd.R (Kd.int .i64) 3 w' w.heap.size (fun _ => True) v238 t237) ∧ Aside0 (Kd.R (Kd.int .i64) 2 w' w.heap.size (fun _ => True) v12 x12_2) ∧ Aside0 (Below w.heap.size w w'))
    case atStart => exact ⟨(([] : List Int)), (0), (by first | rfl | (simp; done) | (simp [*]; done)), H', ⟨Nat.le_refl _⟩, ⟨by (with_reducible repeat (first | apply Kd.R_alloc | apply Kd.R_drewN | apply Kd.R_drew)); exact HO239.out⟩, ⟨by first | exact Kd.R_nil _ _ _ _ _ | exact Kd.N_nil _ _ _ _ _ | exact Kd.V_nil _ _ _ _ _ | exact Kd.Q_nil _ _ _ _ _ | exact Kd.S_nil _ _ _ _ _⟩, ⟨by repeat (first | (with_reducible first | exact HB.out | apply below_alloc | apply pw_below_drewN | apply below_drew1) | exact HB.out)⟩⟩
    case round =>
     clear H'
     try clear p2
     try clear c3
     try clear c4
     try clear c6
     try clear c6b0
     try clear c7
     try clear c7b0
     try clear c8
     try clear p2
     obtain ⟨x12_2, x13_2, rfl, HA, HK2, HO_11, HO_12, HB⟩ := hrel
     cases gk with
     | zero => exact absurd HA.out (by simp [musterref27_Used.l0])
     | succ k2 =>
      have H := HA.out
      clear HA
      simp only [musterref27_Used.l0] at H
      by_cases c11 : x13_2 < (t237.length : Int)
      ·rw [if_pos c11] at H
       have c11b0 : decide (x13_2 < (t237.length : Int)) = true := decide_eq_true c11
       clear c11
       by_cases c12 : 0 ≤ x13_2
       ·rw [if_pos c12] at H
        have c12b0 : decide (0 ≤ x13_2) = true := decide_eq_true c12
        clear c12
        replace H := Option.bind_eq_some_iff.mp H
        obtain ⟨⟨t243, t244, t245, t246, t247, t248, t249, t250, t251⟩, A130, H⟩ := H
        replace H : (if a1.toList = ([] : List UInt8) then (musterref27_Used.j2 k2 l0 a1 a2 a3 t237 x12_2 x13_2 (decide (t250 < 0)) t243 t244 t245 t246 t247 t248 t249 t250 t251) else (if t244.toList = a1.toList then (musterref27_Used.j2 k2 l0 a1 a2 a3 t237 x12_2 x13_2 (decide (t250 < 0)) t243 t244 t245 t246 t247 t248 t249 t250 t251) else (musterref27_Used.j2 k2 l0 a1 a2 a3 t237 x12_2 x13_2 true t243 t244 t245 t246 t247 t248 t249 t250 t251))) = some (r1, r2, r3) := H
        have A13 := Aside0.mk A130
        clear A130
        have HC14 := Aside0.mk H
        clear H
        obtain ⟨Ao15, co15, eo15⟩ := Kd.R_slice HO_11.out
        subst eo15
        have p242 : 0 ≤ (x13_2 : Int) := of_decide_eq_true (by first | (with_reducible assumption) | assumption)
        have q242 : x13_2 < (t237.length : Int) := of_decide_eq_true (by first | (with_reducible assumption) | assumption)
        obtain ⟨ad242, e242, hx242_0⟩ := Kd.at_int (Kd.R_reads' HO_11.out).2.2 x13_2 p242 q242
        cases e242
        replace p242 := eq_true p242
        replace q242 := eq_true q242
        go_upto_region 9 with (first | ((with_reducible refine gate_callee (f := 46) rfl ?_); refine goesL_ (some 43) rfl rfl Try.func46 (by kernel_rfl) rfl #[.slice A0 l0.length c0, .int .i64 (rd t237 x13_2)] rfl (by (try simp only [List.map_toArray, List.map_cons, List.map_nil]); first | done | rfl | (simp only [List.length_drop, List.length_take]; rfl)) ?_; (with_reducible refine (musterref27_run.calls k2 _ _ l0 (rd t237 x13_2) t243 t244 t245 t246 t247 t248 t249 t250 t251 _ ?side1 ?side2 A13.out).mono ?_); (case side1 => repeat (first | exact (Kd.C_below HR0.out HB.out) | (with_reducible refine Kd.C_alloc ?_ _) | (with_reducible refine Kd.C_drewN ?_ _) | (with_reducible refine Kd.C_drew ?_))); (case side2 => exact HC0.out); rintro e w16 ⟨rfl, hb⟩; refine ⟨_, rfl, ?_⟩; have n0_ := Aside0.mk (Kd.R_below (by (with_reducible repeat (first | apply Kd.R_alloc | apply Kd.R_drewN | apply Kd.R_drew)); exact HO_11.out) hb); have n1_ := Aside0.mk (Kd.R_below (by (with_reducible repeat (first | apply Kd.R_alloc | apply Kd.R_drewN | apply Kd.R_drew)); exact HO_12.out) hb); have n2_ := Aside0.mk (below_step (by repeat (first | (with_reducible first | exact HB.out | apply below_alloc | apply pw_below_drewN | apply below_drew1) | exact HB.out)) hb); clear HO_11; clear HO_12; clear HB; have HO_11 := n0_; have HO_12 := n1_; have HB := n2_; clear n0_ n1_ n2_; (try clear hb); (try clear hb2); (try clear hk); (try clear hi)) | ((with_reducible refine gate_dst (N := 14) rfl ?_); refine box_event ?hg (N := 14) ?hd (cs := #[.int .i64 0, .string (⟨#[]⟩ : ByteArray), .string (⟨#[]⟩ : ByteArray), .int .i64 0, .int .i64 0, .int .u8 0, .int .i64 0, .int .i64 0, .int .i64 0]) (t := 56) ?hr ?_; (case hd => rfl); (case hg => rfl); (case hr => first | (go_simp; done) | (go_simp; rfl)); intro gb252 hg w17 hbox hb; have n0_ := Aside0.mk (Kd.R_below (by (with_reducible repeat (first | apply Kd.R_alloc | apply Kd.R_drewN | apply Kd.R_drew)); exact HO_11.out) hb); have n1_ := Aside0.mk (Kd.R_below (by (with_reducible repeat (first | apply Kd.R_alloc | apply Kd.R_drewN | apply Kd.R_drew)); exact HO_12.out) hb); have n2_ := Aside0.mk (below_step (by repeat (first | (with_reducible first | exact HB.out | apply below_alloc | apply pw_below_drewN | apply below_drew1) | exact HB.out)) hb); have n3_ := Aside0.mk (hbox); have n4_ := Aside0.mk ((by rw [hg]; exact (below_size (by repeat (first | (with_reducible first | exact HB.out | apply below_alloc | apply pw_below_drewN | apply below_drew1) | exact HB.out))) : w.heap.size ≤ gb252)); have n5_ := Aside0.mk ((by rw [hg]; exact (below_size (by repeat (first | (with_reducible first | exact HB.out | apply below_alloc | apply pw_below_drewN | apply below_drew1) | exact HB.out))) : w.heap.size ≤ gb252)); clear HO_11; clear HO_12; clear HB; have HO_11 := n0_; have HO_12 := n1_; have HB := n2_; have BK252 := n3_; have GW252 := n4_; have GE252 := n5_; clear n0_ n1_ n2_ n3_ n4_ n5_; clear hb hbox hg; have hcz18_0 : w17.cell? ⟨gb252, 0, none⟩ = some (.int .i64 0) := (blk_cell BK252.out 0).trans rfl; have hcz18_1 : w17.cell? ⟨gb252, 1, none⟩ = some (.string (⟨#[]⟩ : ByteArray)) := (blk_cell BK252.out 1).trans rfl; have hcz18_2 : w17.cell? ⟨gb252, 2, none⟩ = some (.string (⟨#[]⟩ : ByteArray)) := (blk_cell BK252.out 2).trans rfl; have hcz18_3 : w17.cell? ⟨gb252, 3, none⟩ = some (.int .i64 0) := (blk_cell BK252.out 3).trans rfl; have hcz18_4 : w17.cell? ⟨gb252, 4, none⟩ = some (.int .i64 0) := (blk_cell BK252.out 4).trans rfl; have hcz18_5 : w17.cell? ⟨gb252, 5, none⟩ = some (.int .u8 0) := (blk_cell BK252.out 5).trans rfl; have hcz18_6 : w17.cell? ⟨gb252, 6, none⟩ = some (.int .i64 0) := (blk_cell BK252.out 6).trans rfl; have hcz18_7 : w17.cell? ⟨gb252, 7, none⟩ = some (.int .i64 0) := (blk_cell BK252.out 7).trans rfl; have hcz18_8 : w17.cell? ⟨gb252, 8, none⟩ = some (.int .i64 0) := (blk_cell BK252.out 8).trans rfl; have hfz18_0 := blk_frozen BK252.out 0; have hfz18_1 := blk_frozen BK252.out 1; have hfz18_2 := blk_frozen BK252.out 2; have hfz18_3 := blk_frozen BK252.out 3; have hfz18_4 := blk_frozen BK252.out 4; have hfz18_5 := blk_frozen BK252.out 5; have hfz18_6 := blk_frozen BK252.out 6; have hfz18_7 := blk_frozen BK252.out 7; have hfz18_8 := blk_frozen BK252.out 8))
        (try simp only [Act.put, List.setIfInBounds_toArray, List.set_cons_zero, List.set_cons_succ])
        go_cut [56] (fun v56 wc => ∃ (kq : Nat) (x56_13 : Bool), v56 = .bool x56_13 ∧ Aside0 (musterref27_Used.j2 kq l0 a1 a2 a3 t237 x12_2 x13_2 x56_13 t243 t244 t245 t246 t247 t248 t249 t250 t251 = some (r1, r2, r3)) ∧ Aside0 (kq ≤ k2) ∧ Aside0 (Kd.R (Kd.int .i64) 3 wc w.heap.size (fun _ => True) (.slice (some ad242) t237.length co15) t237) ∧ Aside0 (Kd.R (Kd.int .i64) 2 wc w.heap.size (fun _ => True) u12 x12_2) ∧ Aside0 (wc.heap[gb252]? = some (.cells #[.int .i64 t243, .string t244, .string t245, .int .i64 t246, .int .i64 t247, .int .u8 t248, .int .i64 t249, .int .i64 t250, .int .i64 t251] 56 (0, 0))) ∧ Aside0 (Below w.heap.size w wc))
        case first =>
         have H := HC14.out
         clear HC14
         by_cases c19 : a1.toList = ([] : List UInt8)
         ·rw [if_pos c19] at H
          have c19b0 : (a1.toList == ([] : List UInt8)) = true := beq_iff_eq.mpr c19
          have c19b1 : (a1.toList != ([] : List UInt8)) = false := bne_eq_false_iff_eq.mpr c19
          clear c19
          (first | rw [c19b0] | (simp only [i64_w, i32_w]; rw [c19b0]) | skip)
          have H' := Aside0.mk H
          clear H
          have hcz20_0 : w17.cell? ⟨gb252, 0, none⟩ = some (.int .i64 0) := (blk_cell BK252.out 0).trans rfl
          have hcz20_1 : w17.cell? ⟨gb252, 1, none⟩ = some (.string (⟨#[]⟩ : ByteArray)) := (blk_cell BK252.out 1).trans rfl
          have hcz20_2 : w17.cell? ⟨gb252, 2, none⟩ = some (.string (⟨#[]⟩ : ByteArray)) := (blk_cell BK252.out 2).trans rfl
          have hcz20_3 : w17.cell? ⟨gb252, 3, none⟩ = some (.int .i64 0) := (blk_cell BK252.out 3).trans rfl
          have hcz20_4 : w17.cell? ⟨gb252, 4, none⟩ = some (.int .i64 0) := (blk_cell BK252.out 4).trans rfl
          have hcz20_5 : w17.cell? ⟨gb252, 5, none⟩ = some (.int .u8 0) := (blk_cell BK252.out 5).trans rfl
          have hcz20_6 : w17.cell? ⟨gb252, 6, none⟩ = some (.int .i64 0) := (blk_cell BK252.out 6).trans rfl
          have hcz20_7 : w17.cell? ⟨gb252, 7, none⟩ = some (.int .i64 0) := (blk_cell BK252.out 7).trans rfl
          have hcz20_8 : w17.cell? ⟨gb252, 8, none⟩ = some (.int .i64 0) := (blk_cell BK252.out 8).trans rfl
          have hfz20_0 := blk_frozen BK252.out 0
          have hfz20_1 := blk_frozen BK252.out 1
          have hfz20_2 := blk_frozen BK252.out 2
          have hfz20_3 := blk_frozen BK252.out 3
          have hfz20_4 := blk_frozen BK252.out 4
          have hfz20_5 := blk_frozen BK252.out 5
          have hfz20_6 := blk_frozen BK252.out 6
          have hfz20_7 := blk_frozen BK252.out 7
          have hfz20_8 := blk_frozen BK252.out 8
          go_wp2
          go_meet
          case rel => exact ⟨_, (decide (t250 < 0)), (by first | rfl | (simp; done) | (simp [*]; done)), H', ⟨by have := HJ4.out; have := HK2.out; first | omega | exact Nat.le_refl _⟩, ⟨by (with_reducible repeat (first | apply Kd.R_alloc | apply Kd.R_drewN | apply Kd.R_drew)); exact Kd.R_mono (Kd.R_far (p := ⟨gb252, 8, none⟩) (Kd.R_far (p := ⟨gb252, 7, none⟩) (Kd.R_far (p := ⟨gb252, 6, none⟩) (Kd.R_far (p := ⟨gb252, 5, none⟩) (Kd.R_far (p := ⟨gb252, 4, none⟩) (Kd.R_far (p := ⟨gb252, 3, none⟩) (Kd.R_far (p := ⟨gb252, 2, none⟩) (Kd.R_far (p := ⟨gb252, 1, none⟩) (Kd.R_far (p := ⟨gb252, 0, none⟩) (Kd.R_types HO_11.out BK252.out (by decide)) (fun _ hk => hk.2) (.int .i64 t243)) (fun _ hk => hk.2) (.string t244)) (fun _ hk => hk.2) (.string t245)) (fun _ hk => hk.2) (.int .i64 t246)) (fun _ hk => hk.2) (.int .i64 t247)) (fun _ hk => hk.2) (.int .u8 t248)) (fun _ hk => hk.2) (.int .i64 t249)) (fun _ hk => hk.2) (.int .i64 t250)) (fun _ hk => hk.2) (.int .i64 t251)) (fun _ hk => trivial)⟩, ⟨by (with_reducible repeat (first | apply Kd.R_alloc | apply Kd.R_drewN | apply Kd.R_drew)); exact Kd.R_mono (Kd.R_far (p := ⟨gb252, 8, none⟩) (Kd.R_far (p := ⟨gb252, 7, none⟩) (Kd.R_far (p := ⟨gb252, 6, none⟩) (Kd.R_far (p := ⟨gb252, 5, none⟩) (Kd.R_far (p := ⟨gb252, 4, none⟩) (Kd.R_far (p := ⟨gb252, 3, none⟩) (Kd.R_far (p := ⟨gb252, 2, none⟩) (Kd.R_far (p := ⟨gb252, 1, none⟩) (Kd.R_far (p := ⟨gb252, 0, none⟩) (Kd.R_types HO_12.out BK252.out (by decide)) (fun _ hk => hk.2) (.int .i64 t243)) (fun _ hk => hk.2) (.string t244)) (fun _ hk => hk.2) (.string t245)) (fun _ hk => hk.2) (.int .i64 t246)) (fun _ hk => hk.2) (.int .i64 t247)) (fun _ hk => hk.2) (.int .u8 t248)) (fun _ hk => hk.2) (.int .i64 t249)) (fun _ hk => hk.2) (.int .i64 t250)) (fun _ hk => hk.2) (.int .i64 t251)) (fun _ hk => trivial)⟩, ⟨by (with_reducible repeat (first | refine blk_drewN ?_ _ | refine blk_drew ?_ | refine blk_alloc ?_ _)); refine blk_put (cs := #[.int .i64 t243, .string t244, .string t245, .int .i64 t246, .int .i64 t247, .int .u8 t248, .int .i64 t249, .int .i64 t250, .int .i64 0]) ?_ 8 _ rfl; (with_reducible repeat (first | refine blk_drewN ?_ _ | refine blk_drew ?_ | refine blk_alloc ?_ _)); refine blk_put (cs := #[.int .i64 t243, .string t244, .string t245, .int .i64 t246, .int .i64 t247, .int .u8 t248, .int .i64 t249, .int .i64 0, .int .i64 0]) ?_ 7 _ rfl; (with_reducible repeat (first | refine blk_drewN ?_ _ | refine blk_drew ?_ | refine blk_alloc ?_ _)); refine blk_put (cs := #[.int .i64 t243, .string t244, .string t245, .int .i64 t246, .int .i64 t247, .int .u8 t248, .int .i64 0, .int .i64 0, .int .i64 0]) ?_ 6 _ rfl; (with_reducible repeat (first | refine blk_drewN ?_ _ | refine blk_drew ?_ | refine blk_alloc ?_ _)); refine blk_put (cs := #[.int .i64 t243, .string t244, .string t245, .int .i64 t246, .int .i64 t247, .int .u8 0, .int .i64 0, .int .i64 0, .int .i64 0]) ?_ 5 _ rfl; (with_reducible repeat (first | refine blk_drewN ?_ _ | refine blk_drew ?_ | refine blk_alloc ?_ _)); refine blk_put (cs := #[.int .i64 t243, .string t244, .string t245, .int .i64 t246, .int .i64 0, .int .u8 0, .int .i64 0, .int .i64 0, .int .i64 0]) ?_ 4 _ rfl; (with_reducible repeat (first | refine blk_drewN ?_ _ | refine blk_drew ?_ | refine blk_alloc ?_ _)); refine blk_put (cs := #[.int .i64 t243, .string t244, .string t245, .int .i64 0, .int .i64 0, .int .u8 0, .int .i64 0, .int .i64 0, .int .i64 0]) ?_ 3 _ rfl; (with_reducible repeat (first | refine blk_drewN ?_ _ | refine blk_drew ?_ | refine blk_alloc ?_ _)); refine blk_put (cs := #[.int .i64 t243, .string t244, .string (⟨#[]⟩ : ByteArray), .int .i64 0, .int .i64 0, .int .u8 0, .int .i64 0, .int .i64 0, .int .i64 0]) ?_ 2 _ rfl; (with_reducible repeat (first | refine blk_drewN ?_ _ | refine blk_drew ?_ | refine blk_alloc ?_ _)); refine blk_put (cs := #[.int .i64 t243, .string (⟨#[]⟩ : ByteArray), .string (⟨#[]⟩ : ByteArray), .int .i64 0, .int .i64 0, .int .u8 0, .int .i64 0, .int .i64 0, .int .i64 0]) ?_ 1 _ rfl; (with_reducible repeat (first | refine blk_drewN ?_ _ | refine blk_drew ?_ | refine blk_alloc ?_ _)); refine blk_put (cs := #[.int .i64 0, .string (⟨#[]⟩ : ByteArray), .string (⟨#[]⟩ : ByteArray), .int .i64 0, .int .i64 0, .int .u8 0, .int .i64 0, .int .i64 0, .int .i64 0]) ?_ 0 _ rfl; (with_reducible repeat (first | refine blk_drewN ?_ _ | refine blk_drew ?_ | refine blk_alloc ?_ _)); exact BK252.out⟩, ⟨by repeat (first | (with_reducible first | exact HB.out | apply below_alloc | apply pw_below_drewN | apply below_drew1 | refine below_set ?_ GE252.out) | exact HB.out)⟩⟩
         ·rw [if_neg c19] at H
          have c19b0 : (a1.toList == ([] : List UInt8)) = false := beq_eq_false_iff_ne.mpr c19
          have c19b1 : (a1.toList != ([] : List UInt8)) = true := bne_iff_ne.mpr c19
          (first | rw [c19b0] | (simp only [i64_w, i32_w]; rw [c19b0]) | skip)
          by_cases c21 : t244.toList = a1.toList
          ·rw [if_pos c21] at H
           have c21b0 : (t244.toList == a1.toList) = true := beq_iff_eq.mpr c21
           have c21b1 : (t244.toList != a1.toList) = false := bne_eq_false_iff_eq.mpr c21
           clear c21
           have H' := Aside0.mk H
           clear H
           have hcz22_0 : w17.cell? ⟨gb252, 0, none⟩ = some (.int .i64 0) := (blk_cell BK252.out 0).trans rfl
           have hcz22_1 : w17.cell? ⟨gb252, 1, none⟩ = some (.string (⟨#[]⟩ : ByteArray)) := (blk_cell BK252.out 1).trans rfl
           have hcz22_2 : w17.cell? ⟨gb252, 2, none⟩ = some (.string (⟨#[]⟩ : ByteArray)) := (blk_cell BK252.out 2).trans rfl
           have hcz22_3 : w17.cell? ⟨gb252, 3, none⟩ = some (.int .i64 0) := (blk_cell BK252.out 3).trans rfl
           have hcz22_4 : w17.cell? ⟨gb252, 4, none⟩ = some (.int .i64 0) := (blk_cell BK252.out 4).trans rfl
           have hcz22_5 : w17.cell? ⟨gb252, 5, none⟩ = some (.int .u8 0) := (blk_cell BK252.out 5).trans rfl
           have hcz22_6 : w17.cell? ⟨gb252, 6, none⟩ = some (.int .i64 0) := (blk_cell BK252.out 6).trans rfl
           have hcz22_7 : w17.cell? ⟨gb252, 7, none⟩ = some (.int .i64 0) := (blk_cell BK252.out 7).trans rfl
           have hcz22_8 : w17.cell? ⟨gb252, 8, none⟩ = some (.int .i64 0) := (blk_cell BK252.out 8).trans rfl
           have hfz22_0 := blk_frozen BK252.out 0
           have hfz22_1 := blk_frozen BK252.out 1
           have hfz22_2 := blk_frozen BK252.out 2
           have hfz22_3 := blk_frozen BK252.out 3
           have hfz22_4 := blk_frozen BK252.out 4
           have hfz22_5 := blk_frozen BK252.out 5
           have hfz22_6 := blk_frozen BK252.out 6
           have hfz22_7 := blk_frozen BK252.out 7
           have hfz22_8 := blk_frozen BK252.out 8
           go_wp2
           go_meet
           case rel => exact ⟨_, (decide (t250 < 0)), (by first | rfl | (simp; done) | (simp [*]; done)), H', ⟨by have := HJ4.out; have := HK2.out; first | omega | exact Nat.le_refl _⟩, ⟨by (with_reducible repeat (first | apply Kd.R_alloc | apply Kd.R_drewN | apply Kd.R_drew)); exact Kd.R_mono (Kd.R_far (p := ⟨gb252, 8, none⟩) (Kd.R_far (p := ⟨gb252, 7, none⟩) (Kd.R_far (p := ⟨gb252, 6, none⟩) (Kd.R_far (p := ⟨gb252, 5, none⟩) (Kd.R_far (p := ⟨gb252, 4, none⟩) (Kd.R_far (p := ⟨gb252, 3, none⟩) (Kd.R_far (p := ⟨gb252, 2, none⟩) (Kd.R_far (p := ⟨gb252, 1, none⟩) (Kd.R_far (p := ⟨gb252, 0, none⟩) (Kd.R_types HO_11.out BK252.out (by decide)) (fun _ hk => hk.2) (.int .i64 t243)) (fun _ hk => hk.2) (.string t244)) (fun _ hk => hk.2) (.string t245)) (fun _ hk => hk.2) (.int .i64 t246)) (fun _ hk => hk.2) (.int .i64 t247)) (fun _ hk => hk.2) (.int .u8 t248)) (fun _ hk => hk.2) (.int .i64 t249)) (fun _ hk => hk.2) (.int .i64 t250)) (fun _ hk => hk.2) (.int .i64 t251)) (fun _ hk => trivial)⟩, ⟨by (with_reducible repeat (first | apply Kd.R_alloc | apply Kd.R_drewN | apply Kd.R_drew)); exact Kd.R_mono (Kd.R_far (p := ⟨gb252, 8, none⟩) (Kd.R_far (p := ⟨gb252, 7, none⟩) (Kd.R_far (p := ⟨gb252, 6, none⟩) (Kd.R_far (p := ⟨gb252, 5, none⟩) (Kd.R_far (p := ⟨gb252, 4, none⟩) (Kd.R_far (p := ⟨gb252, 3, none⟩) (Kd.R_far (p := ⟨gb252, 2, none⟩) (Kd.R_far (p := ⟨gb252, 1, none⟩) (Kd.R_far (p := ⟨gb252, 0, none⟩) (Kd.R_types HO_12.out BK252.out (by decide)) (fun _ hk => hk.2) (.int .i64 t243)) (fun _ hk => hk.2) (.string t244)) (fun _ hk => hk.2) (.string t245)) (fun _ hk => hk.2) (.int .i64 t246)) (fun _ hk => hk.2) (.int .i64 t247)) (fun _ hk => hk.2) (.int .u8 t248)) (fun _ hk => hk.2) (.int .i64 t249)) (fun _ hk => hk.2) (.int .i64 t250)) (fun _ hk => hk.2) (.int .i64 t251)) (fun _ hk => trivial)⟩, ⟨by (with_reducible repeat (first | refine blk_drewN ?_ _ | refine blk_drew ?_ | refine blk_alloc ?_ _)); refine blk_put (cs := #[.int .i64 t243, .string t244, .string t245, .int .i64 t246, .int .i64 t247, .int .u8 t248, .int .i64 t249, .int .i64 t250, .int .i64 0]) ?_ 8 _ rfl; (with_reducible repeat (first | refine blk_drewN ?_ _ | refine blk_drew ?_ | refine blk_alloc ?_ _)); refine blk_put (cs := #[.int .i64 t243, .string t244, .string t245, .int .i64 t246, .int .i64 t247, .int .u8 t248, .int .i64 t249, .int .i64 0, .int .i64 0]) ?_ 7 _ rfl; (with_reducible repeat (first | refine blk_drewN ?_ _ | refine blk_drew ?_ | refine blk_alloc ?_ _)); refine blk_put (cs := #[.int .i64 t243, .string t244, .string t245, .int .i64 t246, .int .i64 t247, .int .u8 t248, .int .i64 0, .int .i64 0, .int .i64 0]) ?_ 6 _ rfl; (with_reducible repeat (first | refine blk_drewN ?_ _ | refine blk_drew ?_ | refine blk_alloc ?_ _)); refine blk_put (cs := #[.int .i64 t243, .string t244, .string t245, .int .i64 t246, .int .i64 t247, .int .u8 0, .int .i64 0, .int .i64 0, .int .i64 0]) ?_ 5 _ rfl; (with_reducible repeat (first | refine blk_drewN ?_ _ | refine blk_drew ?_ | refine blk_alloc ?_ _)); refine blk_put (cs := #[.int .i64 t243, .string t244, .string t245, .int .i64 t246, .int .i64 0, .int .u8 0, .int .i64 0, .int .i64 0, .int .i64 0]) ?_ 4 _ rfl; (with_reducible repeat (first | refine blk_drewN ?_ _ | refine blk_drew ?_ | refine blk_alloc ?_ _)); refine blk_put (cs := #[.int .i64 t243, .string t244, .string t245, .int .i64 0, .int .i64 0, .int .u8 0, .int .i64 0, .int .i64 0, .int .i64 0]) ?_ 3 _ rfl; (with_reducible repeat (first | refine blk_drewN ?_ _ | refine blk_drew ?_ | refine blk_alloc ?_ _)); refine blk_put (cs := #[.int .i64 t243, .string t244, .string (⟨#[]⟩ : ByteArray), .int .i64 0, .int .i64 0, .int .u8 0, .int .i64 0, .int .i64 0, .int .i64 0]) ?_ 2 _ rfl; (with_reducible repeat (first | refine blk_drewN ?_ _ | refine blk_drew ?_ | refine blk_alloc ?_ _)); refine blk_put (cs := #[.int .i64 t243, .string (⟨#[]⟩ : ByteArray), .string (⟨#[]⟩ : ByteArray), .int .i64 0, .int .i64 0, .int .u8 0, .int .i64 0, .int .i64 0, .int .i64 0]) ?_ 1 _ rfl; (with_reducible repeat (first | refine blk_drewN ?_ _ | refine blk_drew ?_ | refine blk_alloc ?_ _)); refine blk_put (cs := #[.int .i64 0, .string (⟨#[]⟩ : ByteArray), .string (⟨#[]⟩ : ByteArray), .int .i64 0, .int .i64 0, .int .u8 0, .int .i64 0, .int .i64 0, .int .i64 0]) ?_ 0 _ rfl; (with_reducible repeat (first | refine blk_drewN ?_ _ | refine blk_drew ?_ | refine blk_alloc ?_ _)); exact BK252.out⟩, ⟨by repeat (first | (with_reducible first | exact HB.out | apply below_alloc | apply pw_below_drewN | apply below_drew1 | refine below_set ?_ GE252.out) | exact HB.out)⟩⟩
          ·rw [if_neg c21] at H
           have c21b0 : (t244.toList == a1.toList) = false := beq_eq_false_iff_ne.mpr c21
           have c21b1 : (t244.toList != a1.toList) = true := bne_iff_ne.mpr c21
           have H' := Aside0.mk H
           clear H
           have hcz23_0 : w17.cell? ⟨gb252, 0, none⟩ = some (.int .i64 0) := (blk_cell BK252.out 0).trans rfl
           have hcz23_1 : w17.cell? ⟨gb252, 1, none⟩ = some (.string (⟨#[]⟩ : ByteArray)) := (blk_cell BK252.out 1).trans rfl
           have hcz23_2 : w17.cell? ⟨gb252, 2, none⟩ = some (.string (⟨#[]⟩ : ByteArray)) := (blk_cell BK252.out 2).trans rfl
           have hcz23_3 : w17.cell? ⟨gb252, 3, none⟩ = some (.int .i64 0) := (blk_cell BK252.out 3).trans rfl
           have hcz23_4 : w17.cell? ⟨gb252, 4, none⟩ = some (.int .i64 0) := (blk_cell BK252.out 4).trans rfl
           have hcz23_5 : w17.cell? ⟨gb252, 5, none⟩ = some (.int .u8 0) := (blk_cell BK252.out 5).trans rfl
           have hcz23_6 : w17.cell? ⟨gb252, 6, none⟩ = some (.int .i64 0) := (blk_cell BK252.out 6).trans rfl
           have hcz23_7 : w17.cell? ⟨gb252, 7, none⟩ = some (.int .i64 0) := (blk_cell BK252.out 7).trans rfl
           have hcz23_8 : w17.cell? ⟨gb252, 8, none⟩ = some (.int .i64 0) := (blk_cell BK252.out 8).trans rfl
           have hfz23_0 := blk_frozen BK252.out 0
           have hfz23_1 := blk_frozen BK252.out 1
           have hfz23_2 := blk_frozen BK252.out 2
           have hfz23_3 := blk_frozen BK252.out 3
           have hfz23_4 := blk_frozen BK252.out 4
           have hfz23_5 := blk_frozen BK252.out 5
           have hfz23_6 := blk_frozen BK252.out 6
           have hfz23_7 := blk_frozen BK252.out 7
           have hfz23_8 := blk_frozen BK252.out 8
           go_wp2
           go_meet
           case rel => exact ⟨_, (true), (by first | rfl | (simp; done) | (simp [*]; done)), H', ⟨by have := HJ4.out; have := HK2.out; first | omega | exact Nat.le_refl _⟩, ⟨by (with_reducible repeat (first | apply Kd.R_alloc | apply Kd.R_drewN | apply Kd.R_drew)); exact Kd.R_mono (Kd.R_far (p := ⟨gb252, 8, none⟩) (Kd.R_far (p := ⟨gb252, 7, none⟩) (Kd.R_far (p := ⟨gb252, 6, none⟩) (Kd.R_far (p := ⟨gb252, 5, none⟩) (Kd.R_far (p := ⟨gb252, 4, none⟩) (Kd.R_far (p := ⟨gb252, 3, none⟩) (Kd.R_far (p := ⟨gb252, 2, none⟩) (Kd.R_far (p := ⟨gb252, 1, none⟩) (Kd.R_far (p := ⟨gb252, 0, none⟩) (Kd.R_types HO_11.out BK252.out (by decide)) (fun _ hk => hk.2) (.int .i64 t243)) (fun _ hk => hk.2) (.string t244)) (fun _ hk => hk.2) (.string t245)) (fun _ hk => hk.2) (.int .i64 t246)) (fun _ hk => hk.2) (.int .i64 t247)) (fun _ hk => hk.2) (.int .u8 t248)) (fun _ hk => hk.2) (.int .i64 t249)) (fun _ hk => hk.2) (.int .i64 t250)) (fun _ hk => hk.2) (.int .i64 t251)) (fun _ hk => trivial)⟩, ⟨by (with_reducible repeat (first | apply Kd.R_alloc | apply Kd.R_drewN | apply Kd.R_drew)); exact Kd.R_mono (Kd.R_far (p := ⟨gb252, 8, none⟩) (Kd.R_far (p := ⟨gb252, 7, none⟩) (Kd.R_far (p := ⟨gb252, 6, none⟩) (Kd.R_far (p := ⟨gb252, 5, none⟩) (Kd.R_far (p := ⟨gb252, 4, none⟩) (Kd.R_far (p := ⟨gb252, 3, none⟩) (Kd.R_far (p := ⟨gb252, 2, none⟩) (Kd.R_far (p := ⟨gb252, 1, none⟩) (Kd.R_far (p := ⟨gb252, 0, none⟩) (Kd.R_types HO_12.out BK252.out (by decide)) (fun _ hk => hk.2) (.int .i64 t243)) (fun _ hk => hk.2) (.string t244)) (fun _ hk => hk.2) (.string t245)) (fun _ hk => hk.2) (.int .i64 t246)) (fun _ hk => hk.2) (.int .i64 t247)) (fun _ hk => hk.2) (.int .u8 t248)) (fun _ hk => hk.2) (.int .i64 t249)) (fun _ hk => hk.2) (.int .i64 t250)) (fun _ hk => hk.2) (.int .i64 t251)) (fun _ hk => trivial)⟩, ⟨by (with_reducible repeat (first | refine blk_drewN ?_ _ | refine blk_drew ?_ | refine blk_alloc ?_ _)); refine blk_put (cs := #[.int .i64 t243, .string t244, .string t245, .int .i64 t246, .int .i64 t247, .int .u8 t248, .int .i64 t249, .int .i64 t250, .int .i64 0]) ?_ 8 _ rfl; (with_reducible repeat (first | refine blk_drewN ?_ _ | refine blk_drew ?_ | refine blk_alloc ?_ _)); refine blk_put (cs := #[.int .i64 t243, .string t244, .string t245, .int .i64 t246, .int .i64 t247, .int .u8 t248, .int .i64 t249, .int .i64 0, .int .i64 0]) ?_ 7 _ rfl; (with_reducible repeat (first | refine blk_drewN ?_ _ | refine blk_drew ?_ | refine blk_alloc ?_ _)); refine blk_put (cs := #[.int .i64 t243, .string t244, .string t245, .int .i64 t246, .int .i64 t247, .int .u8 t248, .int .i64 0, .int .i64 0, .int .i64 0]) ?_ 6 _ rfl; (with_reducible repeat (first | refine blk_drewN ?_ _ | refine blk_drew ?_ | refine blk_alloc ?_ _)); refine blk_put (cs := #[.int .i64 t243, .string t244, .string t245, .int .i64 t246, .int .i64 t247, .int .u8 0, .int .i64 0, .int .i64 0, .int .i64 0]) ?_ 5 _ rfl; (with_reducible repeat (first | refine blk_drewN ?_ _ | refine blk_drew ?_ | refine blk_alloc ?_ _)); refine blk_put (cs := #[.int .i64 t243, .string t244, .string t245, .int .i64 t246, .int .i64 0, .int .u8 0, .int .i64 0, .int .i64 0, .int .i64 0]) ?_ 4 _ rfl; (with_reducible repeat (first | refine blk_drewN ?_ _ | refine blk_drew ?_ | refine blk_alloc ?_ _)); refine blk_put (cs := #[.int .i64 t243, .string t244, .string t245, .int .i64 0, .int .i64 0, .int .u8 0, .int .i64 0, .int .i64 0, .int .i64 0]) ?_ 3 _ rfl; (with_reducible repeat (first | refine blk_drewN ?_ _ | refine blk_drew ?_ | refine blk_alloc ?_ _)); refine blk_put (cs := #[.int .i64 t243, .string t244, .string (⟨#[]⟩ : ByteArray), .int .i64 0, .int .i64 0, .int .u8 0, .int .i64 0, .int .i64 0, .int .i64 0]) ?_ 2 _ rfl; (with_reducible repeat (first | refine blk_drewN ?_ _ | refine blk_drew ?_ | refine blk_alloc ?_ _)); refine blk_put (cs := #[.int .i64 t243, .string (⟨#[]⟩ : ByteArray), .string (⟨#[]⟩ : ByteArray), .int .i64 0, .int .i64 0, .int .u8 0, .int .i64 0, .int .i64 0, .int .i64 0]) ?_ 1 _ rfl; (with_reducible repeat (first | refine blk_drewN ?_ _ | refine blk_drew ?_ | refine blk_alloc ?_ _)); refine blk_put (cs := #[.int .i64 0, .string (⟨#[]⟩ : ByteArray), .string (⟨#[]⟩ : ByteArray), .int .i64 0, .int .i64 0, .int .u8 0, .int .i64 0, .int .i64 0, .int .i64 0]) ?_ 0 _ rfl; (with_reducible repeat (first | refine blk_drewN ?_ _ | refine blk_drew ?_ | refine blk_alloc ?_ _)); exact BK252.out⟩, ⟨by repeat (first | (with_reducible first | exact HB.out | apply below_alloc | apply pw_below_drewN | apply below_drew1 | refine below_set ?_ GE252.out) | exact HB.out)⟩⟩
        case rest =>
         clear HC14
         try clear c1
         try clear c2
         try clear p2
         try clear q2
         try clear hx2
         try clear c3
         try clear c4
         try clear c6
         try clear c6b0
         try clear c7
         try clear c7b0
         try clear c8
         try clear c11
         try clear c11b0
         try clear c12
         try clear c12b0
         try clear c19
         try clear c19b0
         try clear c19b1
         try clear c21
         try clear c21b0
         try clear c21b1
         try clear hcz18_0
         try clear hcz18_1
         try clear hcz18_2
         try clear hcz18_3
         try clear hcz18_4
         try clear hcz18_5
         try clear hcz18_6
         try clear hcz18_7
         try clear hcz18_8
         try clear hcz20_0
         try clear hcz20_1
         try clear hcz20_2
         try clear hcz20_3
         try clear hcz20_4
         try clear hcz20_5
         try clear hcz20_6
         try clear hcz20_7
         try clear hcz20_8
         try clear hcz22_0
         try clear hcz22_1
         try clear hcz22_2
         try clear hcz22_3
         try clear hcz22_4
         try clear hcz22_5
         try clear hcz22_6
         try clear hcz22_7
         try clear hcz22_8
         try clear hcz23_0
         try clear hcz23_1
         try clear hcz23_2
         try clear hcz23_3
         try clear hcz23_4
         try clear hcz23_5
         try clear hcz23_6
         try clear hcz23_7
         try clear hcz23_8
         try clear hfz18_0
         try clear hfz18_1
         try clear hfz18_2
         try clear hfz18_3
         try clear hfz18_4
         try clear hfz18_5
         try clear hfz18_6
         try clear hfz18_7
         try clear hfz18_8
         try clear hfz20_0
         try clear hfz20_1
         try clear hfz20_2
         try clear hfz20_3
         try clear hfz20_4
         try clear hfz20_5
         try clear hfz20_6
         try clear hfz20_7
         try clear hfz20_8
         try clear hfz22_0
         try clear hfz22_1
         try clear hfz22_2
         try clear hfz22_3
         try clear hfz22_4
         try clear hfz22_5
         try clear hfz22_6
         try clear hfz22_7
         try clear hfz22_8
         try clear hfz23_0
         try clear hfz23_1
         try clear hfz23_2
         try clear hfz23_3
         try clear hfz23_4
         try clear hfz23_5
         try clear hfz23_6
         try clear hfz23_7
         try clear hfz23_8
         try clear hx242_0
         try clear p2
         try clear p242
         try clear q242
         obtain ⟨kq, x56_13, rfl, HA, HJ13, HO_11, HO_12, BK252, HB⟩ := hcut
         cases kq with
         | zero => exact absurd HA.out (by simp [musterref27_Used.j2])
         | succ kj13 =>
          have H := HA.out
          clear HA
          simp only [musterref27_Used.j2] at H
          by_cases c24 : x56_13 = true
          ·subst c24
           have H1 : (musterref27_Used.l0 kj13 l0 a1 a2 a3 t237 x12_2 (wrap64 (x13_2 + 1))) = some (r1, r2, r3) := by rw [if_pos rfl] at H; exact H
           clear H
           have H := H1
           clear H1
           have H' := Aside0.mk H
           clear H
           go_wp2
           go_roundg kj13
           case measure => have := HJ4.out; have := HK2.out; have := HJ13.out; omega
           case rel => exact ⟨(x12_2), (wrap64 (x13_2 + 1)), (by first | rfl | (simp; done) | (simp [*]; done)), H', ⟨by have := HJ4.out; have := HK2.out; have := HJ13.out; omega⟩, ⟨by (with_reducible repeat (first | apply Kd.R_alloc | apply Kd.R_drewN | apply Kd.R_drew)); exact HO_11.out⟩, ⟨by (with_reducible repeat (first | apply Kd.R_alloc | apply Kd.R_drewN | apply Kd.R_drew)); exact HO_12.out⟩, ⟨by repeat (first | (with_reducible first | exact HB.out | apply below_alloc | apply pw_below_drewN | apply below_drew1 | refine below_set ?_ GE252.out) | exact HB.out)⟩⟩
          ·replace c24 := Bool.eq_false_iff.mpr c24
           subst c24
           have H1 : (if t251 ≥ 0 then (musterref27_Used.j3 kj13 l0 a1 a2 a3 t237 x12_2 x13_2 (mx a2 t250) a3 (decide (t251 < a3)) t243 t244 t245 t246 t247 t248 t249 t250 t251) else (musterref27_Used.j3 kj13 l0 a1 a2 a3 t237 x12_2 x13_2 (mx a2 t250) a3 false t243 t244 t245 t246 t247 t248 t249 t250 t251)) = some (r1, r2, r3) := by rw [if_neg (show ¬ (false = true) by decide)] at H; exact H
           clear H
           have H := H1
           clear H1
           obtain ⟨ji25, hji25⟩ : ∃ j_ : Int, (mx a2 t250) = j_ := ⟨_, rfl⟩
           replace H : (if t251 ≥ 0 then (musterref27_Used.j3 kj13 l0 a1 a2 a3 t237 x12_2 x13_2 ji25 a3 (decide (t251 < a3)) t243 t244 t245 t246 t247 t248 t249 t250 t251) else (musterref27_Used.j3 kj13 l0 a1 a2 a3 t237 x12_2 x13_2 ji25 a3 false t243 t244 t245 t246 t247 t248 t249 t250 t251)) = some (r1, r2, r3) := by first | (rw [hji25] at H; exact H) | (simp only [hji25] at H ⊢; exact H)
           have hji25_ : (if a2 < t250 then t250 else a2) = ji25 := hji25
           have HC26 := Aside0.mk H
           clear H
           have hcz27_0 : wc.cell? ⟨gb252, 0, none⟩ = some (.int .i64 t243) := (blk_cell BK252.out 0).trans rfl
           have hcz27_1 : wc.cell? ⟨gb252, 1, none⟩ = some (.string t244) := (blk_cell BK252.out 1).trans rfl
           have hcz27_2 : wc.cell? ⟨gb252, 2, none⟩ = some (.string t245) := (blk_cell BK252.out 2).trans rfl
           have hcz27_3 : wc.cell? ⟨gb252, 3, none⟩ = some (.int .i64 t246) := (blk_cell BK252.out 3).trans rfl
           have hcz27_4 : wc.cell? ⟨gb252, 4, none⟩ = some (.int .i64 t247) := (blk_cell BK252.out 4).trans rfl
           have hcz27_5 : wc.cell? ⟨gb252, 5, none⟩ = some (.int .u8 t248) := (blk_cell BK252.out 5).trans rfl
           have hcz27_6 : wc.cell? ⟨gb252, 6, none⟩ = some (.int .i64 t249) := (blk_cell BK252.out 6).trans rfl
           have hcz27_7 : wc.cell? ⟨gb252, 7, none⟩ = some (.int .i64 t250) := (blk_cell BK252.out 7).trans rfl
           have hcz27_8 : wc.cell? ⟨gb252, 8, none⟩ = some (.int .i64 t251) := (blk_cell BK252.out 8).trans rfl
           have hfz27_0 := blk_frozen BK252.out 0
           have hfz27_1 := blk_frozen BK252.out 1
           have hfz27_2 := blk_frozen BK252.out 2
           have hfz27_3 := blk_frozen BK252.out 3
           have hfz27_4 := blk_frozen BK252.out 4
           have hfz27_5 := blk_frozen BK252.out 5
           have hfz27_6 := blk_frozen BK252.out 6
           have hfz27_7 := blk_frozen BK252.out 7
           have hfz27_8 := blk_frozen BK252.out 8
           go_upto_region 11 with (fail)
           go_cut [70] (fun v70 wc => ∃ (kq : Nat) (x70_25 : Bool), v70 = .bool x70_25 ∧ Aside0 (musterref27_Used.j3 kq l0 a1 a2 a3 t237 x12_2 x13_2 ji25 a3 x70_25 t243 t244 t245 t246 t247 t248 t249 t250 t251 = some (r1, r2, r3)) ∧ Aside0 (kq ≤ kj13) ∧ Aside0 (Kd.R (Kd.int .i64) 3 wc w.heap.size (fun _ => True) (.slice (some ad242) t237.length co15) t237) ∧ Aside0 (Kd.R (Kd.int .i64) 2 wc w.heap.size (fun _ => True) u12 x12_2) ∧ Aside0 (wc.heap[gb252]? = some (.cells #[.int .i64 t243, .string t244, .string t245, .int .i64 t246, .int .i64 t247, .int .u8 t248, .int .i64 t249, .int .i64 t250, .int .i64 t251] 56 (0, 0))) ∧ Aside0 (Below w.heap.size w wc))
           case first =>
            have H := HC26.out
            clear HC26
            by_cases c28 : t251 ≥ 0
            ·rw [if_pos c28] at H
             have c28b0 : decide (0 ≤ t251) = true := decide_eq_true c28
             clear c28
             (first | rw [c28b0] | (simp only [i64_w, i32_w]; rw [c28b0]) | skip)
             have H' := Aside0.mk H
             clear H
             have hcz29_0 : wc.cell? ⟨gb252, 0, none⟩ = some (.int .i64 t243) := (blk_cell BK252.out 0).trans rfl
             have hcz29_1 : wc.cell? ⟨gb252, 1, none⟩ = some (.string t244) := (blk_cell BK252.out 1).trans rfl
             have hcz29_2 : wc.cell? ⟨gb252, 2, none⟩ = some (.string t245) := (blk_cell BK252.out 2).trans rfl
             have hcz29_3 : wc.cell? ⟨gb252, 3, none⟩ = some (.int .i64 t246) := (blk_cell BK252.out 3).trans rfl
             have hcz29_4 : wc.cell? ⟨gb252, 4, none⟩ = some (.int .i64 t247) := (blk_cell BK252.out 4).trans rfl
             have hcz29_5 : wc.cell? ⟨gb252, 5, none⟩ = some (.int .u8 t248) := (blk_cell BK252.out 5).trans rfl
             have hcz29_6 : wc.cell? ⟨gb252, 6, none⟩ = some (.int .i64 t249) := (blk_cell BK252.out 6).trans rfl
             have hcz29_7 : wc.cell? ⟨gb252, 7, none⟩ = some (.int .i64 t250) := (blk_cell BK252.out 7).trans rfl
             have hcz29_8 : wc.cell? ⟨gb252, 8, none⟩ = some (.int .i64 t251) := (blk_cell BK252.out 8).trans rfl
             have hfz29_0 := blk_frozen BK252.out 0
             have hfz29_1 := blk_frozen BK252.out 1
             have hfz29_2 := blk_frozen BK252.out 2
             have hfz29_3 := blk_frozen BK252.out 3
             have hfz29_4 := blk_frozen BK252.out 4
             have hfz29_5 := blk_frozen BK252.out 5
             have hfz29_6 := blk_frozen BK252.out 6
             have hfz29_7 := blk_frozen BK252.out 7
             have hfz29_8 := blk_frozen BK252.out 8
             go_wp2
             go_meet
             case rel => exact ⟨_, (decide (t251 < a3)), (by first | rfl | (simp; done) | (simp [*]; done)), H', ⟨by have := HJ4.out; have := HK2.out; have := HJ13.out; first | omega | exact Nat.le_refl _⟩, ⟨by (with_reducible repeat (first | apply Kd.R_alloc | apply Kd.R_drewN | apply Kd.R_drew)); exact HO_11.out⟩, ⟨by (with_reducible repeat (first | apply Kd.R_alloc | apply Kd.R_drewN | apply Kd.R_drew)); exact HO_12.out⟩, ⟨by (with_reducible repeat (first | refine blk_drewN ?_ _ | refine blk_drew ?_ | refine blk_alloc ?_ _)); exact BK252.out⟩, ⟨by repeat (first | (with_reducible first | exact HB.out | apply below_alloc | apply pw_below_drewN | apply below_drew1 | refine below_set ?_ GE252.out) | exact HB.out)⟩⟩
            ·rw [if_neg c28] at H
             have c28b0 : decide (0 ≤ t251) = false := decide_eq_false c28
             clear c28
             (first | rw [c28b0] | (simp only [i64_w, i32_w]; rw [c28b0]) | skip)
             have H' := Aside0.mk H
             clear H
             have hcz30_0 : wc.cell? ⟨gb252, 0, none⟩ = some (.int .i64 t243) := (blk_cell BK252.out 0).trans rfl
             have hcz30_1 : wc.cell? ⟨gb252, 1, none⟩ = some (.string t244) := (blk_cell BK252.out 1).trans rfl
             have hcz30_2 : wc.cell? ⟨gb252, 2, none⟩ = some (.string t245) := (blk_cell BK252.out 2).trans rfl
             have hcz30_3 : wc.cell? ⟨gb252, 3, none⟩ = some (.int .i64 t246) := (blk_cell BK252.out 3).trans rfl
             have hcz30_4 : wc.cell? ⟨gb252, 4, none⟩ = some (.int .i64 t247) := (blk_cell BK252.out 4).trans rfl
             have hcz30_5 : wc.cell? ⟨gb252, 5, none⟩ = some (.int .u8 t248) := (blk_cell BK252.out 5).trans rfl
             have hcz30_6 : wc.cell? ⟨gb252, 6, none⟩ = some (.int .i64 t249) := (blk_cell BK252.out 6).trans rfl
             have hcz30_7 : wc.cell? ⟨gb252, 7, none⟩ = some (.int .i64 t250) := (blk_cell BK252.out 7).trans rfl
             have hcz30_8 : wc.cell? ⟨gb252, 8, none⟩ = some (.int .i64 t251) := (blk_cell BK252.out 8).trans rfl
             have hfz30_0 := blk_frozen BK252.out 0
             have hfz30_1 := blk_frozen BK252.out 1
             have hfz30_2 := blk_frozen BK252.out 2
             have hfz30_3 := blk_frozen BK252.out 3
             have hfz30_4 := blk_frozen BK252.out 4
             have hfz30_5 := blk_frozen BK252.out 5
             have hfz30_6 := blk_frozen BK252.out 6
             have hfz30_7 := blk_frozen BK252.out 7
             have hfz30_8 := blk_frozen BK252.out 8
             go_wp2
             go_meet
             case rel => exact ⟨_, (false), (by first | rfl | (simp; done) | (simp [*]; done)), H', ⟨by have := HJ4.out; have := HK2.out; have := HJ13.out; first | omega | exact Nat.le_refl _⟩, ⟨by (with_reducible repeat (first | apply Kd.R_alloc | apply Kd.R_drewN | apply Kd.R_drew)); exact HO_11.out⟩, ⟨by (with_reducible repeat (first | apply Kd.R_alloc | apply Kd.R_drewN | apply Kd.R_drew)); exact HO_12.out⟩, ⟨by (with_reducible repeat (first | refine blk_drewN ?_ _ | refine blk_drew ?_ | refine blk_alloc ?_ _)); exact BK252.out⟩, ⟨by repeat (first | (with_reducible first | exact HB.out | apply below_alloc | apply pw_below_drewN | apply below_drew1 | refine below_set ?_ GE252.out) | exact HB.out)⟩⟩
           case rest =>
            clear HC26
            try clear c1
            try clear c2
            try clear p2
            try clear q2
            try clear hx2
            try clear c3
            try clear c4
            try clear c6
            try clear c6b0
            try clear p6
            try clear c7
            try clear c7b0
            try clear c8
            try clear c11
            try clear c11b0
            try clear c12
            try clear c12b0
            try clear c19
            try clear c19b0
            try clear c19b1
            try clear c21
            try clear c21b0
            try clear c21b1
            try clear c24
            try clear p24
            try clear q24
            try clear hx24
            try clear c28
            try clear c28b0
            try clear hcz18_0
            try clear hcz18_1
            try clear hcz18_2
            try clear hcz18_3
            try clear hcz18_4
            try clear hcz18_5
            try clear hcz18_6
            try clear hcz18_7
            try clear hcz18_8
            try clear hcz20_0
            try clear hcz20_1
            try clear hcz20_2
            try clear hcz20_3
            try clear hcz20_4
            try clear hcz20_5
            try clear hcz20_6
            try clear hcz20_7
            try clear hcz20_8
            try clear hcz22_0
            try clear hcz22_1
            try clear hcz22_2
            try clear hcz22_3
            try clear hcz22_4
            try clear hcz22_5
            try clear hcz22_6
            try clear hcz22_7
            try clear hcz22_8
            try clear hcz23_0
            try clear hcz23_1
            try clear hcz23_2
            try clear hcz23_3
            try clear hcz23_4
            try clear hcz23_5
            try clear hcz23_6
            try clear hcz23_7
            try clear hcz23_8
            try clear hcz27_0
            try clear hcz27_1
            try clear hcz27_2
            try clear hcz27_3
            try clear hcz27_4
            try clear hcz27_5
            try clear hcz27_6
            try clear hcz27_7
            try clear hcz27_8
            try clear hcz29_0
            try clear hcz29_1
            try clear hcz29_2
            try clear hcz29_3
            try clear hcz29_4
            try clear hcz29_5
            try clear hcz29_6
            try clear hcz29_7
            try clear hcz29_8
            try clear hcz30_0
            try clear hcz30_1
            try clear hcz30_2
            try clear hcz30_3
            try clear hcz30_4
            try clear hcz30_5
            try clear hcz30_6
            try clear hcz30_7
            try clear hcz30_8
            try clear hfz18_0
            try clear hfz18_1
            try clear hfz18_2
            try clear hfz18_3
            try clear hfz18_4
            try clear hfz18_5
            try clear hfz18_6
            try clear hfz18_7
            try clear hfz18_8
            try clear hfz20_0
            try clear hfz20_1
            try clear hfz20_2
            try clear hfz20_3
            try clear hfz20_4
            try clear hfz20_5
            try clear hfz20_6
            try clear hfz20_7
            try clear hfz20_8
            try clear hfz22_0
            try clear hfz22_1
            try clear hfz22_2
            try clear hfz22_3
            try clear hfz22_4
            try clear hfz22_5
            try clear hfz22_6
            try clear hfz22_7
            try clear hfz22_8
            try clear hfz23_0
            try clear hfz23_1
            try clear hfz23_2
            try clear hfz23_3
            try clear hfz23_4
            try clear hfz23_5
            try clear hfz23_6
            try clear hfz23_7
            try clear hfz23_8
            try clear hfz27_0
            try clear hfz27_1
            try clear hfz27_2
            try clear hfz27_3
            try clear hfz27_4
            try clear hfz27_5
            try clear hfz27_6
            try clear hfz27_7
            try clear hfz27_8
            try clear hfz29_0
            try clear hfz29_1
            try clear hfz29_2
            try clear hfz29_3
            try clear hfz29_4
            try clear hfz29_5
            try clear hfz29_6
            try clear hfz29_7
            try clear hfz29_8
            try clear hfz30_0
            try clear hfz30_1
            try clear hfz30_2
            try clear hfz30_3
            try clear hfz30_4
            try clear hfz30_5
            try clear hfz30_6
            try clear hfz30_7
            try clear hfz30_8
            try clear hx242_0
            try clear p2
            try clear p242
            try clear q2
            try clear q242
            obtain ⟨kq, x70_25, rfl, HA, HJ25, HO_11, HO_12, BK252, HB⟩ := hcut
            cases kq with
            | zero => exact absurd HA.out (by simp [musterref27_Used.j3])
            | succ kj25 =>
             have H := HA.out
             clear HA
             simp only [musterref27_Used.j3] at H
             by_cases c31 : x70_25 = true
             ·subst c31
              have H1 : (if t251 > ji25 then (if x12_2.length < 17592186044416 then (musterref27_Used.l0 kj25 l0 a1 a2 a3 t237 (x12_2 ++ [wrap64 ((wrap64 (t251 - ji25)) * (wrap64 (t246 * t247)))]) (wrap64 (x13_2 + 1))) else (none)) else (musterref27_Used.l0 kj25 l0 a1 a2 a3 t237 x12_2 (wrap64 (x13_2 + 1)))) = some (r1, r2, r3) := by rw [if_pos rfl] at H; exact H
              clear H
              have H := H1
              clear H1
              by_cases c32 : t251 > ji25
              ·rw [if_pos c32] at H
               have c32b0 : decide (ji25 < t251) = true := decide_eq_true c32
               clear c32
               by_cases c33 : x12_2.length < 17592186044416
               ·rw [if_pos c33] at H
                have LMc33 := Aside0.mk c33
                clear c33
                obtain ⟨y253, hy253⟩ : ∃ y_ : List Int, y_ = (x12_2 ++ [wrap64 ((wrap64 (t251 - ji25)) * (wrap64 (t246 * t247)))]) := ⟨_, rfl⟩
                replace H : (musterref27_Used.l0 kj25 l0 a1 a2 a3 t237 y253 (wrap64 (x13_2 + 1))) = some (r1, r2, r3) := by first | (rw [hy253]; with_reducible exact H) | (have H2_ := (Option.bind_some _ _).symm.trans H; rw [hy253]; with_reducible exact H2_) | (have H2_ := (Option.bind_some _ _).symm.trans H; with_reducible exact H2_) | with_reducible exact H | (rw [hy253]; exact H) | exact H
                have Ny253 := Aside0.mk hy253
                clear hy253
                have H' := Aside0.mk H
                clear H
                have hcz34_0 : wc.cell? ⟨gb252, 0, none⟩ = some (.int .i64 t243) := (blk_cell BK252.out 0).trans rfl
                have hcz34_1 : wc.cell? ⟨gb252, 1, none⟩ = some (.string t244) := (blk_cell BK252.out 1).trans rfl
                have hcz34_2 : wc.cell? ⟨gb252, 2, none⟩ = some (.string t245) := (blk_cell BK252.out 2).trans rfl
                have hcz34_3 : wc.cell? ⟨gb252, 3, none⟩ = some (.int .i64 t246) := (blk_cell BK252.out 3).trans rfl
                have hcz34_4 : wc.cell? ⟨gb252, 4, none⟩ = some (.int .i64 t247) := (blk_cell BK252.out 4).trans rfl
                have hcz34_5 : wc.cell? ⟨gb252, 5, none⟩ = some (.int .u8 t248) := (blk_cell BK252.out 5).trans rfl
                have hcz34_6 : wc.cell? ⟨gb252, 6, none⟩ = some (.int .i64 t249) := (blk_cell BK252.out 6).trans rfl
                have hcz34_7 : wc.cell? ⟨gb252, 7, none⟩ = some (.int .i64 t250) := (blk_cell BK252.out 7).trans rfl
                have hcz34_8 : wc.cell? ⟨gb252, 8, none⟩ = some (.int .i64 t251) := (blk_cell BK252.out 8).trans rfl
                have hfz34_0 := blk_frozen BK252.out 0
                have hfz34_1 := blk_frozen BK252.out 1
                have hfz34_2 := blk_frozen BK252.out 2
                have hfz34_3 := blk_frozen BK252.out 3
                have hfz34_4 := blk_frozen BK252.out 4
                have hfz34_5 := blk_frozen BK252.out 5
                have hfz34_6 := blk_frozen BK252.out 6
                have hfz34_7 := blk_frozen BK252.out 7
                have hfz34_8 := blk_frozen BK252.out 8
                go_wp2_with (first | ((with_reducible refine gate_builtin (b := .append) (xs := #[.tmp 76, .tmp 86]) rfl ?_); at_builtin; refine Kd.R_append (Kd.int .i64) (w0 := w) w.heap.size rfl (.tmp 76) (.tmp 86) 22 2 (.int .i64 0) 8 rfl Try.underlying22 info2 rfl (by decide) (by omega) u12 x12_2 (wrap64 ((wrap64 (t251 - ji25)) * (wrap64 (t246 * t247)))) [.int .i64 (wrap64 ((wrap64 (t251 - ji25)) * (wrap64 (t246 * t247))))] (fun _ => True) (fun _ => False) rfl rfl ?aP (fun _ hk => hk.elim) ?aF ?aO ?aB ?aS ?aL ?_; (case aP => exact rfl); (case aB => exact (by repeat (first | (with_reducible first | exact HB.out | apply below_alloc | apply pw_below_drewN | apply below_drew1 | refine below_set ?_ GE252.out) | exact HB.out))); (case aF => exact (fun _ _ => trivial)); (case aO => exact (by (with_reducible repeat (first | apply Kd.R_alloc | apply Kd.R_drewN | apply Kd.R_drew)); exact HO_12.out)); (case aS => exact (below_size (by repeat (first | (with_reducible first | exact HB.out | apply below_alloc | apply pw_below_drewN | apply below_drew1 | refine below_set ?_ GE252.out) | exact HB.out)))); (case aL => have := LMc33.out; omega); intro v254 w35 ho hb hg hat; rw [← Ny253.out] at ho; have n0_ := Aside0.mk (Kd.R_over' (by (with_reducible repeat (first | apply Kd.R_alloc | apply Kd.R_drewN | apply Kd.R_drew)); exact HO_11.out) (Kd.R_typed (by (with_reducible repeat (first | apply Kd.R_alloc | apply Kd.R_drewN | apply Kd.R_drew)); exact HO_12.out)) (by decide) hg); have n1_ := Aside0.mk (blk_grown (g := gb252) (o := .cells #[.int .i64 t243, .string t244, .string t245, .int .i64 t246, .int .i64 t247, .int .u8 t248, .int .i64 t249, .int .i64 t250, .int .i64 t251] 56 (0, 0)) (by (with_reducible repeat (first | refine blk_drewN ?_ _ | refine blk_drew ?_ | refine blk_alloc ?_ _)); exact BK252.out) hg (Kd.R_ne HO_12.out BK252.out (by decide))); have n2_ := Aside0.mk (hb); have n3_ := Aside0.mk (ho); clear HO_11; clear BK252; clear HB; clear HO_12; have HO_11 := n0_; have BK252 := n1_; have HB := n2_; have HO255 := n3_; clear n0_ n1_ n2_ n3_; clear ho hb hg hat))
                go_roundg kj25
                case measure => have := HJ4.out; have := HK2.out; have := HJ13.out; have := HJ25.out; omega
                case rel => exact ⟨(y253), (wrap64 (x13_2 + 1)), (by first | rfl | (simp; done) | (simp [*]; done)), H', ⟨by have := HJ4.out; have := HK2.out; have := HJ13.out; have := HJ25.out; omega⟩, ⟨by (with_reducible repeat (first | apply Kd.R_alloc | apply Kd.R_drewN | apply Kd.R_drew)); exact HO_11.out⟩, ⟨by (with_reducible repeat (first | apply Kd.R_alloc | apply Kd.R_drewN | apply Kd.R_drew)); exact HO255.out⟩, ⟨by repeat (first | (with_reducible first | exact HB.out | apply below_alloc | apply pw_below_drewN | apply below_drew1 | refine below_set ?_ GE252.out) | exact HB.out)⟩⟩
               ·rw [if_neg c33] at H
                exact absurd H (by simp)
              ·rw [if_neg c32] at H
               have c32b0 : decide (ji25 < t251) = false := decide_eq_false c32
               clear c32
               have H' := Aside0.mk H
               clear H
               have hcz36_0 : wc.cell? ⟨gb252, 0, none⟩ = some (.int .i64 t243) := (blk_cell BK252.out 0).trans rfl
               have hcz36_1 : wc.cell? ⟨gb252, 1, none⟩ = some (.string t244) := (blk_cell BK252.out 1).trans rfl
               have hcz36_2 : wc.cell? ⟨gb252, 2, none⟩ = some (.string t245) := (blk_cell BK252.out 2).trans rfl
               have hcz36_3 : wc.cell? ⟨gb252, 3, none⟩ = some (.int .i64 t246) := (blk_cell BK252.out 3).trans rfl
               have hcz36_4 : wc.cell? ⟨gb252, 4, none⟩ = some (.int .i64 t247) := (blk_cell BK252.out 4).trans rfl
               have hcz36_5 : wc.cell? ⟨gb252, 5, none⟩ = some (.int .u8 t248) := (blk_cell BK252.out 5).trans rfl
               have hcz36_6 : wc.cell? ⟨gb252, 6, none⟩ = some (.int .i64 t249) := (blk_cell BK252.out 6).trans rfl
               have hcz36_7 : wc.cell? ⟨gb252, 7, none⟩ = some (.int .i64 t250) := (blk_cell BK252.out 7).trans rfl
               have hcz36_8 : wc.cell? ⟨gb252, 8, none⟩ = some (.int .i64 t251) := (blk_cell BK252.out 8).trans rfl
               have hfz36_0 := blk_frozen BK252.out 0
               have hfz36_1 := blk_frozen BK252.out 1
               have hfz36_2 := blk_frozen BK252.out 2
               have hfz36_3 := blk_frozen BK252.out 3
               have hfz36_4 := blk_frozen BK252.out 4
               have hfz36_5 := blk_frozen BK252.out 5
               have hfz36_6 := blk_frozen BK252.out 6
               have hfz36_7 := blk_frozen BK252.out 7
               have hfz36_8 := blk_frozen BK252.out 8
               go_wp2
               go_roundg kj25
               case measure => have := HJ4.out; have := HK2.out; have := HJ13.out; have := HJ25.out; omega
               case rel => exact ⟨(x12_2), (wrap64 (x13_2 + 1)), (by first | rfl | (simp; done) | (simp [*]; done)), H', ⟨by have := HJ4.out; have := HK2.out; have := HJ13.out; have := HJ25.out; omega⟩, ⟨by (with_reducible repeat (first | apply Kd.R_alloc | apply Kd.R_drewN | apply Kd.R_drew)); exact HO_11.out⟩, ⟨by (with_reducible repeat (first | apply Kd.R_alloc | apply Kd.R_drewN | apply Kd.R_drew)); exact HO_12.out⟩, ⟨by repeat (first | (with_reducible first | exact HB.out | apply below_alloc | apply pw_below_drewN | apply below_drew1 | refine below_set ?_ GE252.out) | exact HB.out)⟩⟩
             ·replace c31 := Bool.eq_false_iff.mpr c31
              subst c31
              have H1 : (if a3 > ji25 then (if x12_2.length < 17592186044416 then (musterref27_Used.l0 kj25 l0 a1 a2 a3 t237 (x12_2 ++ [wrap64 ((wrap64 (a3 - ji25)) * (wrap64 (t246 * t247)))]) (wrap64 (x13_2 + 1))) else (none)) else (musterref27_Used.l0 kj25 l0 a1 a2 a3 t237 x12_2 (wrap64 (x13_2 + 1)))) = some (r1, r2, r3) := by rw [if_neg (show ¬ (false = true) by decide)] at H; exact H
              clear H
              have H := H1
              clear H1
              by_cases c37 : a3 > ji25
              ·rw [if_pos c37] at H
               have c37b0 : decide (ji25 < a3) = true := decide_eq_true c37
               clear c37
               by_cases c38 : x12_2.length < 17592186044416
               ·rw [if_pos c38] at H
                have LMc38 := Aside0.mk c38
                clear c38
                obtain ⟨y256, hy256⟩ : ∃ y_ : List Int, y_ = (x12_2 ++ [wrap64 ((wrap64 (a3 - ji25)) * (wrap64 (t246 * t247)))]) := ⟨_, rfl⟩
                replace H : (musterref27_Used.l0 kj25 l0 a1 a2 a3 t237 y256 (wrap64 (x13_2 + 1))) = some (r1, r2, r3) := by first | (rw [hy256]; with_reducible exact H) | (have H2_ := (Option.bind_some _ _).symm.trans H; rw [hy256]; with_reducible exact H2_) | (have H2_ := (Option.bind_some _ _).symm.trans H; with_reducible exact H2_) | with_reducible exact H | (rw [hy256]; exact H) | exact H
                have Ny256 := Aside0.mk hy256
                clear hy256
                have H' := Aside0.mk H
                clear H
                have hcz39_0 : wc.cell? ⟨gb252, 0, none⟩ = some (.int .i64 t243) := (blk_cell BK252.out 0).trans rfl
                have hcz39_1 : wc.cell? ⟨gb252, 1, none⟩ = some (.string t244) := (blk_cell BK252.out 1).trans rfl
                have hcz39_2 : wc.cell? ⟨gb252, 2, none⟩ = some (.string t245) := (blk_cell BK252.out 2).trans rfl
                have hcz39_3 : wc.cell? ⟨gb252, 3, none⟩ = some (.int .i64 t246) := (blk_cell BK252.out 3).trans rfl
                have hcz39_4 : wc.cell? ⟨gb252, 4, none⟩ = some (.int .i64 t247) := (blk_cell BK252.out 4).trans rfl
                have hcz39_5 : wc.cell? ⟨gb252, 5, none⟩ = some (.int .u8 t248) := (blk_cell BK252.out 5).trans rfl
                have hcz39_6 : wc.cell? ⟨gb252, 6, none⟩ = some (.int .i64 t249) := (blk_cell BK252.out 6).trans rfl
                have hcz39_7 : wc.cell? ⟨gb252, 7, none⟩ = some (.int .i64 t250) := (blk_cell BK252.out 7).trans rfl
                have hcz39_8 : wc.cell? ⟨gb252, 8, none⟩ = some (.int .i64 t251) := (blk_cell BK252.out 8).trans rfl
                have hfz39_0 := blk_frozen BK252.out 0
                have hfz39_1 := blk_frozen BK252.out 1
                have hfz39_2 := blk_frozen BK252.out 2
                have hfz39_3 := blk_frozen BK252.out 3
                have hfz39_4 := blk_frozen BK252.out 4
                have hfz39_5 := blk_frozen BK252.out 5
                have hfz39_6 := blk_frozen BK252.out 6
                have hfz39_7 := blk_frozen BK252.out 7
                have hfz39_8 := blk_frozen BK252.out 8
                go_wp2_with (first | ((with_reducible refine gate_builtin (b := .append) (xs := #[.tmp 76, .tmp 86]) rfl ?_); at_builtin; refine Kd.R_append (Kd.int .i64) (w0 := w) w.heap.size rfl (.tmp 76) (.tmp 86) 22 2 (.int .i64 0) 8 rfl Try.underlying22 info2 rfl (by decide) (by omega) u12 x12_2 (wrap64 ((wrap64 (a3 - ji25)) * (wrap64 (t246 * t247)))) [.int .i64 (wrap64 ((wrap64 (a3 - ji25)) * (wrap64 (t246 * t247))))] (fun _ => True) (fun _ => False) rfl rfl ?aP (fun _ hk => hk.elim) ?aF ?aO ?aB ?aS ?aL ?_; (case aP => exact rfl); (case aB => exact (by repeat (first | (with_reducible first | exact HB.out | apply below_alloc | apply pw_below_drewN | apply below_drew1 | refine below_set ?_ GE252.out) | exact HB.out))); (case aF => exact (fun _ _ => trivial)); (case aO => exact (by (with_reducible repeat (first | apply Kd.R_alloc | apply Kd.R_drewN | apply Kd.R_drew)); exact HO_12.out)); (case aS => exact (below_size (by repeat (first | (with_reducible first | exact HB.out | apply below_alloc | apply pw_below_drewN | apply below_drew1 | refine below_set ?_ GE252.out) | exact HB.out)))); (case aL => have := LMc38.out; omega); intro v257 w40 ho hb hg hat; rw [← Ny256.out] at ho; have n0_ := Aside0.mk (Kd.R_over' (by (with_reducible repeat (first | apply Kd.R_alloc | apply Kd.R_drewN | apply Kd.R_drew)); exact HO_11.out) (Kd.R_typed (by (with_reducible repeat (first | apply Kd.R_alloc | apply Kd.R_drewN | apply Kd.R_drew)); exact HO_12.out)) (by decide) hg); have n1_ := Aside0.mk (blk_grown (g := gb252) (o := .cells #[.int .i64 t243, .string t244, .string t245, .int .i64 t246, .int .i64 t247, .int .u8 t248, .int .i64 t249, .int .i64 t250, .int .i64 t251] 56 (0, 0)) (by (with_reducible repeat (first | refine blk_drewN ?_ _ | refine blk_drew ?_ | refine blk_alloc ?_ _)); exact BK252.out) hg (Kd.R_ne HO_12.out BK252.out (by decide))); have n2_ := Aside0.mk (hb); have n3_ := Aside0.mk (ho); clear HO_11; clear BK252; clear HB; clear HO_12; have HO_11 := n0_; have BK252 := n1_; have HB := n2_; have HO258 := n3_; clear n0_ n1_ n2_ n3_; clear ho hb hg hat))
                go_roundg kj25
                case measure => have := HJ4.out; have := HK2.out; have := HJ13.out; have := HJ25.out; omega
                case rel => exact ⟨(y256), (wrap64 (x13_2 + 1)), (by first | rfl | (simp; done) | (simp [*]; done)), H', ⟨by have := HJ4.out; have := HK2.out; have := HJ13.out; have := HJ25.out; omega⟩, ⟨by (with_reducible repeat (first | apply Kd.R_alloc | apply Kd.R_drewN | apply Kd.R_drew)); exact HO_11.out⟩, ⟨by (with_reducible repeat (first | apply Kd.R_alloc | apply Kd.R_drewN | apply Kd.R_drew)); exact HO258.out⟩, ⟨by repeat (first | (with_reducible first | exact HB.out | apply below_alloc | apply pw_below_drewN | apply below_drew1 | refine below_set ?_ GE252.out) | exact HB.out)⟩⟩
               ·rw [if_neg c38] at H
                exact absurd H (by simp)
              ·rw [if_neg c37] at H
               have c37b0 : decide (ji25 < a3) = false := decide_eq_false c37
               clear c37
               have H' := Aside0.mk H
               clear H
               go_wp2
               go_roundg kj25
               case measure => have := HJ4.out; have := HK2.out; have := HJ13.out; have := HJ25.out; omega
               case rel => exact ⟨(x12_2), (wrap64 (x13_2 + 1)), (by first | rfl | (simp; done) | (simp [*]; done)), H', ⟨by have := HJ4.out; have := HK2.out; have := HJ13.out; have := HJ25.out; omega⟩, ⟨by (with_reducible repeat (first | apply Kd.R_alloc | apply Kd.R_drewN | apply Kd.R_drew)); exact HO_11.out⟩, ⟨by (with_reducible repeat (first | apply Kd.R_alloc | apply Kd.R_drewN | apply Kd.R_drew)); exact HO_12.out⟩, ⟨by repeat (first | (with_reducible first | exact HB.out | apply below_alloc | apply pw_below_drewN | apply below_drew1 | refine below_set ?_ GE252.out) | exact HB.out)⟩⟩
       ·rw [if_neg c12] at H
        exact absurd H (by simp)
      ·rw [if_neg c11] at H
       have c11b0 : decide (x13_2 < (t237.length : Int)) = false := decide_eq_false c11
       clear c11
       replace H := Option.bind_eq_some_iff.mp H
       obtain ⟨⟨t240, t241⟩, A410, H⟩ := H
       replace H : (some (t240, t241, 0)) = some (r1, r2, r3) := H
       have A41 := Aside0.mk A410
       clear A410
       simp only [Option.some.injEq, Prod.mk.injEq] at H
       obtain ⟨rfl, rfl, rfl⟩ := H
       obtain ⟨Ao42, co42, eo42⟩ := Kd.R_slice HO_11.out
       subst eo42
       obtain ⟨Ao43, co43, eo43⟩ := Kd.R_slice HO_12.out
       subst eo43
       go_wp2_with (first | ((with_reducible refine gate_callee (f := 12) rfl ?_); refine goesL_ (some 90) rfl rfl Try.func12 (by kernel_rfl) rfl #[.slice Ao43 x12_2.length co43] rfl (by (try simp only [List.map_toArray, List.map_cons, List.map_nil]); first | done | rfl | (simp only [List.length_drop, List.length_take]; rfl)) ?_; (with_reducible refine (musterref27_Sum.calls k2 _ _ x12_2 t240 t241 _ ?side1 ?side2 A41.out).mono ?_); (case side1 => repeat (first | exact (Kd.R_reads' HO_12.out).2.2 | (with_reducible refine Kd.C_alloc ?_ _) | (with_reducible refine Kd.C_drewN ?_ _) | (with_reducible refine Kd.C_drew ?_))); (case side2 => exact (Kd.R_reads' HO_12.out).2.1); rintro e w' ⟨rfl, ⟨nd, rfl⟩⟩; refine ⟨_, rfl, ?_⟩))
       go_ret3
       exact ⟨by first | rfl | (simp [errW_none, errW_some] <;> rfl) | (simp [*, errW_none, errW_some] <;> rfl), by repeat (first | (with_reducible first | exact HB.out | apply below_alloc | apply pw_below_drewN | apply below_drew1) | exact HB.out)⟩

end Go.Proofs.Ytinpgejkkfpckaa.Pr
