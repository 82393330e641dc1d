-- MINIFIED by wip/tools/minify.py
-- Written by this session's program wip/tools/pr.py out of the translation (with the kit's print.py). Not trusted: Lean checks it.
import Derived.Test.YtafnjlgdjhegaaaPr0
import Derived.Test.YtafnjlgdjhegaaaPr9
import Derived.Test.YtafnjlgdjhegaaaPr12
import Derived.Test.YtafnjlgdjhegaaaPr13
namespace Go.Proofs.Ytafnjlgdjhegaaa.Pr
open Go.RowKit Go.Proofs.YtafnjlgdjhegaaaW.PrintWords Go.Proofs.YtafnjlgdjhegaaaW.PrintLast Go.Proofs.YtafnjlgdjhegaaaW.PrintMore
attribute [local go_sem] max2_int min2_int max_two min_two max_three min_three max_four min_four   -- for this text's walks alone
set_option linter.unusedVariables false
set_option linter.unusedSimpArgs false

abbrev kPr150 : Array Bool := #[true, true, true, true, true, true, true, true, true, true]
abbrev kPr151 : Array Bool := #[true, true, true, true, true, true, true, true, true, false]
abbrev kPr152 : Array Bool := #[true, true, true, true, true, true, true, true, false, false]
abbrev kPr153 : Array Bool := #[true, true, true, true, true, true, true, false, false, false]
abbrev kPr154 : Array Bool := #[true, true, true, true, true, true, false, false, false, false]
abbrev kPr155 : Array Bool := #[true, true, true, true, true, false, false, false, false, false]
abbrev kPr156 : Array Bool := #[true, true, true, true, false, false, false, false, false, false]
abbrev kPr157 : Array Bool := #[true, false, true, true, false, false, false, false, false, false]
abbrev kPr158 : Array Bool := #[true, false, true, false, false, false, false, false, false, false]
abbrev kPr159 : Array Bool := #[true, false, false, false, false, false, false, false, false, false]
abbrev kPr1510 : Array Bool := #[false, false, false, false, false, false, false, false, false, false]
/-! ### musterref09_Done: function 13 -/
mutual
def musterref09_Done.j0 : Nat → List (S44) → Int → Int → List Int → Int → Bool → Option ((List (S44)) × Int)
 | 0, _, _, _, _, _, _ => none
 | k + 1, x0, x1, x2, x3, x10, x37 => if x37 = true then (some (([] : List (S44)), 2)) else (if 0 ≤ x10 then (if x10 < (x0.length : Int) then (musterref09_Done.l0 k x0 x2 x3 x10 false 0 x1 ((rd_T44 x0 x10).f1) ([] : List (S46))) else (none)) else (none))
def musterref09_Done.l0 : Nat → List (S44) → Int → List Int → Int → Bool → Int → Int → Int → List (S46) → Option ((List (S44)) × Int)
 | 0, _, _, _, _, _, _, _, _, _ => none
 | k + 1, x0, x2, x3, x10, x12, x13, x241000, x241001, x241002 => if 0 ≤ x10 then (if x10 < (x0.length : Int) then (if x13 < (((rd_T44 x0 x10).f2).length : Int) then (if 0 ≤ x13 then (if ((rd_T46 ((rd_T44 x0 x10).f2) x13).f0) = x2 then (some (([] : List (S44)), 2)) else (if ((rd_T46 ((rd_T44 x0 x10).f2) x13).f0) > x2 then (if x12 = true then (if x241002.length < 4398046511104 then (musterref09_Done.l0 k x0 x2 x3 x10 x12 (wrap64 (x13 + 1)) x241000 x241001 (x241002 ++ [(⟨(rd_T46 ((rd_T44 x0 x10).f2) x13).f0, (rd_T46 ((rd_T44 x0 x10).f2) x13).f1⟩ : S46)])) else (none)) else ((musterlow_CopyBytes.f x3).bind fun t248 => (if x241002.length < 4398046511104 then ((some (x241002 ++ [(⟨x2, t248⟩ : S46)] : List (S46))).bind fun y251 => (if y251.length < 4398046511104 then (musterref09_Done.l0 k x0 x2 x3 x10 true (wrap64 (x13 + 1)) x241000 x241001 (y251 ++ [(⟨(rd_T46 ((rd_T44 x0 x10).f2) x13).f0, (rd_T46 ((rd_T44 x0 x10).f2) x13).f1⟩ : S46)])) else (none))) else (none)))) else (if x241002.length < 4398046511104 then (musterref09_Done.l0 k x0 x2 x3 x10 x12 (wrap64 (x13 + 1)) x241000 x241001 (x241002 ++ [(⟨(rd_T46 ((rd_T44 x0 x10).f2) x13).f0, (rd_T46 ((rd_T44 x0 x10).f2) x13).f1⟩ : S46)])) else (none)))) else (none)) else (if x12 = true then (musterref09_Done.j2 k x0 x3 x241000 x241001 x241002) else ((musterlow_CopyBytes.f x3).bind fun t260 => (if x241002.length < 4398046511104 then (musterref09_Done.j2 k x0 x3 x241000 x241001 (x241002 ++ [(⟨x2, t260⟩ : S46)])) else (none))))) else (none)) else (none)
def musterref09_Done.j2 : Nat → List (S44) → List Int → Int → Int → List (S46) → Option ((List (S44)) × Int)
 | 0, _, _, _, _, _ => none
 | k + 1, x0, x3, x241000, x241001, x241002 => if (x3.length : Int) > 65536 then (some (([] : List (S44)), 3)) else (if (x241002.length : Int) > 8 then (some (([] : List (S44)), 5)) else ((musterref09_with.f k x0 x241000 x241001 x241002).bind fun t266 => (some (t266, 0))))
end
def musterref09_Done.f (k : Nat) (l0 : List (S44)) (a1 : Int) (a2 : Int) (l3 : List Int) : Option ((List (S44)) × Int) := (musterref09_find.f k l0 a1).bind fun t236 => ((musterref09_Right.f k l0).bind fun t237 => (if t237 = true then (if t236 < 0 then (musterref09_Done.j0 k l0 a1 a2 l3 t236 true) else (if 0 ≤ t236 then (if t236 < (l0.length : Int) then (if a2 ≤ ((rd_T44 l0 t236).f1) then (musterref09_Done.j0 k l0 a1 a2 l3 t236 true) else (musterref09_Done.j0 k l0 a1 a2 l3 t236 (decide (a2 > 4611686018427387904)))) else (none)) else (none))) else (musterref09_Done.j0 k l0 a1 a2 l3 t236 true)))
theorem musterref09_Done.mono_l : ∀ k, (∀ y0 y1 y2 y3 y4 y5, LeO (musterref09_Done.j0 k y0 y1 y2 y3 y4 y5) (musterref09_Done.j0 (k + 1) y0 y1 y2 y3 y4 y5)) ∧ (∀ y0 y1 y2 y3 y4 y5 y6 y7 y8, LeO (musterref09_Done.l0 k y0 y1 y2 y3 y4 y5 y6 y7 y8) (musterref09_Done.l0 (k + 1) y0 y1 y2 y3 y4 y5 y6 y7 y8)) ∧ (∀ y0 y1 y2 y3 y4, LeO (musterref09_Done.j2 k y0 y1 y2 y3 y4) (musterref09_Done.j2 (k + 1) y0 y1 y2 y3 y4))
 | 0 => ⟨fun _ _ _ _ _ _ r h => by simp [musterref09_Done.j0] at h, fun _ _ _ _ _ _ _ _ _ r h => by simp [musterref09_Done.l0] at h, fun _ _ _ _ _ r h => by simp [musterref09_Done.j2] at h⟩
 | k + 1 => by
  obtain ⟨ih0, ih1, ih2⟩ := musterref09_Done.mono_l k
  refine ⟨?_, ?_, ?_⟩
  ·intro y0 y1 y2 y3 y4 y5
   unfold musterref09_Done.j0
   repeat' first
   | (with_reducible exact ih0 _ _ _ _ _ _)
   | (with_reducible exact ih1 _ _ _ _ _ _ _ _ _)
   | (with_reducible exact ih2 _ _ _ _ _)
   | (with_reducible exact musterref09_Right.mono _ _)
   | (with_reducible exact musterref09_find.mono _ _ _)
   | (with_reducible exact musterref09_with.mono _ _ _ _ _)
   | (with_reducible exact LeO.refl _)
   | (with_reducible exact LeO.none _)
   | (with_reducible refine LeO.ite ?_ ?_)
   | (with_reducible refine LeO.bind ?_ (fun _ => ?_))
   | exact ih0 _ _ _ _ _ _
   | exact ih1 _ _ _ _ _ _ _ _ _
   | exact ih2 _ _ _ _ _
   | exact musterref09_Right.mono _ _
   | exact musterref09_find.mono _ _ _
   | exact musterref09_with.mono _ _ _ _ _
   | exact LeO.none _
   | refine LeO.ite ?_ ?_
   | refine LeO.bind ?_ (fun _ => ?_)
  ·intro y0 y1 y2 y3 y4 y5 y6 y7 y8
   unfold musterref09_Done.l0
   repeat' first
   | (with_reducible exact ih0 _ _ _ _ _ _)
   | (with_reducible exact ih1 _ _ _ _ _ _ _ _ _)
   | (with_reducible exact ih2 _ _ _ _ _)
   | (with_reducible exact musterref09_Right.mono _ _)
   | (with_reducible exact musterref09_find.mono _ _ _)
   | (with_reducible exact musterref09_with.mono _ _ _ _ _)
   | (with_reducible exact LeO.refl _)
   | (with_reducible exact LeO.none _)
   | (with_reducible refine LeO.ite ?_ ?_)
   | (with_reducible refine LeO.bind ?_ (fun _ => ?_))
   | exact ih0 _ _ _ _ _ _
   | exact ih1 _ _ _ _ _ _ _ _ _
   | exact ih2 _ _ _ _ _
   | exact musterref09_Right.mono _ _
   | exact musterref09_find.mono _ _ _
   | exact musterref09_with.mono _ _ _ _ _
   | exact LeO.none _
   | refine LeO.ite ?_ ?_
   | refine LeO.bind ?_ (fun _ => ?_)
  ·intro y0 y1 y2 y3 y4
   unfold musterref09_Done.j2
   repeat' first
   | (with_reducible exact ih0 _ _ _ _ _ _)
   | (with_reducible exact ih1 _ _ _ _ _ _ _ _ _)
   | (with_reducible exact ih2 _ _ _ _ _)
   | (with_reducible exact musterref09_Right.mono _ _)
   | (with_reducible exact musterref09_find.mono _ _ _)
   | (with_reducible exact musterref09_with.mono _ _ _ _ _)
   | (with_reducible exact LeO.refl _)
   | (with_reducible exact LeO.none _)
   | (with_reducible refine LeO.ite ?_ ?_)
   | (with_reducible refine LeO.bind ?_ (fun _ => ?_))
   | exact ih0 _ _ _ _ _ _
   | exact ih1 _ _ _ _ _ _ _ _ _
   | exact ih2 _ _ _ _ _
   | exact musterref09_Right.mono _ _
   | exact musterref09_find.mono _ _ _
   | exact musterref09_with.mono _ _ _ _ _
   | exact LeO.none _
   | refine LeO.ite ?_ ?_
   | refine LeO.bind ?_ (fun _ => ?_)
theorem musterref09_Done.mono : ∀ a0 a1 a2 a3 k, LeO (musterref09_Done.f k a0 a1 a2 a3) (musterref09_Done.f (k + 1) a0 a1 a2 a3) := by
 intro a0 a1 a2 a3 k
 obtain ⟨ih0, ih1, ih2⟩ := musterref09_Done.mono_l k
 unfold musterref09_Done.f
 repeat' first
   | (with_reducible exact ih0 _ _ _ _ _ _)
   | (with_reducible exact ih1 _ _ _ _ _ _ _ _ _)
   | (with_reducible exact ih2 _ _ _ _ _)
   | (with_reducible exact musterref09_Right.mono _ _)
   | (with_reducible exact musterref09_find.mono _ _ _)
   | (with_reducible exact musterref09_with.mono _ _ _ _ _)
   | (with_reducible exact LeO.refl _)
   | (with_reducible exact LeO.none _)
   | (with_reducible refine LeO.ite ?_ ?_)
   | (with_reducible refine LeO.bind ?_ (fun _ => ?_))
   | exact ih0 _ _ _ _ _ _
   | exact ih1 _ _ _ _ _ _ _ _ _
   | exact ih2 _ _ _ _ _
   | exact musterref09_Right.mono _ _
   | exact musterref09_find.mono _ _ _
   | exact musterref09_with.mono _ _ _ _ _
   | exact LeO.none _
   | refine LeO.ite ?_ ?_
   | refine LeO.bind ?_ (fun _ => ?_)
def musterref09_Done.T13 : Bool × List (List Nat × List Nat) := (true, [([], []), ([0], [0]), ([], []), ([], []), ([3], [3]), ([2, 4], [2, 4]), ([5], [5]), ([1, 6, 4], [1, 6]), ([0, 1, 2, 3, 4, 5, 6, 7], []), ([8, 7, 7, 0, 1, 2, 3, 4, 5, 6, 7], [7, 8])])
def musterref09_Done.B13 : List Nat := [0, 1, 0, 0, 8, 28, 60, 127, 255, 511]
theorem musterref09_Done.tab13 : rtab .any (opsOf Try.f13 13) = musterref09_Done.T13 := by kernel_rfl
theorem musterref09_Done.bits13 : waitsOk musterref09_Done.T13.2 musterref09_Done.B13 = true := by kernel_rfl
def musterref09_Done.T17 : Bool × List (List Nat × List Nat) := (true, [([], []), ([0], [0]), ([], []), ([], []), ([3], [3]), ([2, 4], [2, 4]), ([5], [5]), ([1, 6, 4], [1, 6]), ([0, 1, 2, 3, 4, 5, 6, 7], []), ([8, 7, 7, 0, 1, 2, 3, 4, 5, 6, 7], [7, 8])])
def musterref09_Done.B17 : List Nat := [0, 1, 0, 0, 8, 28, 60, 127, 255, 511]
theorem musterref09_Done.tab17 : rtab .any (opsOf Try.f13 17) = musterref09_Done.T17 := by kernel_rfl
theorem musterref09_Done.bits17 : waitsOk musterref09_Done.T17.2 musterref09_Done.B17 = true := by kernel_rfl
set_option maxHeartbeats 8000000 in
set_option maxRecDepth 100000 in
theorem musterref09_Done.calls (k : Nat) (P0_ : Nat → Prop) (A0 : Option Addr) (c0 : Nat) (l0 : List (S44)) (a1 : Int) (a2 : Int) (A3 : Option Addr) (c3 : Nat) (l3 : List Int) (r1 : List (S44)) (r2 : Int) (w : World) (hs0 : Kd.V k44 44 w w.heap.size (fun k_ => P0_ k_) (.slice A0 l0.length c0) l0) (hr3 : Kd.C (Kd.int .u8) w A3 l3.length l3) (hc3 : l3.length ≤ c3) (h : musterref09_Done.f k l0 a1 a2 l3 = some (r1, r2)) :
  Calls Try.prog 13 #[.slice A0 l0.length c0, .int .i64 a1, .int .i64 a2, .slice A3 l3.length c3] w fun e w' => ∃ v0_ : Value, e = .returned (.tuple #[v0_, .int .i64 r2]) ∧ Kd.N k44 44 w' w.heap.size (fun k_ => (P0_ k_ ∨ w.heap.size ≤ k_)) v0_ r1 ∧ Below w.heap.size w w' := by
 have hu44 := Try.underlying44
 have hu46 := Try.underlying46
 have HO0 := Aside0.mk (show Kd.V k44 44 w w.heap.size (fun k_ => (P0_ k_ ∨ w.heap.size ≤ k_)) (.slice A0 l0.length c0) l0 from Kd.V_mono hs0 (fun k_ hk => .inl hk))
 have HR3 := Aside0.mk hr3
 have HC3 := Aside0.mk hc3
 clear hr3 hc3
 have HB := Aside0.mk (Below.refl w.heap.size w)
 have H : ((musterref09_find.f k l0 a1).bind fun t236 => ((musterref09_Right.f k l0).bind fun t237 => (if t237 = true then (if t236 < 0 then (musterref09_Done.j0 k l0 a1 a2 l3 t236 true) else (if 0 ≤ t236 then (if t236 < (l0.length : Int) then (if a2 ≤ ((rd_T44 l0 t236).f1) then (musterref09_Done.j0 k l0 a1 a2 l3 t236 true) else (musterref09_Done.j0 k l0 a1 a2 l3 t236 (decide (a2 > 4611686018427387904)))) else (none)) else (none))) else (musterref09_Done.j0 k l0 a1 a2 l3 t236 true)))) = some (r1, r2) := h
 clear h
 replace H := Option.bind_eq_some_iff.mp H
 obtain ⟨t236, A50, H⟩ := H
 replace H : ((musterref09_Right.f k l0).bind fun t237 => (if t237 = true then (if t236 < 0 then (musterref09_Done.j0 k l0 a1 a2 l3 t236 true) else (if 0 ≤ t236 then (if t236 < (l0.length : Int) then (if a2 ≤ ((rd_T44 l0 t236).f1) then (musterref09_Done.j0 k l0 a1 a2 l3 t236 true) else (musterref09_Done.j0 k l0 a1 a2 l3 t236 (decide (a2 > 4611686018427387904)))) else (none)) else (none))) else (musterref09_Done.j0 k l0 a1 a2 l3 t236 true))) = some (r1, r2) := H
 have A5 := Aside0.mk A50
 clear A50
 have HC6 := Aside0.mk H
 clear H
 go_enter Try.func13, Try.ntmps13
 go_upto_region 2 with (first | ((with_reducible refine gate_callee (f := 44) rfl ?_); refine goesL_ (some 17) rfl rfl Try.func44 (by kernel_rfl) rfl #[.slice A0 l0.length c0, .int .i64 a1] rfl (by (try simp only [List.map_toArray, List.map_cons, List.map_nil]); first | done | rfl | (simp only [List.length_drop, List.length_take]; rfl)) ?_; (with_reducible refine (musterref09_find.calls k _ _ l0 a1 t236 _ ?side1 ?side2 A5.out).mono ?_); (case side1 => repeat (first | exact (Kd.V_reads' HO0.out).2.2 | (with_reducible refine Kd.C_alloc ?_ _) | (with_reducible refine Kd.C_drewN ?_ _) | (with_reducible refine Kd.C_drew ?_))); (case side2 => exact (Kd.V_reads' HO0.out).2.1); rintro e w' ⟨rfl, ⟨nd, rfl⟩⟩; refine ⟨_, rfl, ?_⟩))
 (try simp only [Act.put, List.setIfInBounds_toArray, List.set_cons_zero, List.set_cons_succ])
 go_cut [37] (fun v37 wc => ∃ (kq : Nat) (x37_5 : Bool), v37 = .bool x37_5 ∧ Aside0 (musterref09_Done.j0 kq l0 a1 a2 l3 t236 x37_5 = some (r1, r2)) ∧ Aside0 (kq ≤ k) ∧ Aside0 (Kd.V k44 44 wc w.heap.size (fun k_ => (P0_ k_ ∨ w.heap.size ≤ k_)) (.slice A0 l0.length c0) l0) ∧ Aside0 (Below w.heap.size w wc))
 case first =>
  have H := HC6.out
  clear HC6
  replace H := Option.bind_eq_some_iff.mp H
  obtain ⟨t237, A70, H⟩ := H
  replace H : (if t237 = true then (if t236 < 0 then (musterref09_Done.j0 k l0 a1 a2 l3 t236 true) else (if 0 ≤ t236 then (if t236 < (l0.length : Int) then (if a2 ≤ ((rd_T44 l0 t236).f1) then (musterref09_Done.j0 k l0 a1 a2 l3 t236 true) else (musterref09_Done.j0 k l0 a1 a2 l3 t236 (decide (a2 > 4611686018427387904)))) else (none)) else (none))) else (musterref09_Done.j0 k l0 a1 a2 l3 t236 true)) = some (r1, r2) := H
  have A7 := Aside0.mk A70
  clear A70
  by_cases c8 : t237 = true
  ·subst c8
   have H1 : (if t236 < 0 then (musterref09_Done.j0 k l0 a1 a2 l3 t236 true) else (if 0 ≤ t236 then (if t236 < (l0.length : Int) then (if a2 ≤ ((rd_T44 l0 t236).f1) then (musterref09_Done.j0 k l0 a1 a2 l3 t236 true) else (musterref09_Done.j0 k l0 a1 a2 l3 t236 (decide (a2 > 4611686018427387904)))) else (none)) else (none))) = some (r1, r2) := by rw [if_pos rfl] at H; exact H
   clear H
   have H := H1
   clear H1
   by_cases c9 : t236 < 0
   ·rw [if_pos c9] at H
    have c9b0 : decide (t236 < 0) = true := decide_eq_true c9
    clear c9
    (first | rw [c9b0] | (simp only [i64_w, i32_w]; rw [c9b0]) | skip)
    have H' := Aside0.mk H
    clear H
    go_wp2_with (first | ((with_reducible refine gate_callee (f := 15) rfl ?_); refine goesL_ (some 19) rfl rfl Try.func15 (by kernel_rfl) rfl #[.slice A0 l0.length c0] rfl (by (try simp only [List.map_toArray, List.map_cons, List.map_nil]); first | done | rfl | (simp only [List.length_drop, List.length_take]; rfl)) ?_; (with_reducible refine (musterref09_Right.calls k _ _ l0 true _ ?side1 ?side2 A7.out).mono ?_); (case side1 => repeat (first | exact (Kd.V_reads' HO0.out).2.2 | (with_reducible refine Kd.C_alloc ?_ _) | (with_reducible refine Kd.C_drewN ?_ _) | (with_reducible refine Kd.C_drew ?_))); (case side2 => exact (Kd.V_reads' HO0.out).2.1); rintro e w10 ⟨rfl, hb⟩; refine ⟨_, rfl, ?_⟩; have n0_ := Aside0.mk (Kd.V_below (by (with_reducible repeat (first | apply Kd.V_alloc | apply Kd.V_drewN | apply Kd.V_drew)); exact HO0.out) hb); have n1_ := Aside0.mk (below_step (by repeat (first | (with_reducible first | exact HB.out | apply below_alloc | apply pw_below_drewN | apply below_drew1) | exact HB.out)) hb); clear HO0; clear HB; have HO0 := n0_; have HB := n1_; clear n0_ n1_; (try clear hb); (try clear hb2); (try clear hk); (try clear hi)))
    go_meet
    case rel => exact ⟨_, (true), (by first | rfl | (simp; done) | (simp [*]; done)), H', ⟨by first | omega | exact Nat.le_refl _⟩, ⟨by (with_reducible repeat (first | apply Kd.V_alloc | apply Kd.V_drewN | apply Kd.V_drew)); exact HO0.out⟩, ⟨by repeat (first | (with_reducible first | exact HB.out | apply below_alloc | apply pw_below_drewN | apply below_drew1) | exact HB.out)⟩⟩
   ·rw [if_neg c9] at H
    have c9b0 : decide (t236 < 0) = false := decide_eq_false c9
    clear c9
    (first | rw [c9b0] | (simp only [i64_w, i32_w]; rw [c9b0]) | skip)
    by_cases c11 : 0 ≤ t236
    ·rw [if_pos c11] at H
     have c11b0 : decide (0 ≤ t236) = true := decide_eq_true c11
     clear c11
     by_cases c12 : t236 < (l0.length : Int)
     ·rw [if_pos c12] at H
      have c12b0 : decide (t236 < (l0.length : Int)) = true := decide_eq_true c12
      clear c12
      by_cases c13 : a2 ≤ ((rd_T44 l0 t236).f1)
      ·rw [if_pos c13] at H
       have c13b0 : decide (a2 ≤ ((rd_T44 l0 t236).f1)) = true := decide_eq_true c13
       clear c13
       have H' := Aside0.mk H
       clear H
       go_wp2_with (first | ((with_reducible refine gate_callee (f := 15) rfl ?_); refine goesL_ (some 19) rfl rfl Try.func15 (by kernel_rfl) rfl #[.slice A0 l0.length c0] rfl (by (try simp only [List.map_toArray, List.map_cons, List.map_nil]); first | done | rfl | (simp only [List.length_drop, List.length_take]; rfl)) ?_; (with_reducible refine (musterref09_Right.calls k _ _ l0 true _ ?side1 ?side2 A7.out).mono ?_); (case side1 => repeat (first | exact (Kd.V_reads' HO0.out).2.2 | (with_reducible refine Kd.C_alloc ?_ _) | (with_reducible refine Kd.C_drewN ?_ _) | (with_reducible refine Kd.C_drew ?_))); (case side2 => exact (Kd.V_reads' HO0.out).2.1); rintro e w14 ⟨rfl, hb⟩; refine ⟨_, rfl, ?_⟩; have n0_ := Aside0.mk (Kd.V_below (by (with_reducible repeat (first | apply Kd.V_alloc | apply Kd.V_drewN | apply Kd.V_drew)); exact HO0.out) hb); have n1_ := Aside0.mk (below_step (by repeat (first | (with_reducible first | exact HB.out | apply below_alloc | apply pw_below_drewN | apply below_drew1) | exact HB.out)) hb); clear HO0; clear HB; have HO0 := n0_; have HB := n1_; clear n0_ n1_; (try clear hb); (try clear hb2); (try clear hk); (try clear hi); have p238 : 0 ≤ (t236 : Int) := of_decide_eq_true (by first | (with_reducible assumption) | assumption); have q238 : t236 < (l0.length : Int) := of_decide_eq_true (by first | (with_reducible assumption) | assumption); obtain ⟨ad238, A238_2, c238_2, e238, hx238_0, hx238_1, hx238_2, hl238_2, hi238_2⟩ := at_T44 (Kd.V_reads' HO0.out).2.2 t236 p238 q238; cases e238; obtain ⟨ce238, hce238, hMe238, hcc238⟩ := Kd.V_get HO0.out z44 t236 p238 (by first | exact q238 | exact of_decide_eq_true (by first | (with_reducible assumption) | assumption) | (have e_ := (Kd.V_reads' HO0.out).1; omega)); obtain ⟨ua238_2, uc238_2, rfl, ul238_2, ge238_2⟩ := k44_openF hMe238; have hv238_2 := hcc238 2 _ rfl; rw [add_field _ _ 2 (by omega)] at hv238_2; replace hv238_2 := Option.some.inj (hv238_2.symm.trans hx238_2); injection hv238_2 with hva_ hvn_ hvc_; rw [hva_] at ge238_2; rw [hvc_] at ul238_2; have HL238_2 := Aside0.mk (show Kd.V k46 46 _ w.heap.size _ _ ((rd_T44 l0 t236).f2) from Kd.V_mk ul238_2 ge238_2); clear hva_ hvn_ hvc_ ge238_2 ul238_2; clear hcc238 hce238; have HR238_2 := Aside0.mk hi238_2; have HC238_2 := Aside0.mk hl238_2; clear hi238_2 hl238_2; replace p238 := eq_true p238; replace q238 := eq_true q238))
       go_meet
       case rel => exact ⟨_, (true), (by first | rfl | (simp; done) | (simp [*]; done)), H', ⟨by first | omega | exact Nat.le_refl _⟩, ⟨by (with_reducible repeat (first | apply Kd.V_alloc | apply Kd.V_drewN | apply Kd.V_drew)); exact HO0.out⟩, ⟨by repeat (first | (with_reducible first | exact HB.out | apply below_alloc | apply pw_below_drewN | apply below_drew1) | exact HB.out)⟩⟩
      ·rw [if_neg c13] at H
       have c13b0 : decide (a2 ≤ ((rd_T44 l0 t236).f1)) = false := decide_eq_false c13
       clear c13
       have H' := Aside0.mk H
       clear H
       go_wp2_with (first | ((with_reducible refine gate_callee (f := 15) rfl ?_); refine goesL_ (some 19) rfl rfl Try.func15 (by kernel_rfl) rfl #[.slice A0 l0.length c0] rfl (by (try simp only [List.map_toArray, List.map_cons, List.map_nil]); first | done | rfl | (simp only [List.length_drop, List.length_take]; rfl)) ?_; (with_reducible refine (musterref09_Right.calls k _ _ l0 true _ ?side1 ?side2 A7.out).mono ?_); (case side1 => repeat (first | exact (Kd.V_reads' HO0.out).2.2 | (with_reducible refine Kd.C_alloc ?_ _) | (with_reducible refine Kd.C_drewN ?_ _) | (with_reducible refine Kd.C_drew ?_))); (case side2 => exact (Kd.V_reads' HO0.out).2.1); rintro e w15 ⟨rfl, hb⟩; refine ⟨_, rfl, ?_⟩; have n0_ := Aside0.mk (Kd.V_below (by (with_reducible repeat (first | apply Kd.V_alloc | apply Kd.V_drewN | apply Kd.V_drew)); exact HO0.out) hb); have n1_ := Aside0.mk (below_step (by repeat (first | (with_reducible first | exact HB.out | apply below_alloc | apply pw_below_drewN | apply below_drew1) | exact HB.out)) hb); clear HO0; clear HB; have HO0 := n0_; have HB := n1_; clear n0_ n1_; (try clear hb); (try clear hb2); (try clear hk); (try clear hi); have p238 : 0 ≤ (t236 : Int) := of_decide_eq_true (by first | (with_reducible assumption) | assumption); have q238 : t236 < (l0.length : Int) := of_decide_eq_true (by first | (with_reducible assumption) | assumption); obtain ⟨ad238, A238_2, c238_2, e238, hx238_0, hx238_1, hx238_2, hl238_2, hi238_2⟩ := at_T44 (Kd.V_reads' HO0.out).2.2 t236 p238 q238; cases e238; obtain ⟨ce238, hce238, hMe238, hcc238⟩ := Kd.V_get HO0.out z44 t236 p238 (by first | exact q238 | exact of_decide_eq_true (by first | (with_reducible assumption) | assumption) | (have e_ := (Kd.V_reads' HO0.out).1; omega)); obtain ⟨ua238_2, uc238_2, rfl, ul238_2, ge238_2⟩ := k44_openF hMe238; have hv238_2 := hcc238 2 _ rfl; rw [add_field _ _ 2 (by omega)] at hv238_2; replace hv238_2 := Option.some.inj (hv238_2.symm.trans hx238_2); injection hv238_2 with hva_ hvn_ hvc_; rw [hva_] at ge238_2; rw [hvc_] at ul238_2; have HL238_2 := Aside0.mk (show Kd.V k46 46 _ w.heap.size _ _ ((rd_T44 l0 t236).f2) from Kd.V_mk ul238_2 ge238_2); clear hva_ hvn_ hvc_ ge238_2 ul238_2; clear hcc238 hce238; have HR238_2 := Aside0.mk hi238_2; have HC238_2 := Aside0.mk hl238_2; clear hi238_2 hl238_2; replace p238 := eq_true p238; replace q238 := eq_true q238))
       go_meet
       case rel => exact ⟨_, (decide (a2 > 4611686018427387904)), (by first | rfl | (simp; done) | (simp [*]; done)), H', ⟨by first | omega | exact Nat.le_refl _⟩, ⟨by (with_reducible repeat (first | apply Kd.V_alloc | apply Kd.V_drewN | apply Kd.V_drew)); exact HO0.out⟩, ⟨by repeat (first | (with_reducible first | exact HB.out | apply below_alloc | apply pw_below_drewN | apply below_drew1) | exact HB.out)⟩⟩
     ·rw [if_neg c12] at H
      exact absurd H (by simp)
    ·rw [if_neg c11] at H
     exact absurd H (by simp)
  ·replace c8 := Bool.eq_false_iff.mpr c8
   subst c8
   have H1 : (musterref09_Done.j0 k l0 a1 a2 l3 t236 true) = some (r1, r2) := by rw [if_neg (show ¬ (false = true) by decide)] at H; exact H
   clear H
   have H := H1
   clear H1
   have H' := Aside0.mk H
   clear H
   go_wp2_with (first | ((with_reducible refine gate_callee (f := 15) rfl ?_); refine goesL_ (some 19) rfl rfl Try.func15 (by kernel_rfl) rfl #[.slice A0 l0.length c0] rfl (by (try simp only [List.map_toArray, List.map_cons, List.map_nil]); first | done | rfl | (simp only [List.length_drop, List.length_take]; rfl)) ?_; (with_reducible refine (musterref09_Right.calls k _ _ l0 false _ ?side1 ?side2 A7.out).mono ?_); (case side1 => repeat (first | exact (Kd.V_reads' HO0.out).2.2 | (with_reducible refine Kd.C_alloc ?_ _) | (with_reducible refine Kd.C_drewN ?_ _) | (with_reducible refine Kd.C_drew ?_))); (case side2 => exact (Kd.V_reads' HO0.out).2.1); rintro e w16 ⟨rfl, hb⟩; refine ⟨_, rfl, ?_⟩; have n0_ := Aside0.mk (Kd.V_below (by (with_reducible repeat (first | apply Kd.V_alloc | apply Kd.V_drewN | apply Kd.V_drew)); exact HO0.out) hb); have n1_ := Aside0.mk (below_step (by repeat (first | (with_reducible first | exact HB.out | apply below_alloc | apply pw_below_drewN | apply below_drew1) | exact HB.out)) hb); clear HO0; clear HB; have HO0 := n0_; have HB := n1_; clear n0_ n1_; (try clear hb); (try clear hb2); (try clear hk); (try clear hi)))
   go_meet
   case rel => exact ⟨_, (true), (by first | rfl | (simp; done) | (simp [*]; done)), H', ⟨by first | omega | exact Nat.le_refl _⟩, ⟨by (with_reducible repeat (first | apply Kd.V_alloc | apply Kd.V_drewN | apply Kd.V_drew)); exact HO0.out⟩, ⟨by repeat (first | (with_reducible first | exact HB.out | apply below_alloc | apply pw_below_drewN | apply below_drew1) | exact HB.out)⟩⟩
 case rest =>
  clear HC6
  try clear c1
  try clear c2
  try clear p2
  try clear q2
  try clear hx2
  try clear c3
  try clear c4
  try clear c8
  try clear c9
  try clear c9b0
  try clear c11
  try clear c11b0
  try clear c12
  try clear c12b0
  try clear c13
  try clear c13b0
  try clear c15
  try clear hx238_0
  try clear hx238_1
  try clear hx238_2
  try clear p238
  try clear q238
  obtain ⟨kq, x37_5, rfl, HA, HJ5, HO_0, HB⟩ := hcut
  cases kq with
  | zero => exact absurd HA.out (by simp [musterref09_Done.j0])
  | succ kj5 =>
   have H := HA.out
   clear HA
   simp only [musterref09_Done.j0] at H
   by_cases c17 : x37_5 = true
   ·subst c17
    have H1 : (some (([] : List (S44)), 2)) = some (r1, r2) := by rw [if_pos rfl] at H; exact H
    clear H
    have H := H1
    clear H1
    simp only [Option.some.injEq, Prod.mk.injEq] at H
    obtain ⟨rfl, rfl⟩ := H
    go_wp2
    go_ret2
    exact ⟨_, by first | rfl | (simp [errW_none, errW_some] <;> rfl) | (simp [*, errW_none, errW_some] <;> rfl), by first | exact Kd.R_nil _ _ _ _ _ | exact Kd.N_nil _ _ _ _ _ | exact Kd.V_nil _ _ _ _ _ | exact Kd.Q_nil _ _ _ _ _ | exact Kd.S_nil _ _ _ _ _, by repeat (first | (with_reducible first | exact HB.out | apply below_alloc | apply pw_below_drewN | apply below_drew1) | exact HB.out)⟩
   ·replace c17 := Bool.eq_false_iff.mpr c17
    subst c17
    have H1 : (if 0 ≤ t236 then (if t236 < (l0.length : Int) then (musterref09_Done.l0 kj5 l0 a2 l3 t236 false 0 a1 ((rd_T44 l0 t236).f1) ([] : List (S46))) else (none)) else (none)) = some (r1, r2) := by rw [if_neg (show ¬ (false = true) by decide)] at H; exact H
    clear H
    have H := H1
    clear H1
    by_cases c18 : 0 ≤ t236
    ·rw [if_pos c18] at H
     have c18b0 : decide (0 ≤ t236) = true := decide_eq_true c18
     clear c18
     by_cases c19 : t236 < (l0.length : Int)
     ·rw [if_pos c19] at H
      have c19b0 : decide (t236 < (l0.length : Int)) = true := decide_eq_true c19
      clear c19
      have H' := Aside0.mk H
      clear H
      have p239 : 0 ≤ (t236 : Int) := of_decide_eq_true (by first | (with_reducible assumption) | assumption)
      have q239 : t236 < (l0.length : Int) := of_decide_eq_true (by first | (with_reducible assumption) | assumption)
      obtain ⟨ad239, A239_2, c239_2, e239, hx239_0, hx239_1, hx239_2, hl239_2, hi239_2⟩ := at_T44 (Kd.V_reads' HO_0.out).2.2 t236 p239 q239
      cases e239
      obtain ⟨ce239, hce239, hMe239, hcc239⟩ := Kd.V_get HO_0.out z44 t236 p239 (by first | exact q239 | exact of_decide_eq_true (by first | (with_reducible assumption) | assumption) | (have e_ := (Kd.V_reads' HO_0.out).1; omega))
      obtain ⟨ua239_2, uc239_2, rfl, ul239_2, ge239_2⟩ := k44_openF hMe239
      have hv239_2 := hcc239 2 _ rfl
      rw [add_field _ _ 2 (by omega)] at hv239_2
      replace hv239_2 := Option.some.inj (hv239_2.symm.trans hx239_2)
      injection hv239_2 with hva_ hvn_ hvc_
      rw [hva_] at ge239_2
      rw [hvc_] at ul239_2
      have HL239_2 := Aside0.mk (show Kd.V k46 46 _ w.heap.size _ _ ((rd_T44 l0 t236).f2) from Kd.V_mk ul239_2 ge239_2)
      clear hva_ hvn_ hvc_ ge239_2 ul239_2
      clear hcc239 hce239
      have HR239_2 := Aside0.mk hi239_2
      have HC239_2 := Aside0.mk hl239_2
      clear hi239_2 hl239_2
      replace p239 := eq_true p239
      replace q239 := eq_true q239
      go_wp2_with (first | ((with_reducible refine gate_dst (N := 11) rfl ?_); refine box_event ?hg (N := 11) ?hd (cs := #[.int .i64 0, .int .i64 0, .slice none 0 0]) (t := 44) ?hr ?_; (case hd => rfl); (case hg => rfl); (case hr => first | (go_simp; done) | (go_simp; rfl)); intro gb240 hg w20 hbox hb; have n0_ := Aside0.mk (Kd.V_below (Kd.V_elderB (by (with_reducible repeat (first | apply Kd.V_alloc | apply Kd.V_drewN | apply Kd.V_drew)); exact HO_0.out) gb240 (Nat.le_of_eq hg.symm)) hb); have n1_ := Aside0.mk (Kd.V_below (Kd.V_elderB (by (with_reducible repeat (first | apply Kd.V_alloc | apply Kd.V_drewN | apply Kd.V_drew)); exact HL239_2.out) gb240 (Nat.le_of_eq hg.symm)) hb); have n2_ := Aside0.mk (Kd.C_below (by repeat (first | (with_reducible exact HR239_2.out) | (with_reducible refine Kd.C_alloc ?_ _) | (with_reducible refine Kd.C_drewN ?_ _) | (with_reducible refine Kd.C_drew ?_) | exact HR239_2.out)) hb); have n3_ := Aside0.mk (below_step (by repeat (first | (with_reducible first | exact HB.out | apply below_alloc | apply pw_below_drewN | apply below_drew1) | exact HB.out)) hb); have n4_ := Aside0.mk (hbox); have n5_ := Aside0.mk ((by rw [hg]; exact (below_size (by repeat (first | (with_reducible first | exact HB.out | apply below_alloc | apply pw_below_drewN | apply below_drew1) | exact HB.out))) : w.heap.size ≤ gb240)); have n6_ := Aside0.mk ((by rw [hg]; exact (below_size (by repeat (first | (with_reducible first | exact HB.out | apply below_alloc | apply pw_below_drewN | apply below_drew1) | exact HB.out))) : w.heap.size ≤ gb240)); clear HO_0; clear HL239_2; clear HR239_2; clear HB; have HO_0 := n0_; have HL239_2 := n1_; have HR239_2 := n2_; have HB := n3_; have BK240 := n4_; have GW240 := n5_; have GE240 := n6_; clear n0_ n1_ n2_ n3_ n4_ n5_ n6_; clear hb hbox hg; have hcz21_0 : w20.cell? ⟨gb240, 0, none⟩ = some (.int .i64 0) := (blk_cell BK240.out 0).trans rfl; have hcz21_1 : w20.cell? ⟨gb240, 1, none⟩ = some (.int .i64 0) := (blk_cell BK240.out 1).trans rfl; have hcz21_2 : w20.cell? ⟨gb240, 2, none⟩ = some (.slice none 0 0) := (blk_cell BK240.out 2).trans rfl; have hfz21_0 := blk_frozen BK240.out 0; have hfz21_1 := blk_frozen BK240.out 1; have hfz21_2 := blk_frozen BK240.out 2))
      go_loopg [12, 13] kj5 (fun kq v12 v13 w' => ∃ (x12_2 : Bool) (x13_2 : Int) (x241002_2 : List (S46)) (u241002 : Value), v12 = .bool x12_2 ∧ v13 = .int .i64 x13_2 ∧ Aside0 (musterref09_Done.l0 kq l0 a2 l3 t236 x12_2 x13_2 a1 ((rd_T44 l0 t236).f1) x241002_2 = some (r1, r2)) ∧ Aside0 (kq ≤ kj5) ∧ Aside0 (Kd.V k44 44 w' w.heap.size (fun k_ => (P0_ k_ ∨ w.heap.size ≤ k_) ∧ some k_ ≠ (u241002 : Value).ownBlock ∧ k_ ≠ gb240) (.slice (some ad239) l0.length c0) l0) ∧ Aside0 (Kd.N k46 46 w' w.heap.size (fun k_ => (P0_ k_ ∨ w.heap.size ≤ k_) ∧ k_ ≠ gb240) u241002 x241002_2) ∧ Aside0 (w'.heap[gb240]? = some (.cells #[.int .i64 a1, .int .i64 ((rd_T44 l0 t236).f1), u241002] 44 (0, 0))) ∧ Aside0 (Below w.heap.size w w'))
      case atStart => exact ⟨(false), (0), (([] : List (S46))), (.slice none 0 0), (by first | rfl | (simp; done) | (simp [*]; done)), (by first | rfl | (simp; done) | (simp [*]; done)), H', ⟨Nat.le_refl _⟩, ⟨by (with_reducible repeat (first | apply Kd.V_alloc | apply Kd.V_drewN | apply Kd.V_drew)); exact Kd.V_mono (Kd.V_far (p := ⟨gb240, 2, none⟩) (Kd.V_far (p := ⟨gb240, 1, none⟩) (Kd.V_far (p := ⟨gb240, 0, none⟩) (Kd.V_mono HO_0.out (fun k_ hk => (⟨hk, hk.2⟩ : _ ∧ k_ ≠ gb240))) (fun _ hk => hk.2) (.int .i64 a1)) (fun _ hk => hk.2) (.int .i64 ((rd_T44 l0 t236).f1))) (fun _ hk => hk.2) (.slice none 0 0)) (fun _ hk => ⟨hk.1.1, ⟨(by simp [Value.ownBlock]), hk.1.2⟩⟩)⟩, ⟨by first | exact Kd.S_nil _ _ _ _ _ | exact Kd.N_nil _ _ _ _ _ | exact Kd.V_nil _ _ _ _ _ | exact Kd.Q_nil _ _ _ _ _ | exact Kd.R_nil _ _ _ _ _⟩, ⟨by (with_reducible repeat (first | refine blk_drewN ?_ _ | refine blk_drew ?_ | refine blk_alloc ?_ _)); refine blk_put (cs := #[.int .i64 a1, .int .i64 ((rd_T44 l0 t236).f1), .slice none 0 0]) ?_ 2 _ rfl; (with_reducible repeat (first | refine blk_drewN ?_ _ | refine blk_drew ?_ | refine blk_alloc ?_ _)); refine blk_put (cs := #[.int .i64 a1, .int .i64 0, .slice none 0 0]) ?_ 1 _ rfl; (with_reducible repeat (first | refine blk_drewN ?_ _ | refine blk_drew ?_ | refine blk_alloc ?_ _)); refine blk_put (cs := #[.int .i64 0, .int .i64 0, .slice none 0 0]) ?_ 0 _ rfl; (with_reducible repeat (first | refine blk_drewN ?_ _ | refine blk_drew ?_ | refine blk_alloc ?_ _)); exact BK240.out⟩, ⟨by repeat (first | (with_reducible first | exact HB.out | apply below_alloc | apply pw_below_drewN | apply below_drew1 | refine below_set ?_ GE240.out) | exact HB.out)⟩⟩
      case round =>
       clear H'
       try clear c1
       try clear c2
       try clear p2
       try clear q2
       try clear hx2
       try clear c3
       try clear c4
       try clear c8
       try clear c9
       try clear c9b0
       try clear c11
       try clear c11b0
       try clear c12
       try clear c12b0
       try clear c13
       try clear c13b0
       try clear c15
       try clear c17
       try clear c18
       try clear c18b0
       try clear c19
       try clear c19b0
       try clear hcz21_0
       try clear hcz21_1
       try clear hcz21_2
       try clear hfz21_0
       try clear hfz21_1
       try clear hfz21_2
       try clear hx238_0
       try clear hx238_1
       try clear hx238_2
       try clear hx239_0
       try clear hx239_1
       try clear hx239_2
       try clear p2
       try clear p238
       try clear p239
       try clear q2
       try clear q238
       try clear q239
       obtain ⟨x12_2, x13_2, x241002_2, u241002, rfl, rfl, HA, HK2, HO_0, HO_241002, BK240, HB⟩ := hrel
       cases gk with
       | zero => exact absurd HA.out (by simp [musterref09_Done.l0])
       | succ k2 =>
        have H := HA.out
        clear HA
        simp only [musterref09_Done.l0] at H
        by_cases c22 : 0 ≤ t236
        ·rw [if_pos c22] at H
         have c22b0 : decide (0 ≤ t236) = true := decide_eq_true c22
         clear c22
         by_cases c23 : t236 < (l0.length : Int)
         ·rw [if_pos c23] at H
          have c23b0 : decide (t236 < (l0.length : Int)) = true := decide_eq_true c23
          clear c23
          by_cases c24 : x13_2 < (((rd_T44 l0 t236).f2).length : Int)
          ·rw [if_pos c24] at H
           have c24b0 : decide (x13_2 < (((rd_T44 l0 t236).f2).length : Int)) = true := decide_eq_true c24
           clear c24
           by_cases c25 : 0 ≤ x13_2
           ·rw [if_pos c25] at H
            have c25b0 : decide (0 ≤ x13_2) = true := decide_eq_true c25
            clear c25
            by_cases c26 : ((rd_T46 ((rd_T44 l0 t236).f2) x13_2).f0) = a2
            ·rw [if_pos c26] at H
             have c26b0 : (((rd_T46 ((rd_T44 l0 t236).f2) x13_2).f0) == a2) = true := beq_iff_eq.mpr c26
             have c26b1 : (((rd_T46 ((rd_T44 l0 t236).f2) x13_2).f0) != a2) = false := bne_eq_false_iff_eq.mpr c26
             clear c26
             simp only [Option.some.injEq, Prod.mk.injEq] at H
             obtain ⟨rfl, rfl⟩ := H
             have p241 : 0 ≤ (t236 : Int) := of_decide_eq_true (by first | (with_reducible assumption) | assumption)
             have q241 : t236 < (l0.length : Int) := of_decide_eq_true (by first | (with_reducible assumption) | assumption)
             obtain ⟨ad241, A241_2, c241_2, e241, hx241_0, hx241_1, hx241_2, hl241_2, hi241_2⟩ := at_T44 (Kd.V_reads' HO_0.out).2.2 t236 p241 q241
             obtain rfl : ad239 = ad241 := (by injection e241)
             obtain ⟨ce241, hce241, hMe241, hcc241⟩ := Kd.V_get HO_0.out z44 t236 p241 (by first | exact q241 | exact of_decide_eq_true (by first | (with_reducible assumption) | assumption) | (have e_ := (Kd.V_reads' HO_0.out).1; omega))
             obtain ⟨ua241_2, uc241_2, rfl, ul241_2, ge241_2⟩ := k44_openF hMe241
             have hv241_2 := hcc241 2 _ rfl
             rw [add_field _ _ 2 (by omega)] at hv241_2
             replace hv241_2 := Option.some.inj (hv241_2.symm.trans hx241_2)
             injection hv241_2 with hva_ hvn_ hvc_
             rw [hva_] at ge241_2
             rw [hvc_] at ul241_2
             have HL241_2 := Aside0.mk (show Kd.V k46 46 _ w.heap.size _ _ ((rd_T44 l0 t236).f2) from Kd.V_mk ul241_2 ge241_2)
             clear hva_ hvn_ hvc_ ge241_2 ul241_2
             clear hcc241 hce241
             have HR241_2 := Aside0.mk hi241_2
             have HC241_2 := Aside0.mk hl241_2
             clear hi241_2 hl241_2
             replace p241 := eq_true p241
             replace q241 := eq_true q241
             have p242 : 0 ≤ (t236 : Int) := of_decide_eq_true (by first | (with_reducible assumption) | assumption)
             have q242 : t236 < (l0.length : Int) := of_decide_eq_true (by first | (with_reducible assumption) | assumption)
             obtain ⟨ad242, A242_2, c242_2, e242, hx242_0, hx242_1, hx242_2, hl242_2, hi242_2⟩ := at_T44 (Kd.V_reads' HO_0.out).2.2 t236 p242 q242
             obtain rfl : ad239 = ad242 := (by injection e242)
             obtain ⟨ce242, hce242, hMe242, hcc242⟩ := Kd.V_get HO_0.out z44 t236 p242 (by first | exact q242 | exact of_decide_eq_true (by first | (with_reducible assumption) | assumption) | (have e_ := (Kd.V_reads' HO_0.out).1; omega))
             obtain ⟨ua242_2, uc242_2, rfl, ul242_2, ge242_2⟩ := k44_openF hMe242
             have hv242_2 := hcc242 2 _ rfl
             rw [add_field _ _ 2 (by omega)] at hv242_2
             replace hv242_2 := Option.some.inj (hv242_2.symm.trans hx242_2)
             injection hv242_2 with hva_ hvn_ hvc_
             rw [hva_] at ge242_2
             rw [hvc_] at ul242_2
             have HL242_2 := Aside0.mk (show Kd.V k46 46 _ w.heap.size _ _ ((rd_T44 l0 t236).f2) from Kd.V_mk ul242_2 ge242_2)
             clear hva_ hvn_ hvc_ ge242_2 ul242_2
             clear hcc242 hce242
             have HR242_2 := Aside0.mk hi242_2
             have HC242_2 := Aside0.mk hl242_2
             clear hi242_2 hl242_2
             replace p242 := eq_true p242
             replace q242 := eq_true q242
             have ea_ := Option.some.inj (hx241_2.symm.trans hx242_2)
             injection ea_ with ea_ en_ ec_
             subst ea_
             subst ec_
             clear en_
             have p243 : 0 ≤ (x13_2 : Int) := of_decide_eq_true (by first | (with_reducible assumption) | assumption)
             have q243 : x13_2 < (((rd_T44 l0 t236).f2).length : Int) := of_decide_eq_true (by first | (with_reducible assumption) | assumption)
             obtain ⟨ad243, A243_1, c243_1, e243, hx243_0, hx243_1, hl243_1, hi243_1⟩ := at_T46 (by repeat (first | (with_reducible exact HR242_2.out) | (with_reducible refine Kd.C_alloc ?_ _) | (with_reducible refine Kd.C_drewN ?_ _) | (with_reducible refine Kd.C_drew ?_) | exact HR242_2.out)) x13_2 p243 q243
             cases e243
             obtain ⟨ce243, hce243, hMe243, hcc243⟩ := Kd.V_get HL242_2.out z46 x13_2 p243 (by first | exact q243 | exact of_decide_eq_true (by first | (with_reducible assumption) | assumption) | (have e_ := (Kd.V_reads' HL242_2.out).1; omega))
             obtain ⟨ua243_1, uc243_1, rfl, ul243_1, ge243_1⟩ := k46_openF hMe243
             have hv243_1 := hcc243 1 _ rfl
             rw [add_field _ _ 1 (by omega)] at hv243_1
             replace hv243_1 := Option.some.inj (hv243_1.symm.trans hx243_1)
             injection hv243_1 with hva_ hvn_ hvc_
             rw [hva_] at ge243_1
             rw [hvc_] at ul243_1
             have HL243_1 := Aside0.mk (show Kd.V (Kd.int .u8) 5 _ w.heap.size _ _ ((rd_T46 ((rd_T44 l0 t236).f2) x13_2).f1) from Kd.V_mk ul243_1 ge243_1)
             clear hva_ hvn_ hvc_ ge243_1 ul243_1
             clear hcc243 hce243
             have HR243_1 := Aside0.mk hi243_1
             have HC243_1 := Aside0.mk hl243_1
             clear hi243_1 hl243_1
             replace p243 := eq_true p243
             replace q243 := eq_true q243
             go_wp2_with (first | ((with_reducible refine gate_dst (N := 14) rfl ?_); refine box_event ?hg (N := 14) ?hd (cs := #[.int .i64 0, .slice none 0 0]) (t := 46) ?hr ?_; (case hd => rfl); (case hg => rfl); (case hr => first | (go_simp; done) | (go_simp; rfl)); intro gb244 hg w27 hbox hb; have n0_ := Aside0.mk (Kd.V_below (Kd.V_elderB (by (with_reducible repeat (first | apply Kd.V_alloc | apply Kd.V_drewN | apply Kd.V_drew)); exact HO_0.out) gb244 (Nat.le_of_eq hg.symm)) hb); have n1_ := Aside0.mk (Kd.N_below (Kd.N_elderB (by (with_reducible repeat (first | apply Kd.N_alloc | apply Kd.N_drewN | apply Kd.N_drew)); exact HO_241002.out) gb244 (Nat.le_of_eq hg.symm)) hb); have n2_ := Aside0.mk (Kd.V_below (Kd.V_elderB (by (with_reducible repeat (first | apply Kd.V_alloc | apply Kd.V_drewN | apply Kd.V_drew)); exact HL241_2.out) gb244 (Nat.le_of_eq hg.symm)) hb); have n3_ := Aside0.mk (Kd.V_below (Kd.V_elderB (by (with_reducible repeat (first | apply Kd.V_alloc | apply Kd.V_drewN | apply Kd.V_drew)); exact HL242_2.out) gb244 (Nat.le_of_eq hg.symm)) hb); have n4_ := Aside0.mk (Kd.V_below (Kd.V_elderB (by (with_reducible repeat (first | apply Kd.V_alloc | apply Kd.V_drewN | apply Kd.V_drew)); exact HL243_1.out) gb244 (Nat.le_of_eq hg.symm)) hb); have n5_ := Aside0.mk (blk_below (g := gb240) (o := .cells #[.int .i64 a1, .int .i64 ((rd_T44 l0 t236).f1), u241002] 44 (0, 0)) (by (with_reducible repeat (first | refine blk_drewN ?_ _ | refine blk_drew ?_ | refine blk_alloc ?_ _)); exact BK240.out) hb); have n6_ := Aside0.mk (Kd.C_below (by repeat (first | (with_reducible exact HR241_2.out) | (with_reducible refine Kd.C_alloc ?_ _) | (with_reducible refine Kd.C_drewN ?_ _) | (with_reducible refine Kd.C_drew ?_) | exact HR241_2.out)) hb); have n7_ := Aside0.mk (Kd.C_below (by repeat (first | (with_reducible exact HR242_2.out) | (with_reducible refine Kd.C_alloc ?_ _) | (with_reducible refine Kd.C_drewN ?_ _) | (with_reducible refine Kd.C_drew ?_) | exact HR242_2.out)) hb); have n8_ := Aside0.mk (Kd.C_below (by repeat (first | (with_reducible exact HR243_1.out) | (with_reducible refine Kd.C_alloc ?_ _) | (with_reducible refine Kd.C_drewN ?_ _) | (with_reducible refine Kd.C_drew ?_) | exact HR243_1.out)) hb); have n9_ := Aside0.mk (below_step (by repeat (first | (with_reducible first | exact HB.out | apply below_alloc | apply pw_below_drewN | apply below_drew1 | refine below_set ?_ GE240.out) | exact HB.out)) hb); have n10_ := Aside0.mk (hbox); have n11_ := Aside0.mk ((by rw [hg]; exact (below_size (by repeat (first | (with_reducible first | exact HB.out | apply below_alloc | apply pw_below_drewN | apply below_drew1 | refine below_set ?_ GE240.out) | exact HB.out))) : w.heap.size ≤ gb244)); have n12_ := Aside0.mk ((by rw [hg]; exact (below_size (by repeat (first | (with_reducible first | exact HB.out | apply below_alloc | apply pw_below_drewN | apply below_drew1 | refine below_set ?_ GE240.out) | exact HB.out))) : w.heap.size ≤ gb244)); have n13_ := Aside0.mk ((by rw [hg]; exact Nat.ne_of_lt (blk_lt (g := gb240) (o := .cells #[.int .i64 a1, .int .i64 ((rd_T44 l0 t236).f1), u241002] 44 (0, 0)) (by (with_reducible repeat (first | refine blk_drewN ?_ _ | refine blk_drew ?_ | refine blk_alloc ?_ _)); exact BK240.out)) : gb240 ≠ gb244)); have n14_ := Aside0.mk ((by rw [hg]; exact Nat.ne_of_gt (blk_lt (g := gb240) (o := .cells #[.int .i64 a1, .int .i64 ((rd_T44 l0 t236).f1), u241002] 44 (0, 0)) (by (with_reducible repeat (first | refine blk_drewN ?_ _ | refine blk_drew ?_ | refine blk_alloc ?_ _)); exact BK240.out)) : gb244 ≠ gb240)); clear HO_0; clear HO_241002; clear HL241_2; clear HL242_2; clear HL243_1; clear BK240; clear HR241_2; clear HR242_2; clear HR243_1; clear HB; have HO_0 := n0_; have HO_241002 := n1_; have HL241_2 := n2_; have HL242_2 := n3_; have HL243_1 := n4_; have BK240 := n5_; have HR241_2 := n6_; have HR242_2 := n7_; have HR243_1 := n8_; have HB := n9_; have BK244 := n10_; have GW244 := n11_; have GE244 := n12_; have NB240_244 := n13_; have NB244_240 := n14_; clear n0_ n1_ n2_ n3_ n4_ n5_ n6_ n7_ n8_ n9_ n10_ n11_ n12_ n13_ n14_; clear hb hbox hg; have hnb28 := NB244_240.out; have hnc28 := NB240_244.out; have hcz29_0 : w27.cell? ⟨gb244, 0, none⟩ = some (.int .i64 0) := (blk_cell BK244.out 0).trans rfl; have hcz29_1 : w27.cell? ⟨gb244, 1, none⟩ = some (.slice none 0 0) := (blk_cell BK244.out 1).trans rfl; have hfz29_0 := blk_frozen BK244.out 0; have hfz29_1 := blk_frozen BK244.out 1))
             go_ret2
             exact ⟨_, by first | rfl | (simp [errW_none, errW_some] <;> rfl) | (simp [*, errW_none, errW_some] <;> rfl), by first | exact Kd.R_nil _ _ _ _ _ | exact Kd.N_nil _ _ _ _ _ | exact Kd.V_nil _ _ _ _ _ | exact Kd.Q_nil _ _ _ _ _ | exact Kd.S_nil _ _ _ _ _, by repeat (first | (with_reducible first | exact HB.out | apply below_alloc | apply pw_below_drewN | apply below_drew1 | refine below_set ?_ GE240.out | refine below_set ?_ GE244.out) | exact HB.out)⟩
            ·rw [if_neg c26] at H
             have c26b0 : (((rd_T46 ((rd_T44 l0 t236).f2) x13_2).f0) == a2) = false := beq_eq_false_iff_ne.mpr c26
             have c26b1 : (((rd_T46 ((rd_T44 l0 t236).f2) x13_2).f0) != a2) = true := bne_iff_ne.mpr c26
             by_cases c30 : ((rd_T46 ((rd_T44 l0 t236).f2) x13_2).f0) > a2
             ·rw [if_pos c30] at H
              have c30b0 : decide (a2 < ((rd_T46 ((rd_T44 l0 t236).f2) x13_2).f0)) = true := decide_eq_true c30
              clear c30
              by_cases c31 : x12_2 = true
              ·subst c31
               have H1 : (if x241002_2.length < 4398046511104 then (musterref09_Done.l0 k2 l0 a2 l3 t236 true (wrap64 (x13_2 + 1)) a1 ((rd_T44 l0 t236).f1) (x241002_2 ++ [(⟨(rd_T46 ((rd_T44 l0 t236).f2) x13_2).f0, (rd_T46 ((rd_T44 l0 t236).f2) x13_2).f1⟩ : S46)])) else (none)) = some (r1, r2) := by rw [if_pos rfl] at H; exact H
               clear H
               have H := H1
               clear H1
               by_cases c32 : x241002_2.length < 4398046511104
               ·rw [if_pos c32] at H
                have LMc32 := Aside0.mk c32
                clear c32
                obtain ⟨y245, hy245⟩ : ∃ y_ : List (S46), y_ = (x241002_2 ++ [(⟨(rd_T46 ((rd_T44 l0 t236).f2) x13_2).f0, (rd_T46 ((rd_T44 l0 t236).f2) x13_2).f1⟩ : S46)]) := ⟨_, rfl⟩
                replace H : (musterref09_Done.l0 k2 l0 a2 l3 t236 true (wrap64 (x13_2 + 1)) a1 ((rd_T44 l0 t236).f1) y245) = some (r1, r2) := by first | (rw [hy245]; with_reducible exact H) | (have H2_ := (Option.bind_some _ _).symm.trans H; rw [hy245]; with_reducible exact H2_) | (have H2_ := (Option.bind_some _ _).symm.trans H; with_reducible exact H2_) | with_reducible exact H | (rw [hy245]; exact H) | exact H
                have Ny245 := Aside0.mk hy245
                clear hy245
                have H' := Aside0.mk H
                clear H
                have p241 : 0 ≤ (t236 : Int) := of_decide_eq_true (by first | (with_reducible assumption) | assumption)
                have q241 : t236 < (l0.length : Int) := of_decide_eq_true (by first | (with_reducible assumption) | assumption)
                obtain ⟨ad241, A241_2, c241_2, e241, hx241_0, hx241_1, hx241_2, hl241_2, hi241_2⟩ := at_T44 (Kd.V_reads' HO_0.out).2.2 t236 p241 q241
                obtain rfl : ad239 = ad241 := (by injection e241)
                obtain ⟨ce241, hce241, hMe241, hcc241⟩ := Kd.V_get HO_0.out z44 t236 p241 (by first | exact q241 | exact of_decide_eq_true (by first | (with_reducible assumption) | assumption) | (have e_ := (Kd.V_reads' HO_0.out).1; omega))
                obtain ⟨ua241_2, uc241_2, rfl, ul241_2, ge241_2⟩ := k44_openF hMe241
                have hv241_2 := hcc241 2 _ rfl
                rw [add_field _ _ 2 (by omega)] at hv241_2
                replace hv241_2 := Option.some.inj (hv241_2.symm.trans hx241_2)
                injection hv241_2 with hva_ hvn_ hvc_
                rw [hva_] at ge241_2
                rw [hvc_] at ul241_2
                have HL241_2 := Aside0.mk (show Kd.V k46 46 _ w.heap.size _ _ ((rd_T44 l0 t236).f2) from Kd.V_mk ul241_2 ge241_2)
                clear hva_ hvn_ hvc_ ge241_2 ul241_2
                clear hcc241 hce241
                have HR241_2 := Aside0.mk hi241_2
                have HC241_2 := Aside0.mk hl241_2
                clear hi241_2 hl241_2
                replace p241 := eq_true p241
                replace q241 := eq_true q241
                have p242 : 0 ≤ (t236 : Int) := of_decide_eq_true (by first | (with_reducible assumption) | assumption)
                have q242 : t236 < (l0.length : Int) := of_decide_eq_true (by first | (with_reducible assumption) | assumption)
                obtain ⟨ad242, A242_2, c242_2, e242, hx242_0, hx242_1, hx242_2, hl242_2, hi242_2⟩ := at_T44 (Kd.V_reads' HO_0.out).2.2 t236 p242 q242
                obtain rfl : ad239 = ad242 := (by injection e242)
                obtain ⟨ce242, hce242, hMe242, hcc242⟩ := Kd.V_get HO_0.out z44 t236 p242 (by first | exact q242 | exact of_decide_eq_true (by first | (with_reducible assumption) | assumption) | (have e_ := (Kd.V_reads' HO_0.out).1; omega))
                obtain ⟨ua242_2, uc242_2, rfl, ul242_2, ge242_2⟩ := k44_openF hMe242
                have hv242_2 := hcc242 2 _ rfl
                rw [add_field _ _ 2 (by omega)] at hv242_2
                replace hv242_2 := Option.some.inj (hv242_2.symm.trans hx242_2)
                injection hv242_2 with hva_ hvn_ hvc_
                rw [hva_] at ge242_2
                rw [hvc_] at ul242_2
                have HL242_2 := Aside0.mk (show Kd.V k46 46 _ w.heap.size _ _ ((rd_T44 l0 t236).f2) from Kd.V_mk ul242_2 ge242_2)
                clear hva_ hvn_ hvc_ ge242_2 ul242_2
                clear hcc242 hce242
                have HR242_2 := Aside0.mk hi242_2
                have HC242_2 := Aside0.mk hl242_2
                clear hi242_2 hl242_2
                replace p242 := eq_true p242
                replace q242 := eq_true q242
                have ea_ := Option.some.inj (hx241_2.symm.trans hx242_2)
                injection ea_ with ea_ en_ ec_
                subst ea_
                subst ec_
                clear en_
                have p243 : 0 ≤ (x13_2 : Int) := of_decide_eq_true (by first | (with_reducible assumption) | assumption)
                have q243 : x13_2 < (((rd_T44 l0 t236).f2).length : Int) := of_decide_eq_true (by first | (with_reducible assumption) | assumption)
                obtain ⟨ad243, A243_1, c243_1, e243, hx243_0, hx243_1, hl243_1, hi243_1⟩ := at_T46 (by repeat (first | (with_reducible exact HR242_2.out) | (with_reducible refine Kd.C_alloc ?_ _) | (with_reducible refine Kd.C_drewN ?_ _) | (with_reducible refine Kd.C_drew ?_) | exact HR242_2.out)) x13_2 p243 q243
                cases e243
                obtain ⟨ce243, hce243, hMe243, hcc243⟩ := Kd.V_get HL242_2.out z46 x13_2 p243 (by first | exact q243 | exact of_decide_eq_true (by first | (with_reducible assumption) | assumption) | (have e_ := (Kd.V_reads' HL242_2.out).1; omega))
                obtain ⟨ua243_1, uc243_1, rfl, ul243_1, ge243_1⟩ := k46_openF hMe243
                have hv243_1 := hcc243 1 _ rfl
                rw [add_field _ _ 1 (by omega)] at hv243_1
                replace hv243_1 := Option.some.inj (hv243_1.symm.trans hx243_1)
                injection hv243_1 with hva_ hvn_ hvc_
                rw [hva_] at ge243_1
                rw [hvc_] at ul243_1
                have HL243_1 := Aside0.mk (show Kd.V (Kd.int .u8) 5 _ w.heap.size _ _ ((rd_T46 ((rd_T44 l0 t236).f2) x13_2).f1) from Kd.V_mk ul243_1 ge243_1)
                clear hva_ hvn_ hvc_ ge243_1 ul243_1
                clear hcc243 hce243
                have HR243_1 := Aside0.mk hi243_1
                have HC243_1 := Aside0.mk hl243_1
                clear hi243_1 hl243_1
                replace p243 := eq_true p243
                replace q243 := eq_true q243
                go_wp2_with (first | ((with_reducible refine gate_dst (N := 14) rfl ?_); refine box_event ?hg (N := 14) ?hd (cs := #[.int .i64 0, .slice none 0 0]) (t := 46) ?hr ?_; (case hd => rfl); (case hg => rfl); (case hr => first | (go_simp; done) | (go_simp; rfl)); intro gb244 hg w33 hbox hb; have n0_ := Aside0.mk (Kd.V_below (Kd.V_elderB (by (with_reducible repeat (first | apply Kd.V_alloc | apply Kd.V_drewN | apply Kd.V_drew)); exact HO_0.out) gb244 (Nat.le_of_eq hg.symm)) hb); have n1_ := Aside0.mk (Kd.N_below (Kd.N_elderB (by (with_reducible repeat (first | apply Kd.N_alloc | apply Kd.N_drewN | apply Kd.N_drew)); exact HO_241002.out) gb244 (Nat.le_of_eq hg.symm)) hb); have n2_ := Aside0.mk (Kd.V_below (Kd.V_elderB (by (with_reducible repeat (first | apply Kd.V_alloc | apply Kd.V_drewN | apply Kd.V_drew)); exact HL241_2.out) gb244 (Nat.le_of_eq hg.symm)) hb); have n3_ := Aside0.mk (Kd.V_below (Kd.V_elderB (by (with_reducible repeat (first | apply Kd.V_alloc | apply Kd.V_drewN | apply Kd.V_drew)); exact HL242_2.out) gb244 (Nat.le_of_eq hg.symm)) hb); have n4_ := Aside0.mk (Kd.V_below (Kd.V_elderB (by (with_reducible repeat (first | apply Kd.V_alloc | apply Kd.V_drewN | apply Kd.V_drew)); exact HL243_1.out) gb244 (Nat.le_of_eq hg.symm)) hb); have n5_ := Aside0.mk (blk_below (g := gb240) (o := .cells #[.int .i64 a1, .int .i64 ((rd_T44 l0 t236).f1), u241002] 44 (0, 0)) (by (with_reducible repeat (first | refine blk_drewN ?_ _ | refine blk_drew ?_ | refine blk_alloc ?_ _)); exact BK240.out) hb); have n6_ := Aside0.mk (Kd.C_below (by repeat (first | (with_reducible exact HR241_2.out) | (with_reducible refine Kd.C_alloc ?_ _) | (with_reducible refine Kd.C_drewN ?_ _) | (with_reducible refine Kd.C_drew ?_) | exact HR241_2.out)) hb); have n7_ := Aside0.mk (Kd.C_below (by repeat (first | (with_reducible exact HR242_2.out) | (with_reducible refine Kd.C_alloc ?_ _) | (with_reducible refine Kd.C_drewN ?_ _) | (with_reducible refine Kd.C_drew ?_) | exact HR242_2.out)) hb); have n8_ := Aside0.mk (Kd.C_below (by repeat (first | (with_reducible exact HR243_1.out) | (with_reducible refine Kd.C_alloc ?_ _) | (with_reducible refine Kd.C_drewN ?_ _) | (with_reducible refine Kd.C_drew ?_) | exact HR243_1.out)) hb); have n9_ := Aside0.mk (below_step (by repeat (first | (with_reducible first | exact HB.out | apply below_alloc | apply pw_below_drewN | apply below_drew1 | refine below_set ?_ GE240.out) | exact HB.out)) hb); have n10_ := Aside0.mk (hbox); have n11_ := Aside0.mk ((by rw [hg]; exact (below_size (by repeat (first | (with_reducible first | exact HB.out | apply below_alloc | apply pw_below_drewN | apply below_drew1 | refine below_set ?_ GE240.out) | exact HB.out))) : w.heap.size ≤ gb244)); have n12_ := Aside0.mk ((by rw [hg]; exact (below_size (by repeat (first | (with_reducible first | exact HB.out | apply below_alloc | apply pw_below_drewN | apply below_drew1 | refine below_set ?_ GE240.out) | exact HB.out))) : w.heap.size ≤ gb244)); have n13_ := Aside0.mk ((by rw [hg]; exact Nat.ne_of_lt (blk_lt (g := gb240) (o := .cells #[.int .i64 a1, .int .i64 ((rd_T44 l0 t236).f1), u241002] 44 (0, 0)) (by (with_reducible repeat (first | refine blk_drewN ?_ _ | refine blk_drew ?_ | refine blk_alloc ?_ _)); exact BK240.out)) : gb240 ≠ gb244)); have n14_ := Aside0.mk ((by rw [hg]; exact Nat.ne_of_gt (blk_lt (g := gb240) (o := .cells #[.int .i64 a1, .int .i64 ((rd_T44 l0 t236).f1), u241002] 44 (0, 0)) (by (with_reducible repeat (first | refine blk_drewN ?_ _ | refine blk_drew ?_ | refine blk_alloc ?_ _)); exact BK240.out)) : gb244 ≠ gb240)); clear HO_0; clear HO_241002; clear HL241_2; clear HL242_2; clear HL243_1; clear BK240; clear HR241_2; clear HR242_2; clear HR243_1; clear HB; have HO_0 := n0_; have HO_241002 := n1_; have HL241_2 := n2_; have HL242_2 := n3_; have HL243_1 := n4_; have BK240 := n5_; have HR241_2 := n6_; have HR242_2 := n7_; have HR243_1 := n8_; have HB := n9_; have BK244 := n10_; have GW244 := n11_; have GE244 := n12_; have NB240_244 := n13_; have NB244_240 := n14_; clear n0_ n1_ n2_ n3_ n4_ n5_ n6_ n7_ n8_ n9_ n10_ n11_ n12_ n13_ n14_; clear hb hbox hg; have hnb34 := NB244_240.out; have hnc34 := NB240_244.out; have hcz35_0 : w33.cell? ⟨gb244, 0, none⟩ = some (.int .i64 0) := (blk_cell BK244.out 0).trans rfl; have hcz35_1 : w33.cell? ⟨gb244, 1, none⟩ = some (.slice none 0 0) := (blk_cell BK244.out 1).trans rfl; have hfz35_0 := blk_frozen BK244.out 0; have hfz35_1 := blk_frozen BK244.out 1) | ((with_reducible refine gate_store (t := 46) (p := 14) rfl ?_); refine store_event (t := 46) (p := 14) (v := ?vo_w36) (w1 := ((w33.setCell ⟨gb244, 0, none⟩ (.int .i64 ((rd_T46 ((rd_T44 l0 t236).f2) x13_2).f0))).setCell ⟨gb244, 1, none⟩ (.slice A243_1 ((rd_T46 ((rd_T44 l0 t236).f2) x13_2).f1).length c243_1))) ?hg ?ho ?hn ?hr ?_; (case ho => rfl); (case hg => rfl); (case hn => rfl); (case hr => first | (go_simp; done) | (go_simp; rfl)); intro w36 hw; have n0_ : Aside0 (Kd.V k44 44 w36 w.heap.size (fun k_ => (P0_ k_ ∨ w.heap.size ≤ k_) ∧ some k_ ≠ (u241002 : Value).ownBlock ∧ k_ ≠ gb240 ∧ k_ ≠ gb244) (.slice (some ad239) l0.length c0) l0) := ⟨(by rw [hw]; exact (by (with_reducible repeat (first | apply Kd.V_alloc | apply Kd.V_drewN | apply Kd.V_drew)); exact Kd.V_mono (Kd.V_far (p := ⟨gb244, 1, none⟩) (Kd.V_far (p := ⟨gb244, 0, none⟩) (Kd.V_mono HO_0.out (fun k_ hk => (⟨hk, hk.2⟩ : _ ∧ k_ ≠ gb244))) (fun _ hk => hk.2) (.int .i64 ((rd_T46 ((rd_T44 l0 t236).f2) x13_2).f0))) (fun _ hk => hk.2) (.slice A243_1 ((rd_T46 ((rd_T44 l0 t236).f2) x13_2).f1).length c243_1)) (fun _ hk => ⟨hk.1.1.1, ⟨hk.1.1.2.1, ⟨hk.1.1.2.2, hk.1.2⟩⟩⟩)))⟩; have n1_ : Aside0 (Kd.N k46 46 w36 w.heap.size (fun k_ => (P0_ k_ ∨ w.heap.size ≤ k_) ∧ k_ ≠ gb240 ∧ k_ ≠ gb244) u241002 x241002_2) := ⟨(by rw [hw]; exact (by (with_reducible repeat (first | apply Kd.N_alloc | apply Kd.N_drewN | apply Kd.N_drew)); exact Kd.N_mono (Kd.N_far (p := ⟨gb244, 1, none⟩) (Kd.N_far (p := ⟨gb244, 0, none⟩) (Kd.N_mono HO_241002.out (fun k_ hk => (⟨hk, hk.2⟩ : _ ∧ k_ ≠ gb244))) (fun _ hk => hk.2) (.int .i64 ((rd_T46 ((rd_T44 l0 t236).f2) x13_2).f0))) (fun _ hk => hk.2) (.slice A243_1 ((rd_T46 ((rd_T44 l0 t236).f2) x13_2).f1).length c243_1)) (fun _ hk => ⟨hk.1.1.1, ⟨hk.1.1.2, hk.1.2⟩⟩)))⟩; have n2_ : Aside0 (Kd.V k46 46 w36 w.heap.size (fun k_ => (P0_ k_ ∨ w.heap.size ≤ k_) ∧ some k_ ≠ (u241002 : Value).ownBlock ∧ k_ ≠ gb240 ∧ k_ ≠ gb244) (.slice (some ad243) ((rd_T44 l0 t236).f2).length c241_2) ((rd_T44 l0 t236).f2)) := ⟨(by rw [hw]; exact (by (with_reducible repeat (first | apply Kd.V_alloc | apply Kd.V_drewN | apply Kd.V_drew)); exact Kd.V_mono (Kd.V_far (p := ⟨gb244, 1, none⟩) (Kd.V_far (p := ⟨gb244, 0, none⟩) (Kd.V_mono HL241_2.out (fun k_ hk => (⟨hk, hk.2⟩ : _ ∧ k_ ≠ gb244))) (fun _ hk => hk.2) (.int .i64 ((rd_T46 ((rd_T44 l0 t236).f2) x13_2).f0))) (fun _ hk => hk.2) (.slice A243_1 ((rd_T46 ((rd_T44 l0 t236).f2) x13_2).f1).length c243_1)) (fun _ hk => ⟨hk.1.1.1, ⟨hk.1.1.2.1, ⟨hk.1.1.2.2, hk.1.2⟩⟩⟩)))⟩; have n3_ : Aside0 (Kd.V k46 46 w36 w.heap.size (fun k_ => (P0_ k_ ∨ w.heap.size ≤ k_) ∧ some k_ ≠ (u241002 : Value).ownBlock ∧ k_ ≠ gb240 ∧ k_ ≠ gb244) (.slice (some ad243) ((rd_T44 l0 t236).f2).length c241_2) ((rd_T44 l0 t236).f2)) := ⟨(by rw [hw]; exact (by (with_reducible repeat (first | apply Kd.V_alloc | apply Kd.V_drewN | apply Kd.V_drew)); exact Kd.V_mono (Kd.V_far (p := ⟨gb244, 1, none⟩) (Kd.V_far (p := ⟨gb244, 0, none⟩) (Kd.V_mono HL242_2.out (fun k_ hk => (⟨hk, hk.2⟩ : _ ∧ k_ ≠ gb244))) (fun _ hk => hk.2) (.int .i64 ((rd_T46 ((rd_T44 l0 t236).f2) x13_2).f0))) (fun _ hk => hk.2) (.slice A243_1 ((rd_T46 ((rd_T44 l0 t236).f2) x13_2).f1).length c243_1)) (fun _ hk => ⟨hk.1.1.1, ⟨hk.1.1.2.1, ⟨hk.1.1.2.2, hk.1.2⟩⟩⟩)))⟩; have n4_ : Aside0 (Kd.V (Kd.int .u8) 5 w36 w.heap.size (fun k_ => (P0_ k_ ∨ w.heap.size ≤ k_) ∧ some k_ ≠ (u241002 : Value).ownBlock ∧ k_ ≠ gb240 ∧ k_ ≠ gb244) (.slice A243_1 ((rd_T46 ((rd_T44 l0 t236).f2) x13_2).f1).length c243_1) ((rd_T46 ((rd_T44 l0 t236).f2) x13_2).f1)) := ⟨(by rw [hw]; exact (by (with_reducible repeat (first | apply Kd.V_alloc | apply Kd.V_drewN | apply Kd.V_drew)); exact Kd.V_mono (Kd.V_far (p := ⟨gb244, 1, none⟩) (Kd.V_far (p := ⟨gb244, 0, none⟩) (Kd.V_mono HL243_1.out (fun k_ hk => (⟨hk, hk.2⟩ : _ ∧ k_ ≠ gb244))) (fun _ hk => hk.2) (.int .i64 ((rd_T46 ((rd_T44 l0 t236).f2) x13_2).f0))) (fun _ hk => hk.2) (.slice A243_1 ((rd_T46 ((rd_T44 l0 t236).f2) x13_2).f1).length c243_1)) (fun _ hk => ⟨hk.1.1.1, ⟨hk.1.1.2.1, ⟨hk.1.1.2.2, hk.1.2⟩⟩⟩)))⟩; have n5_ : Aside0 (w36.heap[gb240]? = some (.cells #[.int .i64 a1, .int .i64 ((rd_T44 l0 t236).f1), u241002] 44 (0, 0))) := ⟨(by rw [hw]; exact (by (with_reducible repeat (first | refine blk_drewN ?_ _ | refine blk_drew ?_ | refine blk_alloc ?_ _)); refine blk_far ?_ NB240_244.out _; (with_reducible repeat (first | refine blk_drewN ?_ _ | refine blk_drew ?_ | refine blk_alloc ?_ _)); refine blk_far ?_ NB240_244.out _; (with_reducible repeat (first | refine blk_drewN ?_ _ | refine blk_drew ?_ | refine blk_alloc ?_ _)); exact BK240.out))⟩; have n6_ : Aside0 (w36.heap[gb244]? = some (.cells #[.int .i64 ((rd_T46 ((rd_T44 l0 t236).f2) x13_2).f0), .slice A243_1 ((rd_T46 ((rd_T44 l0 t236).f2) x13_2).f1).length c243_1] 46 (0, 0))) := ⟨(by rw [hw]; exact (by (with_reducible repeat (first | refine blk_drewN ?_ _ | refine blk_drew ?_ | refine blk_alloc ?_ _)); refine blk_put (cs := #[.int .i64 ((rd_T46 ((rd_T44 l0 t236).f2) x13_2).f0), .slice none 0 0]) ?_ 1 _ rfl; (with_reducible repeat (first | refine blk_drewN ?_ _ | refine blk_drew ?_ | refine blk_alloc ?_ _)); refine blk_put (cs := #[.int .i64 0, .slice none 0 0]) ?_ 0 _ rfl; (with_reducible repeat (first | refine blk_drewN ?_ _ | refine blk_drew ?_ | refine blk_alloc ?_ _)); exact BK244.out))⟩; have n7_ : Aside0 (Below w.heap.size w w36) := ⟨(by rw [hw]; exact (by repeat (first | (with_reducible first | exact HB.out | apply below_alloc | apply pw_below_drewN | apply below_drew1 | refine below_set ?_ GE240.out | refine below_set ?_ GE244.out) | exact HB.out)))⟩; clear hw; clear HO_0; clear HO_241002; clear HL241_2; clear HL242_2; clear HL243_1; clear BK240; clear BK244; clear HB; have HO_0 := n0_; have HO_241002 := n1_; have HL241_2 := n2_; have HL242_2 := n3_; have HL243_1 := n4_; have BK240 := n5_; have BK244 := n6_; have HB := n7_; clear n0_ n1_ n2_ n3_ n4_ n5_ n6_ n7_; have hcz37_0 : w36.cell? ⟨gb244, 0, none⟩ = some (.int .i64 ((rd_T46 ((rd_T44 l0 t236).f2) x13_2).f0)) := (blk_cell BK244.out 0).trans rfl; have hcz37_1 : w36.cell? ⟨gb244, 1, none⟩ = some (.slice A243_1 ((rd_T46 ((rd_T44 l0 t236).f2) x13_2).f1).length c243_1) := (blk_cell BK244.out 1).trans rfl; have hfz37_0 := blk_frozen BK244.out 0; have hfz37_1 := blk_frozen BK244.out 1; have hcz38_0 : w36.cell? ⟨gb240, 0, none⟩ = some (.int .i64 a1) := (blk_cell BK240.out 0).trans rfl; have hcz38_1 : w36.cell? ⟨gb240, 1, none⟩ = some (.int .i64 ((rd_T44 l0 t236).f1)) := (blk_cell BK240.out 1).trans rfl; have hcz38_2 : w36.cell? ⟨gb240, 2, none⟩ = some (u241002) := (blk_cell BK240.out 2).trans rfl; have hfz38_0 := blk_frozen BK240.out 0; have hfz38_1 := blk_frozen BK240.out 1; have hfz38_2 := blk_frozen BK240.out 2) | ((with_reducible refine gate_builtin (b := .append) (xs := #[.tmp 85, .tmp 87]) rfl ?_); at_builtin; refine Kd.N_append k46 (w0 := w) w.heap.size rfl (.tmp 85) (.tmp 87) 42 46 (.agg #[(.int .i64 0), (.slice none 0 0)]) 32 rfl Try.underlying42 info46 rfl (by decide) (by omega) u241002 x241002_2 (⟨(rd_T46 ((rd_T44 l0 t236).f2) x13_2).f0, (rd_T46 ((rd_T44 l0 t236).f2) x13_2).f1⟩ : S46) [.int .i64 ((rd_T46 ((rd_T44 l0 t236).f2) x13_2).f0), .slice A243_1 ((rd_T46 ((rd_T44 l0 t236).f2) x13_2).f1).length c243_1] (fun k_ => (P0_ k_ ∨ w.heap.size ≤ k_) ∧ k_ ≠ gb240 ∧ k_ ≠ gb244) (fun k_ => ((fun k_ => (P0_ k_ ∨ w.heap.size ≤ k_) ∧ k_ ≠ gb240 ∧ k_ ≠ gb244)) k_ ∧ some k_ ≠ (u241002 : Value).ownBlock) rfl rfl ?aP (fun _ hk => hk) ?aF ?aO ?aB ?aS ?aL ?_; (case aP => first | exact (k46_mkF _ _ (⟨(rd_T46 ((rd_T44 l0 t236).f2) x13_2).f0, (rd_T46 ((rd_T44 l0 t236).f2) x13_2).f1⟩ : S46) (Kd.V_reads' (Kd.V_mono (ok' := (fun k_ => ((fun k_ => (P0_ k_ ∨ w.heap.size ≤ k_) ∧ k_ ≠ gb240 ∧ k_ ≠ gb244)) k_ ∧ some k_ ≠ (u241002 : Value).ownBlock)) (HL243_1.out) (fun k_ hk => ⟨⟨hk.1, ⟨hk.2.2.1, hk.2.2.2⟩⟩, hk.2.1⟩))).2.1 (Kd.V_F (Kd.V_mono (ok' := (fun k_ => ((fun k_ => (P0_ k_ ∨ w.heap.size ≤ k_) ∧ k_ ≠ gb240 ∧ k_ ≠ gb244)) k_ ∧ some k_ ≠ (u241002 : Value).ownBlock)) (HL243_1.out) (fun k_ hk => ⟨⟨hk.1, ⟨hk.2.2.1, hk.2.2.2⟩⟩, hk.2.1⟩)))) | exact (k46_mkF _ _ (⟨(rd_T46 ((rd_T44 l0 t236).f2) x13_2).f0, (rd_T46 ((rd_T44 l0 t236).f2) x13_2).f1⟩ : S46) (Kd.V_reads' (Kd.V_mono (ok' := (fun k_ => ((fun k_ => (P0_ k_ ∨ w.heap.size ≤ k_) ∧ k_ ≠ gb240 ∧ k_ ≠ gb244)) k_ ∧ some k_ ≠ (u241002 : Value).ownBlock)) (HL243_1.out) (fun k_ hk => ⟨⟨hk.1, ⟨hk.2.2.1, hk.2.2.2⟩⟩, hk.2.1⟩))).2.1 (Kd.V_F (Kd.V_mono (ok' := (fun k_ => ((fun k_ => (P0_ k_ ∨ w.heap.size ≤ k_) ∧ k_ ≠ gb240 ∧ k_ ≠ gb244)) k_ ∧ some k_ ≠ (u241002 : Value).ownBlock)) (Kd.V_drewN (HL243_1.out) _) (fun k_ hk => ⟨⟨hk.1, ⟨hk.2.2.1, hk.2.2.2⟩⟩, hk.2.1⟩))))); (case aB => exact (by repeat (first | (with_reducible first | exact HB.out | apply below_alloc | apply pw_below_drewN | apply below_drew1 | refine below_set ?_ GE240.out | refine below_set ?_ GE244.out) | exact HB.out))); (case aF => exact (fun k_ hk => ⟨(.inr (Nat.le_trans (below_size (by repeat (first | (with_reducible first | exact HB.out | apply below_alloc | apply pw_below_drewN | apply below_drew1 | refine below_set ?_ GE240.out | refine below_set ?_ GE244.out) | exact HB.out))) hk)), Kd.freshB (g := gb240) (o := .cells #[.int .i64 a1, .int .i64 ((rd_T44 l0 t236).f1), u241002] 44 (0, 0)) (by (with_reducible repeat (first | refine blk_drewN ?_ _ | refine blk_drew ?_ | refine blk_alloc ?_ _)); exact BK240.out) k_ hk, Kd.freshB (g := gb244) (o := .cells #[.int .i64 ((rd_T46 ((rd_T44 l0 t236).f2) x13_2).f0), .slice A243_1 ((rd_T46 ((rd_T44 l0 t236).f2) x13_2).f1).length c243_1] 46 (0, 0)) (by (with_reducible repeat (first | refine blk_drewN ?_ _ | refine blk_drew ?_ | refine blk_alloc ?_ _)); exact BK244.out) k_ hk⟩)); (case aO => exact (by (with_reducible repeat (first | apply Kd.N_alloc | apply Kd.N_drewN | apply Kd.N_drew)); exact HO_241002.out)); (case aS => exact (below_size (by repeat (first | (with_reducible first | exact HB.out | apply below_alloc | apply pw_below_drewN | apply below_drew1 | refine below_set ?_ GE240.out | refine below_set ?_ GE244.out) | exact HB.out)))); (case aL => have := LMc32.out; omega); intro v246 w39 ho hb hg hat; rw [← Ny245.out] at ho; have n0_ := Aside0.mk (Kd.V_afterv (ok := (fun k_ => (P0_ k_ ∨ w.heap.size ≤ k_) ∧ k_ ≠ gb240 ∧ k_ ≠ gb244)) (by (with_reducible repeat (first | apply Kd.V_alloc | apply Kd.V_drewN | apply Kd.V_drew)); exact Kd.V_mono HO_0.out (fun _ hk => ⟨⟨hk.1, ⟨hk.2.2.1, hk.2.2.2⟩⟩, hk.2.1⟩)) hg hat); have n1_ := Aside0.mk (blk_grown (g := gb240) (o := .cells #[.int .i64 a1, .int .i64 ((rd_T44 l0 t236).f1), u241002] 44 (0, 0)) (by (with_reducible repeat (first | refine blk_drewN ?_ _ | refine blk_drew ?_ | refine blk_alloc ?_ _)); exact BK240.out) hg (Kd.N_ne HO_241002.out BK240.out (by decide))); have n2_ := Aside0.mk (Kd.V_afterv (ok := (fun k_ => (P0_ k_ ∨ w.heap.size ≤ k_) ∧ k_ ≠ gb240 ∧ k_ ≠ gb244)) (by (with_reducible repeat (first | apply Kd.V_alloc | apply Kd.V_drewN | apply Kd.V_drew)); exact Kd.V_mono HL241_2.out (fun _ hk => ⟨⟨hk.1, ⟨hk.2.2.1, hk.2.2.2⟩⟩, hk.2.1⟩)) hg hat); have n3_ := Aside0.mk (Kd.V_afterv (ok := (fun k_ => (P0_ k_ ∨ w.heap.size ≤ k_) ∧ k_ ≠ gb240 ∧ k_ ≠ gb244)) (by (with_reducible repeat (first | apply Kd.V_alloc | apply Kd.V_drewN | apply Kd.V_drew)); exact Kd.V_mono HL242_2.out (fun _ hk => ⟨⟨hk.1, ⟨hk.2.2.1, hk.2.2.2⟩⟩, hk.2.1⟩)) hg hat); have n4_ := Aside0.mk (Kd.V_afterv (ok := (fun k_ => (P0_ k_ ∨ w.heap.size ≤ k_) ∧ k_ ≠ gb240 ∧ k_ ≠ gb244)) (by (with_reducible repeat (first | apply Kd.V_alloc | apply Kd.V_drewN | apply Kd.V_drew)); exact Kd.V_mono HL243_1.out (fun _ hk => ⟨⟨hk.1, ⟨hk.2.2.1, hk.2.2.2⟩⟩, hk.2.1⟩)) hg hat); have n5_ := Aside0.mk (blk_grown (g := gb244) (o := .cells #[.int .i64 ((rd_T46 ((rd_T44 l0 t236).f2) x13_2).f0), .slice A243_1 ((rd_T46 ((rd_T44 l0 t236).f2) x13_2).f1).length c243_1] 46 (0, 0)) (by (with_reducible repeat (first | refine blk_drewN ?_ _ | refine blk_drew ?_ | refine blk_alloc ?_ _)); exact BK244.out) hg (Kd.N_away HO_241002.out (fun _ hk => hk.2.2))); have n6_ := Aside0.mk (hb); have n7_ := Aside0.mk (ho); clear HO_0; clear BK240; clear HL241_2; clear HL242_2; clear HL243_1; clear BK244; clear HB; clear HO_241002; have HO_0 := n0_; have BK240 := n1_; have HL241_2 := n2_; have HL242_2 := n3_; have HL243_1 := n4_; have BK244 := n5_; have HB := n6_; have HO247 := n7_; clear n0_ n1_ n2_ n3_ n4_ n5_ n6_ n7_; clear ho hb hg hat; obtain ⟨Ao40, co40, eo40⟩ := Kd.N_slice HO247.out; subst eo40; have hcz41_0 : w39.cell? ⟨gb240, 0, none⟩ = some (.int .i64 a1) := (blk_cell BK240.out 0).trans rfl; have hcz41_1 : w39.cell? ⟨gb240, 1, none⟩ = some (.int .i64 ((rd_T44 l0 t236).f1)) := (blk_cell BK240.out 1).trans rfl; have hcz41_2 : w39.cell? ⟨gb240, 2, none⟩ = some (u241002) := (blk_cell BK240.out 2).trans rfl; have hfz41_0 := blk_frozen BK240.out 0; have hfz41_1 := blk_frozen BK240.out 1; have hfz41_2 := blk_frozen BK240.out 2))
                go_roundg k2
                case measure => have := HJ5.out; have := HK2.out; omega
                case rel => exact ⟨(true), (wrap64 (x13_2 + 1)), (y245), (.slice Ao40 y245.length co40), (by first | rfl | (simp; done) | (simp [*]; done)), (by first | rfl | (simp; done) | (simp [*]; done)), H', ⟨by have := HJ5.out; have := HK2.out; omega⟩, ⟨by (with_reducible repeat (first | apply Kd.V_alloc | apply Kd.V_drewN | apply Kd.V_drew)); exact Kd.V_mono (Kd.V_far (p := ⟨gb240, 2, none⟩) (Kd.V_mono HO_0.out (fun k_ hk => (⟨hk, hk.1.2.1⟩ : _ ∧ k_ ≠ gb240))) (fun _ hk => hk.2) (.slice Ao40 y245.length co40)) (fun _ hk => ⟨hk.1.1.1, ⟨hk.1.2, hk.1.1.2.1⟩⟩)⟩, ⟨by (with_reducible repeat (first | apply Kd.N_alloc | apply Kd.N_drewN | apply Kd.N_drew)); exact Kd.N_mono (Kd.N_far (p := ⟨gb240, 2, none⟩) (Kd.N_mono HO247.out (fun k_ hk => (⟨hk, hk.2.1⟩ : _ ∧ k_ ≠ gb240))) (fun _ hk => hk.2) (.slice Ao40 y245.length co40)) (fun _ hk => ⟨hk.1.1, hk.1.2.1⟩)⟩, ⟨by (with_reducible repeat (first | refine blk_drewN ?_ _ | refine blk_drew ?_ | refine blk_alloc ?_ _)); refine blk_put (cs := #[.int .i64 a1, .int .i64 ((rd_T44 l0 t236).f1), u241002]) ?_ 2 _ rfl; (with_reducible repeat (first | refine blk_drewN ?_ _ | refine blk_drew ?_ | refine blk_alloc ?_ _)); exact BK240.out⟩, ⟨by repeat (first | (with_reducible first | exact HB.out | apply below_alloc | apply pw_below_drewN | apply below_drew1 | refine below_set ?_ GE240.out | refine below_set ?_ GE244.out) | exact HB.out)⟩⟩
               ·rw [if_neg c32] at H
                exact absurd H (by simp)
              ·replace c31 := Bool.eq_false_iff.mpr c31
               subst c31
               have H1 : ((musterlow_CopyBytes.f l3).bind fun t248 => (if x241002_2.length < 4398046511104 then ((some (x241002_2 ++ [(⟨a2, t248⟩ : S46)] : List (S46))).bind fun y251 => (if y251.length < 4398046511104 then (musterref09_Done.l0 k2 l0 a2 l3 t236 true (wrap64 (x13_2 + 1)) a1 ((rd_T44 l0 t236).f1) (y251 ++ [(⟨(rd_T46 ((rd_T44 l0 t236).f2) x13_2).f0, (rd_T46 ((rd_T44 l0 t236).f2) x13_2).f1⟩ : S46)])) else (none))) else (none))) = some (r1, r2) := by rw [if_neg (show ¬ (false = true) by decide)] at H; exact H
               clear H
               have H := H1
               clear H1
               replace H := Option.bind_eq_some_iff.mp H
               obtain ⟨t248, A420, H⟩ := H
               replace H : (if x241002_2.length < 4398046511104 then ((some (x241002_2 ++ [(⟨a2, t248⟩ : S46)] : List (S46))).bind fun y251 => (if y251.length < 4398046511104 then (musterref09_Done.l0 k2 l0 a2 l3 t236 true (wrap64 (x13_2 + 1)) a1 ((rd_T44 l0 t236).f1) (y251 ++ [(⟨(rd_T46 ((rd_T44 l0 t236).f2) x13_2).f0, (rd_T46 ((rd_T44 l0 t236).f2) x13_2).f1⟩ : S46)])) else (none))) else (none)) = some (r1, r2) := H
               have A42 := Aside0.mk A420
               clear A420
               by_cases c43 : x241002_2.length < 4398046511104
               ·rw [if_pos c43] at H
                have LMc43 := Aside0.mk c43
                clear c43
                obtain ⟨y251, hy251⟩ : ∃ y_ : List (S46), y_ = (x241002_2 ++ [(⟨a2, t248⟩ : S46)]) := ⟨_, rfl⟩
                replace H : (if y251.length < 4398046511104 then (musterref09_Done.l0 k2 l0 a2 l3 t236 true (wrap64 (x13_2 + 1)) a1 ((rd_T44 l0 t236).f1) (y251 ++ [(⟨(rd_T46 ((rd_T44 l0 t236).f2) x13_2).f0, (rd_T46 ((rd_T44 l0 t236).f2) x13_2).f1⟩ : S46)])) else (none)) = some (r1, r2) := by first | (rw [hy251]; with_reducible exact H) | (have H2_ := (Option.bind_some _ _).symm.trans H; rw [hy251]; with_reducible exact H2_) | (have H2_ := (Option.bind_some _ _).symm.trans H; with_reducible exact H2_) | with_reducible exact H | (rw [hy251]; exact H) | exact H
                have Ny251 := Aside0.mk hy251
                clear hy251
                by_cases c44 : y251.length < 4398046511104
                ·rw [if_pos c44] at H
                 have LMc44 := Aside0.mk c44
                 clear c44
                 obtain ⟨y254, hy254⟩ : ∃ y_ : List (S46), y_ = (y251 ++ [(⟨(rd_T46 ((rd_T44 l0 t236).f2) x13_2).f0, (rd_T46 ((rd_T44 l0 t236).f2) x13_2).f1⟩ : S46)]) := ⟨_, rfl⟩
                 replace H : (musterref09_Done.l0 k2 l0 a2 l3 t236 true (wrap64 (x13_2 + 1)) a1 ((rd_T44 l0 t236).f1) y254) = some (r1, r2) := by first | (rw [hy254]; with_reducible exact H) | (have H2_ := (Option.bind_some _ _).symm.trans H; rw [hy254]; with_reducible exact H2_) | (have H2_ := (Option.bind_some _ _).symm.trans H; with_reducible exact H2_) | with_reducible exact H | (rw [hy254]; exact H) | exact H
                 have Ny254 := Aside0.mk hy254
                 clear hy254
                 have H' := Aside0.mk H
                 clear H
                 have p241 : 0 ≤ (t236 : Int) := of_decide_eq_true (by first | (with_reducible assumption) | assumption)
                 have q241 : t236 < (l0.length : Int) := of_decide_eq_true (by first | (with_reducible assumption) | assumption)
                 obtain ⟨ad241, A241_2, c241_2, e241, hx241_0, hx241_1, hx241_2, hl241_2, hi241_2⟩ := at_T44 (Kd.V_reads' HO_0.out).2.2 t236 p241 q241
                 obtain rfl : ad239 = ad241 := (by injection e241)
                 obtain ⟨ce241, hce241, hMe241, hcc241⟩ := Kd.V_get HO_0.out z44 t236 p241 (by first | exact q241 | exact of_decide_eq_true (by first | (with_reducible assumption) | assumption) | (have e_ := (Kd.V_reads' HO_0.out).1; omega))
                 obtain ⟨ua241_2, uc241_2, rfl, ul241_2, ge241_2⟩ := k44_openF hMe241
                 have hv241_2 := hcc241 2 _ rfl
                 rw [add_field _ _ 2 (by omega)] at hv241_2
                 replace hv241_2 := Option.some.inj (hv241_2.symm.trans hx241_2)
                 injection hv241_2 with hva_ hvn_ hvc_
                 rw [hva_] at ge241_2
                 rw [hvc_] at ul241_2
                 have HL241_2 := Aside0.mk (show Kd.V k46 46 _ w.heap.size _ _ ((rd_T44 l0 t236).f2) from Kd.V_mk ul241_2 ge241_2)
                 clear hva_ hvn_ hvc_ ge241_2 ul241_2
                 clear hcc241 hce241
                 have HR241_2 := Aside0.mk hi241_2
                 have HC241_2 := Aside0.mk hl241_2
                 clear hi241_2 hl241_2
                 replace p241 := eq_true p241
                 replace q241 := eq_true q241
                 have p242 : 0 ≤ (t236 : Int) := of_decide_eq_true (by first | (with_reducible assumption) | assumption)
                 have q242 : t236 < (l0.length : Int) := of_decide_eq_true (by first | (with_reducible assumption) | assumption)
                 obtain ⟨ad242, A242_2, c242_2, e242, hx242_0, hx242_1, hx242_2, hl242_2, hi242_2⟩ := at_T44 (Kd.V_reads' HO_0.out).2.2 t236 p242 q242
                 obtain rfl : ad239 = ad242 := (by injection e242)
                 obtain ⟨ce242, hce242, hMe242, hcc242⟩ := Kd.V_get HO_0.out z44 t236 p242 (by first | exact q242 | exact of_decide_eq_true (by first | (with_reducible assumption) | assumption) | (have e_ := (Kd.V_reads' HO_0.out).1; omega))
                 obtain ⟨ua242_2, uc242_2, rfl, ul242_2, ge242_2⟩ := k44_openF hMe242
                 have hv242_2 := hcc242 2 _ rfl
                 rw [add_field _ _ 2 (by omega)] at hv242_2
                 replace hv242_2 := Option.some.inj (hv242_2.symm.trans hx242_2)
                 injection hv242_2 with hva_ hvn_ hvc_
                 rw [hva_] at ge242_2
                 rw [hvc_] at ul242_2
                 have HL242_2 := Aside0.mk (show Kd.V k46 46 _ w.heap.size _ _ ((rd_T44 l0 t236).f2) from Kd.V_mk ul242_2 ge242_2)
                 clear hva_ hvn_ hvc_ ge242_2 ul242_2
                 clear hcc242 hce242
                 have HR242_2 := Aside0.mk hi242_2
                 have HC242_2 := Aside0.mk hl242_2
                 clear hi242_2 hl242_2
                 replace p242 := eq_true p242
                 replace q242 := eq_true q242
                 have ea_ := Option.some.inj (hx241_2.symm.trans hx242_2)
                 injection ea_ with ea_ en_ ec_
                 subst ea_
                 subst ec_
                 clear en_
                 have p243 : 0 ≤ (x13_2 : Int) := of_decide_eq_true (by first | (with_reducible assumption) | assumption)
                 have q243 : x13_2 < (((rd_T44 l0 t236).f2).length : Int) := of_decide_eq_true (by first | (with_reducible assumption) | assumption)
                 obtain ⟨ad243, A243_1, c243_1, e243, hx243_0, hx243_1, hl243_1, hi243_1⟩ := at_T46 (by repeat (first | (with_reducible exact HR242_2.out) | (with_reducible refine Kd.C_alloc ?_ _) | (with_reducible refine Kd.C_drewN ?_ _) | (with_reducible refine Kd.C_drew ?_) | exact HR242_2.out)) x13_2 p243 q243
                 cases e243
                 obtain ⟨ce243, hce243, hMe243, hcc243⟩ := Kd.V_get HL242_2.out z46 x13_2 p243 (by first | exact q243 | exact of_decide_eq_true (by first | (with_reducible assumption) | assumption) | (have e_ := (Kd.V_reads' HL242_2.out).1; omega))
                 obtain ⟨ua243_1, uc243_1, rfl, ul243_1, ge243_1⟩ := k46_openF hMe243
                 have hv243_1 := hcc243 1 _ rfl
                 rw [add_field _ _ 1 (by omega)] at hv243_1
                 replace hv243_1 := Option.some.inj (hv243_1.symm.trans hx243_1)
                 injection hv243_1 with hva_ hvn_ hvc_
                 rw [hva_] at ge243_1
                 rw [hvc_] at ul243_1
                 have HL243_1 := Aside0.mk (show Kd.V (Kd.int .u8) 5 _ w.heap.size _ _ ((rd_T46 ((rd_T44 l0 t236).f2) x13_2).f1) from Kd.V_mk ul243_1 ge243_1)
                 clear hva_ hvn_ hvc_ ge243_1 ul243_1
                 clear hcc243 hce243
                 have HR243_1 := Aside0.mk hi243_1
                 have HC243_1 := Aside0.mk hl243_1
                 clear hi243_1 hl243_1
                 replace p243 := eq_true p243
                 replace q243 := eq_true q243
                 try go_wp2_with (first | ((with_reducible refine gate_dst (N := 14) rfl ?_); refine box_event ?hg (N := 14) ?hd (cs := #[.int .i64 0, .slice none 0 0]) (t := 46) ?hr ?_; (case hd => rfl); (case hg => rfl); (case hr => first | (go_simp; done) | (go_simp; rfl)); intro gb244 hg w45 hbox hb; have n0_ := Aside0.mk (Kd.V_below (Kd.V_elderB (by (with_reducible repeat (first | apply Kd.V_alloc | apply Kd.V_drewN | apply Kd.V_drew)); exact HO_0.out) gb244 (Nat.le_of_eq hg.symm)) hb); have n1_ := Aside0.mk (Kd.N_below (Kd.N_elderB (by (with_reducible repeat (first | apply Kd.N_alloc | apply Kd.N_drewN | apply Kd.N_drew)); exact HO_241002.out) gb244 (Nat.le_of_eq hg.symm)) hb); have n2_ := Aside0.mk (Kd.V_below (Kd.V_elderB (by (with_reducible repeat (first | apply Kd.V_alloc | apply Kd.V_drewN | apply Kd.V_drew)); exact HL241_2.out) gb244 (Nat.le_of_eq hg.symm)) hb); have n3_ := Aside0.mk (Kd.V_below (Kd.V_elderB (by (with_reducible repeat (first | apply Kd.V_alloc | apply Kd.V_drewN | apply Kd.V_drew)); exact HL242_2.out) gb244 (Nat.le_of_eq hg.symm)) hb); have n4_ := Aside0.mk (Kd.V_below (Kd.V_elderB (by (with_reducible repeat (first | apply Kd.V_alloc | apply Kd.V_drewN | apply Kd.V_drew)); exact HL243_1.out) gb244 (Nat.le_of_eq hg.symm)) hb); have n5_ := Aside0.mk (blk_below (g := gb240) (o := .cells #[.int .i64 a1, .int .i64 ((rd_T44 l0 t236).f1), u241002] 44 (0, 0)) (by (with_reducible repeat (first | refine blk_drewN ?_ _ | refine blk_drew ?_ | refine blk_alloc ?_ _)); exact BK240.out) hb); have n6_ := Aside0.mk (Kd.C_below (by repeat (first | (with_reducible exact HR241_2.out) | (with_reducible refine Kd.C_alloc ?_ _) | (with_reducible refine Kd.C_drewN ?_ _) | (with_reducible refine Kd.C_drew ?_) | exact HR241_2.out)) hb); have n7_ := Aside0.mk (Kd.C_below (by repeat (first | (with_reducible exact HR242_2.out) | (with_reducible refine Kd.C_alloc ?_ _) | (with_reducible refine Kd.C_drewN ?_ _) | (with_reducible refine Kd.C_drew ?_) | exact HR242_2.out)) hb); have n8_ := Aside0.mk (Kd.C_below (by repeat (first | (with_reducible exact HR243_1.out) | (with_reducible refine Kd.C_alloc ?_ _) | (with_reducible refine Kd.C_drewN ?_ _) | (with_reducible refine Kd.C_drew ?_) | exact HR243_1.out)) hb); have n9_ := Aside0.mk (below_step (by repeat (first | (with_reducible first | exact HB.out | apply below_alloc | apply pw_below_drewN | apply below_drew1 | refine below_set ?_ GE240.out) | exact HB.out)) hb); have n10_ := Aside0.mk (hbox); have n11_ := Aside0.mk ((by rw [hg]; exact (below_size (by repeat (first | (with_reducible first | exact HB.out | apply below_alloc | apply pw_below_drewN | apply below_drew1 | refine below_set ?_ GE240.out) | exact HB.out))) : w.heap.size ≤ gb244)); have n12_ := Aside0.mk ((by rw [hg]; exact (below_size (by repeat (first | (with_reducible first | exact HB.out | apply below_alloc | apply pw_below_drewN | apply below_drew1 | refine below_set ?_ GE240.out) | exact HB.out))) : w.heap.size ≤ gb244)); have n13_ := Aside0.mk ((by rw [hg]; exact Nat.ne_of_lt (blk_lt (g := gb240) (o := .cells #[.int .i64 a1, .int .i64 ((rd_T44 l0 t236).f1), u241002] 44 (0, 0)) (by (with_reducible repeat (first | refine blk_drewN ?_ _ | refine blk_drew ?_ | refine blk_alloc ?_ _)); exact BK240.out)) : gb240 ≠ gb244)); have n14_ := Aside0.mk ((by rw [hg]; exact Nat.ne_of_gt (blk_lt (g := gb240) (o := .cells #[.int .i64 a1, .int .i64 ((rd_T44 l0 t236).f1), u241002] 44 (0, 0)) (by (with_reducible repeat (first | refine blk_drewN ?_ _ | refine blk_drew ?_ | refine blk_alloc ?_ _)); exact BK240.out)) : gb244 ≠ gb240)); clear HO_0; clear HO_241002; clear HL241_2; clear HL242_2; clear HL243_1; clear BK240; clear HR241_2; clear HR242_2; clear HR243_1; clear HB; have HO_0 := n0_; have HO_241002 := n1_; have HL241_2 := n2_; have HL242_2 := n3_; have HL243_1 := n4_; have BK240 := n5_; have HR241_2 := n6_; have HR242_2 := n7_; have HR243_1 := n8_; have HB := n9_; have BK244 := n10_; have GW244 := n11_; have GE244 := n12_; have NB240_244 := n13_; have NB244_240 := n14_; clear n0_ n1_ n2_ n3_ n4_ n5_ n6_ n7_ n8_ n9_ n10_ n11_ n12_ n13_ n14_; clear hb hbox hg; have hnb46 := NB244_240.out; have hnc46 := NB240_244.out; have hcz47_0 : w45.cell? ⟨gb244, 0, none⟩ = some (.int .i64 0) := (blk_cell BK244.out 0).trans rfl; have hcz47_1 : w45.cell? ⟨gb244, 1, none⟩ = some (.slice none 0 0) := (blk_cell BK244.out 1).trans rfl; have hfz47_0 := blk_frozen BK244.out 0; have hfz47_1 := blk_frozen BK244.out 1))
                 have n0_ : Aside0 (Kd.V k44 44 ((w45.setCell ⟨gb244, 0, none⟩ (.int .i64 ((rd_T46 ((rd_T44 l0 t236).f2) x13_2).f0))).setCell ⟨gb244, 1, none⟩ (.slice A243_1 ((rd_T46 ((rd_T44 l0 t236).f2) x13_2).f1).length c243_1)) w.heap.size (fun k_ => (P0_ k_ ∨ w.heap.size ≤ k_) ∧ some k_ ≠ (u241002 : Value).ownBlock ∧ k_ ≠ gb240 ∧ k_ ≠ gb244) (.slice (some ad239) l0.length c0) l0) := ⟨by (with_reducible repeat (first | apply Kd.V_alloc | apply Kd.V_drewN | apply Kd.V_drew)); exact Kd.V_mono (Kd.V_far (p := ⟨gb244, 1, none⟩) (Kd.V_far (p := ⟨gb244, 0, none⟩) (Kd.V_mono HO_0.out (fun k_ hk => (⟨hk, hk.2⟩ : _ ∧ k_ ≠ gb244))) (fun _ hk => hk.2) (.int .i64 ((rd_T46 ((rd_T44 l0 t236).f2) x13_2).f0))) (fun _ hk => hk.2) (.slice A243_1 ((rd_T46 ((rd_T44 l0 t236).f2) x13_2).f1).length c243_1)) (fun _ hk => ⟨hk.1.1.1, ⟨hk.1.1.2.1, ⟨hk.1.1.2.2, hk.1.2⟩⟩⟩)⟩
                 have n1_ : Aside0 (Kd.N k46 46 ((w45.setCell ⟨gb244, 0, none⟩ (.int .i64 ((rd_T46 ((rd_T44 l0 t236).f2) x13_2).f0))).setCell ⟨gb244, 1, none⟩ (.slice A243_1 ((rd_T46 ((rd_T44 l0 t236).f2) x13_2).f1).length c243_1)) w.heap.size (fun k_ => (P0_ k_ ∨ w.heap.size ≤ k_) ∧ k_ ≠ gb240 ∧ k_ ≠ gb244) u241002 x241002_2) := ⟨by (with_reducible repeat (first | apply Kd.N_alloc | apply Kd.N_drewN | apply Kd.N_drew)); exact Kd.N_mono (Kd.N_far (p := ⟨gb244, 1, none⟩) (Kd.N_far (p := ⟨gb244, 0, none⟩) (Kd.N_mono HO_241002.out (fun k_ hk => (⟨hk, hk.2⟩ : _ ∧ k_ ≠ gb244))) (fun _ hk => hk.2) (.int .i64 ((rd_T46 ((rd_T44 l0 t236).f2) x13_2).f0))) (fun _ hk => hk.2) (.slice A243_1 ((rd_T46 ((rd_T44 l0 t236).f2) x13_2).f1).length c243_1)) (fun _ hk => ⟨hk.1.1.1, ⟨hk.1.1.2, hk.1.2⟩⟩)⟩
                 have n2_ : Aside0 (Kd.V k46 46 ((w45.setCell ⟨gb244, 0, none⟩ (.int .i64 ((rd_T46 ((rd_T44 l0 t236).f2) x13_2).f0))).setCell ⟨gb244, 1, none⟩ (.slice A243_1 ((rd_T46 ((rd_T44 l0 t236).f2) x13_2).f1).length c243_1)) w.heap.size (fun k_ => (P0_ k_ ∨ w.heap.size ≤ k_) ∧ some k_ ≠ (u241002 : Value).ownBlock ∧ k_ ≠ gb240 ∧ k_ ≠ gb244) (.slice (some ad243) ((rd_T44 l0 t236).f2).length c241_2) ((rd_T44 l0 t236).f2)) := ⟨by (with_reducible repeat (first | apply Kd.V_alloc | apply Kd.V_drewN | apply Kd.V_drew)); exact Kd.V_mono (Kd.V_far (p := ⟨gb244, 1, none⟩) (Kd.V_far (p := ⟨gb244, 0, none⟩) (Kd.V_mono HL241_2.out (fun k_ hk => (⟨hk, hk.2⟩ : _ ∧ k_ ≠ gb244))) (fun _ hk => hk.2) (.int .i64 ((rd_T46 ((rd_T44 l0 t236).f2) x13_2).f0))) (fun _ hk => hk.2) (.slice A243_1 ((rd_T46 ((rd_T44 l0 t236).f2) x13_2).f1).length c243_1)) (fun _ hk => ⟨hk.1.1.1, ⟨hk.1.1.2.1, ⟨hk.1.1.2.2, hk.1.2⟩⟩⟩)⟩
                 have n3_ : Aside0 (Kd.V k46 46 ((w45.setCell ⟨gb244, 0, none⟩ (.int .i64 ((rd_T46 ((rd_T44 l0 t236).f2) x13_2).f0))).setCell ⟨gb244, 1, none⟩ (.slice A243_1 ((rd_T46 ((rd_T44 l0 t236).f2) x13_2).f1).length c243_1)) w.heap.size (fun k_ => (P0_ k_ ∨ w.heap.size ≤ k_) ∧ some k_ ≠ (u241002 : Value).ownBlock ∧ k_ ≠ gb240 ∧ k_ ≠ gb244) (.slice (some ad243) ((rd_T44 l0 t236).f2).length c241_2) ((rd_T44 l0 t236).f2)) := ⟨by (with_reducible repeat (first | apply Kd.V_alloc | apply Kd.V_drewN | apply Kd.V_drew)); exact Kd.V_mono (Kd.V_far (p := ⟨gb244, 1, none⟩) (Kd.V_far (p := ⟨gb244, 0, none⟩) (Kd.V_mono HL242_2.out (fun k_ hk => (⟨hk, hk.2⟩ : _ ∧ k_ ≠ gb244))) (fun _ hk => hk.2) (.int .i64 ((rd_T46 ((rd_T44 l0 t236).f2) x13_2).f0))) (fun _ hk => hk.2) (.slice A243_1 ((rd_T46 ((rd_T44 l0 t236).f2) x13_2).f1).length c243_1)) (fun _ hk => ⟨hk.1.1.1, ⟨hk.1.1.2.1, ⟨hk.1.1.2.2, hk.1.2⟩⟩⟩)⟩
                 have n4_ : Aside0 (Kd.V (Kd.int .u8) 5 ((w45.setCell ⟨gb244, 0, none⟩ (.int .i64 ((rd_T46 ((rd_T44 l0 t236).f2) x13_2).f0))).setCell ⟨gb244, 1, none⟩ (.slice A243_1 ((rd_T46 ((rd_T44 l0 t236).f2) x13_2).f1).length c243_1)) w.heap.size (fun k_ => (P0_ k_ ∨ w.heap.size ≤ k_) ∧ some k_ ≠ (u241002 : Value).ownBlock ∧ k_ ≠ gb240 ∧ k_ ≠ gb244) (.slice A243_1 ((rd_T46 ((rd_T44 l0 t236).f2) x13_2).f1).length c243_1) ((rd_T46 ((rd_T44 l0 t236).f2) x13_2).f1)) := ⟨by (with_reducible repeat (first | apply Kd.V_alloc | apply Kd.V_drewN | apply Kd.V_drew)); exact Kd.V_mono (Kd.V_far (p := ⟨gb244, 1, none⟩) (Kd.V_far (p := ⟨gb244, 0, none⟩) (Kd.V_mono HL243_1.out (fun k_ hk => (⟨hk, hk.2⟩ : _ ∧ k_ ≠ gb244))) (fun _ hk => hk.2) (.int .i64 ((rd_T46 ((rd_T44 l0 t236).f2) x13_2).f0))) (fun _ hk => hk.2) (.slice A243_1 ((rd_T46 ((rd_T44 l0 t236).f2) x13_2).f1).length c243_1)) (fun _ hk => ⟨hk.1.1.1, ⟨hk.1.1.2.1, ⟨hk.1.1.2.2, hk.1.2⟩⟩⟩)⟩
                 have n5_ : Aside0 (((w45.setCell ⟨gb244, 0, none⟩ (.int .i64 ((rd_T46 ((rd_T44 l0 t236).f2) x13_2).f0))).setCell ⟨gb244, 1, none⟩ (.slice A243_1 ((rd_T46 ((rd_T44 l0 t236).f2) x13_2).f1).length c243_1)).heap[gb240]? = some (.cells #[.int .i64 a1, .int .i64 ((rd_T44 l0 t236).f1), u241002] 44 (0, 0))) := ⟨by (with_reducible repeat (first | refine blk_drewN ?_ _ | refine blk_drew ?_ | refine blk_alloc ?_ _)); refine blk_far ?_ NB240_244.out _; (with_reducible repeat (first | refine blk_drewN ?_ _ | refine blk_drew ?_ | refine blk_alloc ?_ _)); refine blk_far ?_ NB240_244.out _; (with_reducible repeat (first | refine blk_drewN ?_ _ | refine blk_drew ?_ | refine blk_alloc ?_ _)); exact BK240.out⟩
                 have n6_ : Aside0 (((w45.setCell ⟨gb244, 0, none⟩ (.int .i64 ((rd_T46 ((rd_T44 l0 t236).f2) x13_2).f0))).setCell ⟨gb244, 1, none⟩ (.slice A243_1 ((rd_T46 ((rd_T44 l0 t236).f2) x13_2).f1).length c243_1)).heap[gb244]? = some (.cells #[.int .i64 ((rd_T46 ((rd_T44 l0 t236).f2) x13_2).f0), .slice A243_1 ((rd_T46 ((rd_T44 l0 t236).f2) x13_2).f1).length c243_1] 46 (0, 0))) := ⟨by (with_reducible repeat (first | refine blk_drewN ?_ _ | refine blk_drew ?_ | refine blk_alloc ?_ _)); refine blk_put (cs := #[.int .i64 ((rd_T46 ((rd_T44 l0 t236).f2) x13_2).f0), .slice none 0 0]) ?_ 1 _ rfl; (with_reducible repeat (first | refine blk_drewN ?_ _ | refine blk_drew ?_ | refine blk_alloc ?_ _)); refine blk_put (cs := #[.int .i64 0, .slice none 0 0]) ?_ 0 _ rfl; (with_reducible repeat (first | refine blk_drewN ?_ _ | refine blk_drew ?_ | refine blk_alloc ?_ _)); exact BK244.out⟩
                 have n7_ : Aside0 (Below w.heap.size w ((w45.setCell ⟨gb244, 0, none⟩ (.int .i64 ((rd_T46 ((rd_T44 l0 t236).f2) x13_2).f0))).setCell ⟨gb244, 1, none⟩ (.slice A243_1 ((rd_T46 ((rd_T44 l0 t236).f2) x13_2).f1).length c243_1))) := ⟨by repeat (first | (with_reducible first | exact HB.out | apply below_alloc | apply pw_below_drewN | apply below_drew1 | refine below_set ?_ GE240.out | refine below_set ?_ GE244.out) | exact HB.out)⟩
                 (try clear HO_0)
                 (try clear HO_241002)
                 (try clear HL241_2)
                 (try clear HL242_2)
                 (try clear HL243_1)
                 (try clear BK240)
                 (try clear BK244)
                 (try clear HB)
                 generalize ((w45.setCell ⟨gb244, 0, none⟩ (.int .i64 ((rd_T46 ((rd_T44 l0 t236).f2) x13_2).f0))).setCell ⟨gb244, 1, none⟩ (.slice A243_1 ((rd_T46 ((rd_T44 l0 t236).f2) x13_2).f1).length c243_1)) = w48 at n0_ n1_ n2_ n3_ n4_ n5_ n6_ n7_ ⊢
                 have HO_0 := n0_
                 have HO_241002 := n1_
                 have HL241_2 := n2_
                 have HL242_2 := n3_
                 have HL243_1 := n4_
                 have BK240 := n5_
                 have BK244 := n6_
                 have HB := n7_
                 clear n0_ n1_ n2_ n3_ n4_ n5_ n6_ n7_
                 have n0_ := Aside0.mk (Kd.V_drew HO_0.out)
                 have n1_ := Aside0.mk (Kd.N_drew HO_241002.out)
                 have n2_ := Aside0.mk (Kd.V_drew HL241_2.out)
                 have n3_ := Aside0.mk (Kd.V_drew HL242_2.out)
                 have n4_ := Aside0.mk (Kd.V_drew HL243_1.out)
                 have n5_ := Aside0.mk (blk_drew BK240.out)
                 have n6_ := Aside0.mk (blk_drew BK244.out)
                 have n7_ := Aside0.mk (below_drew1 HB.out)
                 clear HO_0
                 clear HO_241002
                 clear HL241_2
                 clear HL242_2
                 clear HL243_1
                 clear BK240
                 clear BK244
                 clear HB
                 have HO_0 := n0_
                 have HO_241002 := n1_
                 have HL241_2 := n2_
                 have HL242_2 := n3_
                 have HL243_1 := n4_
                 have BK240 := n5_
                 have BK244 := n6_
                 have HB := n7_
                 clear n0_ n1_ n2_ n3_ n4_ n5_ n6_ n7_
                 refine start_ (n := 10) (S := fun w' => w'.cell? ⟨gb240, 0, none⟩ = some (.int .i64 a1) ∧ w'.cell? ⟨gb240, 1, none⟩ = some (.int .i64 ((rd_T44 l0 t236).f1)) ∧ w'.cell? ⟨gb240, 2, none⟩ = some (u241002)) (ds := [9]) kPr1510 (by kernel_rfl) rfl rfl ⟨(blk_cell BK240.out 0).trans rfl, (blk_cell BK240.out 1).trans rfl, (blk_cell BK240.out 2).trans rfl⟩ (fun hHeld => ?_); refine with_tabW musterref09_Done.tab13 musterref09_Done.bits13 (fun HT_ HW_ => ?_)
                 generalize w48.drew = w49 at HO_0 HO_241002 HL241_2 HL242_2 HL243_1 BK240 BK244 HB hHeld ⊢
                 refine pure_ (i := 0) (N := some 75) (v := ?_) (a' := ?_) kPr159 rfl rfl (any_of HT_.out (by kernel_rfl)) (fun _ _ _ h => h) (Or.inl ⟨by rfl, ?_⟩) ?_ ?_
                 rotate_left
                 ·intro w'
                  go_simp
                  with_reducible rfl
                 rotate_left
                 ·simp only [Act.put, List.setIfInBounds_toArray, List.set_cons_zero, List.set_cons_succ, i64_w, i32_w]
                  rfl
                 refine pure_ (i := 2) (N := some 77) (v := ?_) (a' := ?_) kPr158 rfl rfl (any_of HT_.out (by kernel_rfl)) (fun _ _ _ h => h) (Or.inl ⟨by rfl, ?_⟩) ?_ ?_
                 rotate_left
                 ·intro w'
                  go_simp
                  with_reducible rfl
                 rotate_left
                 ·simp only [Act.put, List.setIfInBounds_toArray, List.set_cons_zero, List.set_cons_succ, i64_w, i32_w]
                  rfl
                 refine pure_ (i := 3) (N := some 78) (v := ?_) (a' := ?_) kPr157 rfl rfl (any_of HT_.out (by kernel_rfl)) (fun _ _ _ h => h) (Or.inl ⟨by rfl, ?_⟩) ?_ ?_
                 rotate_left
                 ·intro w'
                  go_simp
                  with_reducible rfl
                 rotate_left
                 ·simp only [Act.put, List.setIfInBounds_toArray, List.set_cons_zero, List.set_cons_succ, i64_w, i32_w]
                  rfl
                 refine take_ (i := 1) (N := some 76) (v := ?_) (a' := ?_) kPr156 rfl rfl (take_ofW HT_.out HW_.out (by kernel_rfl)) (fun _ _ _ h => h) (Or.inl ⟨by rfl, ?_⟩) hHeld ?_ ?_
                 rotate_left
                 ·rintro w' ⟨s0, s1, s2⟩
                  go_simp
                  with_reducible rfl
                 rotate_left
                 ·simp only [Act.put, List.setIfInBounds_toArray, List.set_cons_zero, List.set_cons_succ, i64_w, i32_w]
                  rfl
                 refine one_ (i := 4) (N := some 79) kPr155 rfl rfl (one_of HT_.out (by kernel_rfl)) (by decide) (fun K hK => ?_)
                 refine goes_ Try.func34 (by kernel_rfl) rfl #[.slice A3 l3.length c3] (by rfl) rfl rfl (by (try simp only [List.map_toArray, List.map_cons, List.map_nil]); first | done | rfl | (simp only [List.length_drop, List.length_take]; rfl)) ?_
                 with_reducible refine (musterlow_CopyBytes.calls _ _ l3 t248 _ ?side1 ?side2 A42.out).mono ?_
                 (case side1 => repeat (first | exact (Kd.C_below HR3.out HB.out) | (with_reducible refine Kd.C_alloc ?_ _) | (with_reducible refine Kd.C_drewN ?_ _) | (with_reducible refine Kd.C_drew ?_)))
                 (case side2 => exact HC3.out)
                 rintro e w50 ⟨v249, rfl, ho0, hb⟩
                 refine ⟨_, rfl, ?_⟩
                 have n0_ := Aside0.mk (Kd.V_elder' (by (with_reducible repeat (first | apply Kd.V_alloc | apply Kd.V_drewN | apply Kd.V_drew)); exact HO_0.out) (Kd.R_base ho0) hb)
                 have n1_ := Aside0.mk (Kd.N_elder' (by (with_reducible repeat (first | apply Kd.N_alloc | apply Kd.N_drewN | apply Kd.N_drew)); exact HO_241002.out) (Kd.R_base ho0) hb)
                 have n2_ := Aside0.mk (Kd.V_elder' (by (with_reducible repeat (first | apply Kd.V_alloc | apply Kd.V_drewN | apply Kd.V_drew)); exact HL241_2.out) (Kd.R_base ho0) hb)
                 have n3_ := Aside0.mk (Kd.V_elder' (by (with_reducible repeat (first | apply Kd.V_alloc | apply Kd.V_drewN | apply Kd.V_drew)); exact HL242_2.out) (Kd.R_base ho0) hb)
                 have n4_ := Aside0.mk (Kd.V_elder' (by (with_reducible repeat (first | apply Kd.V_alloc | apply Kd.V_drewN | apply Kd.V_drew)); exact HL243_1.out) (Kd.R_base ho0) hb)
                 have n5_ := Aside0.mk (Kd.R_lower (Kd.R_newM (M := fun k_ => (w.heap.size ≤ k_)) ho0 (below_size (by repeat (first | (with_reducible first | exact HB.out | apply below_alloc | apply pw_below_drewN | apply below_drew1 | refine below_set ?_ GE240.out | refine below_set ?_ GE244.out) | exact HB.out))) (fun k_ h_ => h_)) (below_size (by repeat (first | (with_reducible first | exact HB.out | apply below_alloc | apply pw_below_drewN | apply below_drew1 | refine below_set ?_ GE240.out | refine below_set ?_ GE244.out) | exact HB.out))))
                 have n6_ := Aside0.mk (blk_below (g := gb240) (o := .cells #[.int .i64 a1, .int .i64 ((rd_T44 l0 t236).f1), u241002] 44 (0, 0)) (by (with_reducible repeat (first | refine blk_drewN ?_ _ | refine blk_drew ?_ | refine blk_alloc ?_ _)); exact BK240.out) hb)
                 have n7_ := Aside0.mk (blk_below (g := gb244) (o := .cells #[.int .i64 ((rd_T46 ((rd_T44 l0 t236).f2) x13_2).f0), .slice A243_1 ((rd_T46 ((rd_T44 l0 t236).f2) x13_2).f1).length c243_1] 46 (0, 0)) (by (with_reducible repeat (first | refine blk_drewN ?_ _ | refine blk_drew ?_ | refine blk_alloc ?_ _)); exact BK244.out) hb)
                 have n8_ := Aside0.mk (below_step (by repeat (first | (with_reducible first | exact HB.out | apply below_alloc | apply pw_below_drewN | apply below_drew1 | refine below_set ?_ GE240.out | refine below_set ?_ GE244.out) | exact HB.out)) hb)
                 clear HO_0
                 clear HO_241002
                 clear HL241_2
                 clear HL242_2
                 clear HL243_1
                 clear BK240
                 clear BK244
                 clear HB
                 have HO_0 := n0_
                 have HO_241002 := n1_
                 have HL241_2 := n2_
                 have HL242_2 := n3_
                 have HL243_1 := n4_
                 have HO250 := n5_
                 have BK240 := n6_
                 have BK244 := n7_
                 have HB := n8_
                 clear n0_ n1_ n2_ n3_ n4_ n5_ n6_ n7_ n8_
                 (try clear hb)
                 (try clear hb2)
                 (try clear hk)
                 (try clear hi)
                 (try clear ho0)
                 obtain ⟨Ao51, co51, eo51⟩ := Kd.R_slice HO250.out
                 (first | subst eo51 | (injection eo51 with f1_ f2_ f3_; have f4_ := f1_.symm; have f5_ := f3_.symm; clear f1_ f2_ f3_; subst f4_; subst f5_))
                 refine hK.out _ _ ⟨(blk_cell BK240.out 0).trans rfl, (blk_cell BK240.out 1).trans rfl, (blk_cell BK240.out 2).trans rfl⟩ (fun hHeld => ?_)
                 clear hK K
                 refine norm_ (a' := ?_) ?_ ?_
                 rotate_left
                 ·show Act.put _ (some 79) _ = _
                  simp only [Act.put, List.setIfInBounds_toArray, List.set_cons_zero, List.set_cons_succ, i64_w, i32_w]
                  rfl
                 refine pure_ (i := 5) (N := some 80) (v := ?_) (a' := ?_) kPr154 rfl rfl (any_of HT_.out (by kernel_rfl)) (fun _ _ _ h => h) (Or.inl ⟨by rfl, ?_⟩) ?_ ?_
                 rotate_left
                 ·intro w'
                  go_simp
                  with_reducible rfl
                 rotate_left
                 ·simp only [Act.put, List.setIfInBounds_toArray, List.set_cons_zero, List.set_cons_succ, i64_w, i32_w]
                  rfl
                 refine one_ (i := 6) (N := some 81) kPr153 rfl rfl (one_of HT_.out (by kernel_rfl)) (by decide) (fun K hK => ?_)
                 refine value_ (w1 := ?_) (v := ?_) (by rfl) rfl ?_ ?_
                 rotate_left 2
                 ·go_simp
                  constructor
                  ·rfl
                  ·rfl
                 refine hK.out _ _ ⟨(blk_cell (blk_alloc BK240.out _) 0).trans rfl, (blk_cell (blk_alloc BK240.out _) 1).trans rfl, (blk_cell (blk_alloc BK240.out _) 2).trans rfl⟩ (fun hHeld => ?_)
                 clear hK K
                 refine norm_ (a' := ?_) ?_ ?_
                 rotate_left
                 ·show Act.put _ (some 81) _ = _
                  simp only [Act.put, List.setIfInBounds_toArray, List.set_cons_zero, List.set_cons_succ, i64_w, i32_w]
                  rfl
                 refine one_ (i := 7) (N := some 82) kPr152 rfl rfl (one_of HT_.out (by kernel_rfl)) (by decide) (fun K hK => ?_)
                 refine Kd.N_append_step k46 (w0 := w) w.heap.size (by rfl) (.tmp 76) (.tmp 81) 42 46 (.agg #[(.int .i64 0), (.slice none 0 0)]) 32 rfl Try.underlying42 info46 rfl (by decide) (by omega) u241002 x241002_2 (⟨a2, t248⟩ : S46) [.int .i64 a2, .slice Ao51 t248.length co51] (fun k_ => (P0_ k_ ∨ w.heap.size ≤ k_) ∧ k_ ≠ gb240 ∧ k_ ≠ gb244) (fun k_ => ((fun k_ => (P0_ k_ ∨ w.heap.size ≤ k_) ∧ k_ ≠ gb240 ∧ k_ ≠ gb244)) k_ ∧ some k_ ≠ (u241002 : Value).ownBlock) rfl rfl ?aP (fun _ hk => hk) ?aF ?aO ?aB ?aS ?aL ?_
                 (case aP => first | exact (k46_mkF _ _ (⟨a2, t248⟩ : S46) (Kd.R_reads' (Kd.R_mono (ok' := (fun k_ => ((fun k_ => (P0_ k_ ∨ w.heap.size ≤ k_) ∧ k_ ≠ gb240 ∧ k_ ≠ gb244)) k_ ∧ some k_ ≠ (u241002 : Value).ownBlock)) (Kd.R_types (Kd.R_types (Kd.R_apart' (HO250.out) (Kd.N_typed HO_241002.out) (by decide)) BK240.out (by decide)) BK244.out (by decide)) (fun k_ hk => ⟨⟨(.inr (hk.1.1.1.1)), ⟨hk.1.2, hk.2⟩⟩, hk.1.1.2⟩))).2.1 (Kd.R_F (Kd.R_mono (ok' := (fun k_ => ((fun k_ => (P0_ k_ ∨ w.heap.size ≤ k_) ∧ k_ ≠ gb240 ∧ k_ ≠ gb244)) k_ ∧ some k_ ≠ (u241002 : Value).ownBlock)) (Kd.R_types (Kd.R_types (Kd.R_apart' (HO250.out) (Kd.N_typed HO_241002.out) (by decide)) BK240.out (by decide)) BK244.out (by decide)) (fun k_ hk => ⟨⟨(.inr (hk.1.1.1.1)), ⟨hk.1.2, hk.2⟩⟩, hk.1.1.2⟩)))) | exact (k46_mkF _ _ (⟨a2, t248⟩ : S46) (Kd.R_reads' (Kd.R_mono (ok' := (fun k_ => ((fun k_ => (P0_ k_ ∨ w.heap.size ≤ k_) ∧ k_ ≠ gb240 ∧ k_ ≠ gb244)) k_ ∧ some k_ ≠ (u241002 : Value).ownBlock)) (Kd.R_types (Kd.R_types (Kd.R_apart' (HO250.out) (Kd.N_typed HO_241002.out) (by decide)) BK240.out (by decide)) BK244.out (by decide)) (fun k_ hk => ⟨⟨(.inr (hk.1.1.1.1)), ⟨hk.1.2, hk.2⟩⟩, hk.1.1.2⟩))).2.1 (Kd.R_F (Kd.R_mono (ok' := (fun k_ => ((fun k_ => (P0_ k_ ∨ w.heap.size ≤ k_) ∧ k_ ≠ gb240 ∧ k_ ≠ gb244)) k_ ∧ some k_ ≠ (u241002 : Value).ownBlock)) (Kd.R_types (Kd.R_types (Kd.R_apart' (HO250.out) (Kd.N_typed HO_241002.out) (by decide)) BK240.out (by decide)) BK244.out (by decide)) (fun k_ hk => ⟨⟨(.inr (hk.1.1.1.1)), ⟨hk.1.2, hk.2⟩⟩, hk.1.1.2⟩)))))
                 (case aB => exact (by repeat (first | (with_reducible first | exact HB.out | apply below_alloc | apply pw_below_drewN | apply below_drew1 | refine below_set ?_ GE240.out | refine below_set ?_ GE244.out) | exact HB.out)))
                 (case aF => exact (fun k_ hk => ⟨(.inr (Nat.le_trans (below_size (by repeat (first | (with_reducible first | exact HB.out | apply below_alloc | apply pw_below_drewN | apply below_drew1 | refine below_set ?_ GE240.out | refine below_set ?_ GE244.out) | exact HB.out))) hk)), Kd.freshB (g := gb240) (o := .cells #[.int .i64 a1, .int .i64 ((rd_T44 l0 t236).f1), u241002] 44 (0, 0)) (by (with_reducible repeat (first | refine blk_drewN ?_ _ | refine blk_drew ?_ | refine blk_alloc ?_ _)); exact BK240.out) k_ hk, Kd.freshB (g := gb244) (o := .cells #[.int .i64 ((rd_T46 ((rd_T44 l0 t236).f2) x13_2).f0), .slice A243_1 ((rd_T46 ((rd_T44 l0 t236).f2) x13_2).f1).length c243_1] 46 (0, 0)) (by (with_reducible repeat (first | refine blk_drewN ?_ _ | refine blk_drew ?_ | refine blk_alloc ?_ _)); exact BK244.out) k_ hk⟩))
                 (case aO => exact (by (with_reducible repeat (first | apply Kd.N_alloc | apply Kd.N_drewN | apply Kd.N_drew)); exact Kd.N_mono HO_241002.out (fun _ hk => ⟨hk.1.1, ⟨hk.1.2.1, hk.1.2.2⟩⟩)))
                 (case aS => exact (below_size (by repeat (first | (with_reducible first | exact HB.out | apply below_alloc | apply pw_below_drewN | apply below_drew1 | refine below_set ?_ GE240.out | refine below_set ?_ GE244.out) | exact HB.out))))
                 (case aL => have := LMc43.out; omega)
                 intro v252 w52 ho hb hg hat
                 rw [← Ny251.out] at ho
                 have n0_ := Aside0.mk (Kd.V_afterv (ok := (fun k_ => (P0_ k_ ∨ w.heap.size ≤ k_) ∧ some k_ ≠ (.slice Ao51 t248.length co51 : Value).ownBlock ∧ k_ ≠ gb240 ∧ k_ ≠ gb244)) (by (with_reducible repeat (first | apply Kd.V_alloc | apply Kd.V_drewN | apply Kd.V_drew)); exact Kd.V_mono HO_0.out (fun _ hk => ⟨⟨hk.1.1, ⟨hk.2, ⟨hk.1.2.2.1, hk.1.2.2.2⟩⟩⟩, hk.1.2.1⟩)) hg hat)
                 have n1_ := Aside0.mk (blk_grown (g := gb240) (o := .cells #[.int .i64 a1, .int .i64 ((rd_T44 l0 t236).f1), u241002] 44 (0, 0)) (by (with_reducible repeat (first | refine blk_drewN ?_ _ | refine blk_drew ?_ | refine blk_alloc ?_ _)); exact BK240.out) hg (Kd.N_ne HO_241002.out BK240.out (by decide)))
                 have n2_ := Aside0.mk (Kd.V_afterv (ok := (fun k_ => (P0_ k_ ∨ w.heap.size ≤ k_) ∧ some k_ ≠ (.slice Ao51 t248.length co51 : Value).ownBlock ∧ k_ ≠ gb240 ∧ k_ ≠ gb244)) (by (with_reducible repeat (first | apply Kd.V_alloc | apply Kd.V_drewN | apply Kd.V_drew)); exact Kd.V_mono HL241_2.out (fun _ hk => ⟨⟨hk.1.1, ⟨hk.2, ⟨hk.1.2.2.1, hk.1.2.2.2⟩⟩⟩, hk.1.2.1⟩)) hg hat)
                 have n3_ := Aside0.mk (Kd.V_afterv (ok := (fun k_ => (P0_ k_ ∨ w.heap.size ≤ k_) ∧ some k_ ≠ (.slice Ao51 t248.length co51 : Value).ownBlock ∧ k_ ≠ gb240 ∧ k_ ≠ gb244)) (by (with_reducible repeat (first | apply Kd.V_alloc | apply Kd.V_drewN | apply Kd.V_drew)); exact Kd.V_mono HL242_2.out (fun _ hk => ⟨⟨hk.1.1, ⟨hk.2, ⟨hk.1.2.2.1, hk.1.2.2.2⟩⟩⟩, hk.1.2.1⟩)) hg hat)
                 have n4_ := Aside0.mk (Kd.V_afterv (ok := (fun k_ => (P0_ k_ ∨ w.heap.size ≤ k_) ∧ some k_ ≠ (.slice Ao51 t248.length co51 : Value).ownBlock ∧ k_ ≠ gb240 ∧ k_ ≠ gb244)) (by (with_reducible repeat (first | apply Kd.V_alloc | apply Kd.V_drewN | apply Kd.V_drew)); exact Kd.V_mono HL243_1.out (fun _ hk => ⟨⟨hk.1.1, ⟨hk.2, ⟨hk.1.2.2.1, hk.1.2.2.2⟩⟩⟩, hk.1.2.1⟩)) hg hat)
                 have n5_ := Aside0.mk (blk_grown (g := gb244) (o := .cells #[.int .i64 ((rd_T46 ((rd_T44 l0 t236).f2) x13_2).f0), .slice A243_1 ((rd_T46 ((rd_T44 l0 t236).f2) x13_2).f1).length c243_1] 46 (0, 0)) (by (with_reducible repeat (first | refine blk_drewN ?_ _ | refine blk_drew ?_ | refine blk_alloc ?_ _)); exact BK244.out) hg (Kd.N_away HO_241002.out (fun _ hk => hk.1.2.2)))
                 have n6_ := Aside0.mk (hb)
                 have n7_ := Aside0.mk (ho)
                 clear HO_0
                 clear BK240
                 clear HL241_2
                 clear HL242_2
                 clear HL243_1
                 clear BK244
                 clear HB
                 clear HO_241002
                 clear HO250
                 have HO_0 := n0_
                 have BK240 := n1_
                 have HL241_2 := n2_
                 have HL242_2 := n3_
                 have HL243_1 := n4_
                 have BK244 := n5_
                 have HB := n6_
                 have HO253 := n7_
                 clear n0_ n1_ n2_ n3_ n4_ n5_ n6_ n7_
                 clear ho hb hg hat
                 obtain ⟨Ao53, co53, eo53⟩ := Kd.N_slice HO253.out
                 (first | subst eo53 | (injection eo53 with f1_ f2_ f3_; have f4_ := f1_.symm; have f5_ := f3_.symm; clear f1_ f2_ f3_; subst f4_; subst f5_))
                 refine hK.out _ _ ⟨(blk_cell BK240.out 0).trans rfl, (blk_cell BK240.out 1).trans rfl, (blk_cell BK240.out 2).trans rfl⟩ (fun hHeld => ?_)
                 clear hK K
                 refine norm_ (a' := ?_) ?_ ?_
                 rotate_left
                 ·show Act.put _ (some 82) _ = _
                  simp only [Act.put, List.setIfInBounds_toArray, List.set_cons_zero, List.set_cons_succ, i64_w, i32_w]
                  rfl
                 refine pure_ (i := 8) (N := some 83) (v := ?_) (a' := ?_) kPr151 rfl rfl (any_of HT_.out (by kernel_rfl)) (fun _ _ _ h => h) (Or.inl ⟨by rfl, ?_⟩) ?_ ?_
                 rotate_left
                 ·intro w'
                  go_simp
                  with_reducible rfl
                 rotate_left
                 ·simp only [Act.put, List.setIfInBounds_toArray, List.set_cons_zero, List.set_cons_succ, i64_w, i32_w]
                  rfl
                 refine last_ (i := 9) (N := none) kPr150 rfl rfl (one_of HT_.out (by kernel_rfl)) (by decide) (fun K hK => ?_)
                 have hs54 : w52.cell? ⟨gb240, 2, none⟩ = some (u241002) := (blk_cell BK240.out 2).trans rfl
                 have hfs54 := blk_frozen BK240.out 2
                 have hns54_1 := NB244_240.out
                 have hms54_1 := NB240_244.out
                 refine skip_ (w1 := ?_) (by rfl) rfl ?_ ?_
                 rotate_left
                 ·go_simp
                  rfl
                 refine hK.out _ _ ?_
                 clear hK K
                 refine done_ (done_of HT_.out (by kernel_rfl)) ?_
                 have n0_ : Aside0 (Kd.V k44 44 (w52.setCell ⟨gb240, 2, none⟩ (.slice Ao53 y251.length co53)) w.heap.size (fun k_ => (P0_ k_ ∨ w.heap.size ≤ k_) ∧ some k_ ≠ (.slice Ao53 y251.length co53 : Value).ownBlock ∧ k_ ≠ gb240 ∧ k_ ≠ gb244) (.slice (some ad239) l0.length c0) l0) := ⟨by (with_reducible repeat (first | apply Kd.V_alloc | apply Kd.V_drewN | apply Kd.V_drew)); exact Kd.V_mono (Kd.V_far (p := ⟨gb240, 2, none⟩) (Kd.V_mono HO_0.out (fun k_ hk => (⟨hk, hk.1.2.2.1⟩ : _ ∧ k_ ≠ gb240))) (fun _ hk => hk.2) (.slice Ao53 y251.length co53)) (fun _ hk => ⟨hk.1.1.1, ⟨hk.1.2, ⟨hk.1.1.2.2.1, hk.1.1.2.2.2⟩⟩⟩)⟩
                 have n1_ : Aside0 (Kd.V k46 46 (w52.setCell ⟨gb240, 2, none⟩ (.slice Ao53 y251.length co53)) w.heap.size (fun k_ => (P0_ k_ ∨ w.heap.size ≤ k_) ∧ some k_ ≠ (.slice Ao53 y251.length co53 : Value).ownBlock ∧ k_ ≠ gb240 ∧ k_ ≠ gb244) (.slice (some ad243) ((rd_T44 l0 t236).f2).length c241_2) ((rd_T44 l0 t236).f2)) := ⟨by (with_reducible repeat (first | apply Kd.V_alloc | apply Kd.V_drewN | apply Kd.V_drew)); exact Kd.V_mono (Kd.V_far (p := ⟨gb240, 2, none⟩) (Kd.V_mono HL241_2.out (fun k_ hk => (⟨hk, hk.1.2.2.1⟩ : _ ∧ k_ ≠ gb240))) (fun _ hk => hk.2) (.slice Ao53 y251.length co53)) (fun _ hk => ⟨hk.1.1.1, ⟨hk.1.2, ⟨hk.1.1.2.2.1, hk.1.1.2.2.2⟩⟩⟩)⟩
                 have n2_ : Aside0 (Kd.V k46 46 (w52.setCell ⟨gb240, 2, none⟩ (.slice Ao53 y251.length co53)) w.heap.size (fun k_ => (P0_ k_ ∨ w.heap.size ≤ k_) ∧ some k_ ≠ (.slice Ao53 y251.length co53 : Value).ownBlock ∧ k_ ≠ gb240 ∧ k_ ≠ gb244) (.slice (some ad243) ((rd_T44 l0 t236).f2).length c241_2) ((rd_T44 l0 t236).f2)) := ⟨by (with_reducible repeat (first | apply Kd.V_alloc | apply Kd.V_drewN | apply Kd.V_drew)); exact Kd.V_mono (Kd.V_far (p := ⟨gb240, 2, none⟩) (Kd.V_mono HL242_2.out (fun k_ hk => (⟨hk, hk.1.2.2.1⟩ : _ ∧ k_ ≠ gb240))) (fun _ hk => hk.2) (.slice Ao53 y251.length co53)) (fun _ hk => ⟨hk.1.1.1, ⟨hk.1.2, ⟨hk.1.1.2.2.1, hk.1.1.2.2.2⟩⟩⟩)⟩
                 have n3_ : Aside0 (Kd.V (Kd.int .u8) 5 (w52.setCell ⟨gb240, 2, none⟩ (.slice Ao53 y251.length co53)) w.heap.size (fun k_ => (P0_ k_ ∨ w.heap.size ≤ k_) ∧ some k_ ≠ (.slice Ao53 y251.length co53 : Value).ownBlock ∧ k_ ≠ gb240 ∧ k_ ≠ gb244) (.slice A243_1 ((rd_T46 ((rd_T44 l0 t236).f2) x13_2).f1).length c243_1) ((rd_T46 ((rd_T44 l0 t236).f2) x13_2).f1)) := ⟨by (with_reducible repeat (first | apply Kd.V_alloc | apply Kd.V_drewN | apply Kd.V_drew)); exact Kd.V_mono (Kd.V_far (p := ⟨gb240, 2, none⟩) (Kd.V_mono HL243_1.out (fun k_ hk => (⟨hk, hk.1.2.2.1⟩ : _ ∧ k_ ≠ gb240))) (fun _ hk => hk.2) (.slice Ao53 y251.length co53)) (fun _ hk => ⟨hk.1.1.1, ⟨hk.1.2, ⟨hk.1.1.2.2.1, hk.1.1.2.2.2⟩⟩⟩)⟩
                 have n4_ : Aside0 (Kd.N k46 46 (w52.setCell ⟨gb240, 2, none⟩ (.slice Ao53 y251.length co53)) w.heap.size (fun k_ => (P0_ k_ ∨ w.heap.size ≤ k_) ∧ k_ ≠ gb240 ∧ k_ ≠ gb244) (.slice Ao53 y251.length co53) y251) := ⟨by (with_reducible repeat (first | apply Kd.N_alloc | apply Kd.N_drewN | apply Kd.N_drew)); exact Kd.N_mono (Kd.N_far (p := ⟨gb240, 2, none⟩) (Kd.N_mono HO253.out (fun k_ hk => (⟨hk, hk.2.1⟩ : _ ∧ k_ ≠ gb240))) (fun _ hk => hk.2) (.slice Ao53 y251.length co53)) (fun _ hk => ⟨hk.1.1, ⟨hk.1.2.1, hk.1.2.2⟩⟩)⟩
                 have n5_ : Aside0 ((w52.setCell ⟨gb240, 2, none⟩ (.slice Ao53 y251.length co53)).heap[gb240]? = some (.cells #[.int .i64 a1, .int .i64 ((rd_T44 l0 t236).f1), .slice Ao53 y251.length co53] 44 (0, 0))) := ⟨by (with_reducible repeat (first | refine blk_drewN ?_ _ | refine blk_drew ?_ | refine blk_alloc ?_ _)); refine blk_put (cs := #[.int .i64 a1, .int .i64 ((rd_T44 l0 t236).f1), u241002]) ?_ 2 _ rfl; (with_reducible repeat (first | refine blk_drewN ?_ _ | refine blk_drew ?_ | refine blk_alloc ?_ _)); exact BK240.out⟩
                 have n6_ : Aside0 ((w52.setCell ⟨gb240, 2, none⟩ (.slice Ao53 y251.length co53)).heap[gb244]? = some (.cells #[.int .i64 ((rd_T46 ((rd_T44 l0 t236).f2) x13_2).f0), .slice A243_1 ((rd_T46 ((rd_T44 l0 t236).f2) x13_2).f1).length c243_1] 46 (0, 0))) := ⟨by (with_reducible repeat (first | refine blk_drewN ?_ _ | refine blk_drew ?_ | refine blk_alloc ?_ _)); refine blk_far ?_ NB244_240.out _; (with_reducible repeat (first | refine blk_drewN ?_ _ | refine blk_drew ?_ | refine blk_alloc ?_ _)); exact BK244.out⟩
                 have n7_ : Aside0 (Below w.heap.size w (w52.setCell ⟨gb240, 2, none⟩ (.slice Ao53 y251.length co53))) := ⟨by repeat (first | (with_reducible first | exact HB.out | apply below_alloc | apply pw_below_drewN | apply below_drew1 | refine below_set ?_ GE240.out | refine below_set ?_ GE244.out) | exact HB.out)⟩
                 (try clear HO_0)
                 (try clear HL241_2)
                 (try clear HL242_2)
                 (try clear HL243_1)
                 (try clear HO253)
                 (try clear BK240)
                 (try clear BK244)
                 (try clear HB)
                 generalize (w52.setCell ⟨gb240, 2, none⟩ (.slice Ao53 y251.length co53)) = w55 at n0_ n1_ n2_ n3_ n4_ n5_ n6_ n7_ ⊢
                 have HO_0 := n0_
                 have HL241_2 := n1_
                 have HL242_2 := n2_
                 have HL243_1 := n3_
                 have HO253 := n4_
                 have BK240 := n5_
                 have BK244 := n6_
                 have HB := n7_
                 clear n0_ n1_ n2_ n3_ n4_ n5_ n6_ n7_
                 have hcz56_0 : w55.cell? ⟨gb240, 0, none⟩ = some (.int .i64 a1) := (blk_cell BK240.out 0).trans rfl
                 have hcz56_1 : w55.cell? ⟨gb240, 1, none⟩ = some (.int .i64 ((rd_T44 l0 t236).f1)) := (blk_cell BK240.out 1).trans rfl
                 have hcz56_2 : w55.cell? ⟨gb240, 2, none⟩ = some (.slice Ao53 y251.length co53) := (blk_cell BK240.out 2).trans rfl
                 have hfz56_0 := blk_frozen BK240.out 0
                 have hfz56_1 := blk_frozen BK240.out 1
                 have hfz56_2 := blk_frozen BK240.out 2
                 have hcz57_0 : w55.cell? ⟨gb244, 0, none⟩ = some (.int .i64 ((rd_T46 ((rd_T44 l0 t236).f2) x13_2).f0)) := (blk_cell BK244.out 0).trans rfl
                 have hcz57_1 : w55.cell? ⟨gb244, 1, none⟩ = some (.slice A243_1 ((rd_T46 ((rd_T44 l0 t236).f2) x13_2).f1).length c243_1) := (blk_cell BK244.out 1).trans rfl
                 have hfz57_0 := blk_frozen BK244.out 0
                 have hfz57_1 := blk_frozen BK244.out 1
                 try go_wp2_with (first | ((with_reducible refine gate_builtin (b := .append) (xs := #[.tmp 85, .tmp 87]) rfl ?_); at_builtin; refine Kd.N_append k46 (w0 := w) w.heap.size rfl (.tmp 85) (.tmp 87) 42 46 (.agg #[(.int .i64 0), (.slice none 0 0)]) 32 rfl Try.underlying42 info46 rfl (by decide) (by omega) (.slice Ao53 y251.length co53) y251 (⟨(rd_T46 ((rd_T44 l0 t236).f2) x13_2).f0, (rd_T46 ((rd_T44 l0 t236).f2) x13_2).f1⟩ : S46) [.int .i64 ((rd_T46 ((rd_T44 l0 t236).f2) x13_2).f0), .slice A243_1 ((rd_T46 ((rd_T44 l0 t236).f2) x13_2).f1).length c243_1] (fun k_ => (P0_ k_ ∨ w.heap.size ≤ k_) ∧ k_ ≠ gb240 ∧ k_ ≠ gb244) (fun k_ => ((fun k_ => (P0_ k_ ∨ w.heap.size ≤ k_) ∧ k_ ≠ gb240 ∧ k_ ≠ gb244)) k_ ∧ some k_ ≠ (.slice Ao53 y251.length co53 : Value).ownBlock) rfl rfl ?aP (fun _ hk => hk) ?aF ?aO ?aB ?aS ?aL ?_; (case aP => first | exact (k46_mkF _ _ (⟨(rd_T46 ((rd_T44 l0 t236).f2) x13_2).f0, (rd_T46 ((rd_T44 l0 t236).f2) x13_2).f1⟩ : S46) (Kd.V_reads' (Kd.V_mono (ok' := (fun k_ => ((fun k_ => (P0_ k_ ∨ w.heap.size ≤ k_) ∧ k_ ≠ gb240 ∧ k_ ≠ gb244)) k_ ∧ some k_ ≠ (.slice Ao53 y251.length co53 : Value).ownBlock)) (HL243_1.out) (fun k_ hk => ⟨⟨hk.1, ⟨hk.2.2.1, hk.2.2.2⟩⟩, hk.2.1⟩))).2.1 (Kd.V_F (Kd.V_mono (ok' := (fun k_ => ((fun k_ => (P0_ k_ ∨ w.heap.size ≤ k_) ∧ k_ ≠ gb240 ∧ k_ ≠ gb244)) k_ ∧ some k_ ≠ (.slice Ao53 y251.length co53 : Value).ownBlock)) (HL243_1.out) (fun k_ hk => ⟨⟨hk.1, ⟨hk.2.2.1, hk.2.2.2⟩⟩, hk.2.1⟩)))) | exact (k46_mkF _ _ (⟨(rd_T46 ((rd_T44 l0 t236).f2) x13_2).f0, (rd_T46 ((rd_T44 l0 t236).f2) x13_2).f1⟩ : S46) (Kd.V_reads' (Kd.V_mono (ok' := (fun k_ => ((fun k_ => (P0_ k_ ∨ w.heap.size ≤ k_) ∧ k_ ≠ gb240 ∧ k_ ≠ gb244)) k_ ∧ some k_ ≠ (.slice Ao53 y251.length co53 : Value).ownBlock)) (HL243_1.out) (fun k_ hk => ⟨⟨hk.1, ⟨hk.2.2.1, hk.2.2.2⟩⟩, hk.2.1⟩))).2.1 (Kd.V_F (Kd.V_mono (ok' := (fun k_ => ((fun k_ => (P0_ k_ ∨ w.heap.size ≤ k_) ∧ k_ ≠ gb240 ∧ k_ ≠ gb244)) k_ ∧ some k_ ≠ (.slice Ao53 y251.length co53 : Value).ownBlock)) (Kd.V_drewN (HL243_1.out) _) (fun k_ hk => ⟨⟨hk.1, ⟨hk.2.2.1, hk.2.2.2⟩⟩, hk.2.1⟩))))); (case aB => exact (by repeat (first | (with_reducible first | exact HB.out | apply below_alloc | apply pw_below_drewN | apply below_drew1 | refine below_set ?_ GE240.out | refine below_set ?_ GE244.out) | exact HB.out))); (case aF => exact (fun k_ hk => ⟨(.inr (Nat.le_trans (below_size (by repeat (first | (with_reducible first | exact HB.out | apply below_alloc | apply pw_below_drewN | apply below_drew1 | refine below_set ?_ GE240.out | refine below_set ?_ GE244.out) | exact HB.out))) hk)), Kd.freshB (g := gb240) (o := .cells #[.int .i64 a1, .int .i64 ((rd_T44 l0 t236).f1), .slice Ao53 y251.length co53] 44 (0, 0)) (by (with_reducible repeat (first | refine blk_drewN ?_ _ | refine blk_drew ?_ | refine blk_alloc ?_ _)); exact BK240.out) k_ hk, Kd.freshB (g := gb244) (o := .cells #[.int .i64 ((rd_T46 ((rd_T44 l0 t236).f2) x13_2).f0), .slice A243_1 ((rd_T46 ((rd_T44 l0 t236).f2) x13_2).f1).length c243_1] 46 (0, 0)) (by (with_reducible repeat (first | refine blk_drewN ?_ _ | refine blk_drew ?_ | refine blk_alloc ?_ _)); exact BK244.out) k_ hk⟩)); (case aO => exact (by (with_reducible repeat (first | apply Kd.N_alloc | apply Kd.N_drewN | apply Kd.N_drew)); exact HO253.out)); (case aS => exact (below_size (by repeat (first | (with_reducible first | exact HB.out | apply below_alloc | apply pw_below_drewN | apply below_drew1 | refine below_set ?_ GE240.out | refine below_set ?_ GE244.out) | exact HB.out)))); (case aL => have := LMc44.out; omega); intro v255 w58 ho hb hg hat; rw [← Ny254.out] at ho; have n0_ := Aside0.mk (Kd.V_afterv (ok := (fun k_ => (P0_ k_ ∨ w.heap.size ≤ k_) ∧ k_ ≠ gb240 ∧ k_ ≠ gb244)) (by (with_reducible repeat (first | apply Kd.V_alloc | apply Kd.V_drewN | apply Kd.V_drew)); exact Kd.V_mono HO_0.out (fun _ hk => ⟨⟨hk.1, ⟨hk.2.2.1, hk.2.2.2⟩⟩, hk.2.1⟩)) hg hat); have n1_ := Aside0.mk (blk_grown (g := gb240) (o := .cells #[.int .i64 a1, .int .i64 ((rd_T44 l0 t236).f1), .slice Ao53 y251.length co53] 44 (0, 0)) (by (with_reducible repeat (first | refine blk_drewN ?_ _ | refine blk_drew ?_ | refine blk_alloc ?_ _)); exact BK240.out) hg (Kd.N_ne HO253.out BK240.out (by decide))); have n2_ := Aside0.mk (Kd.V_afterv (ok := (fun k_ => (P0_ k_ ∨ w.heap.size ≤ k_) ∧ k_ ≠ gb240 ∧ k_ ≠ gb244)) (by (with_reducible repeat (first | apply Kd.V_alloc | apply Kd.V_drewN | apply Kd.V_drew)); exact Kd.V_mono HL241_2.out (fun _ hk => ⟨⟨hk.1, ⟨hk.2.2.1, hk.2.2.2⟩⟩, hk.2.1⟩)) hg hat); have n3_ := Aside0.mk (Kd.V_afterv (ok := (fun k_ => (P0_ k_ ∨ w.heap.size ≤ k_) ∧ k_ ≠ gb240 ∧ k_ ≠ gb244)) (by (with_reducible repeat (first | apply Kd.V_alloc | apply Kd.V_drewN | apply Kd.V_drew)); exact Kd.V_mono HL242_2.out (fun _ hk => ⟨⟨hk.1, ⟨hk.2.2.1, hk.2.2.2⟩⟩, hk.2.1⟩)) hg hat); have n4_ := Aside0.mk (Kd.V_afterv (ok := (fun k_ => (P0_ k_ ∨ w.heap.size ≤ k_) ∧ k_ ≠ gb240 ∧ k_ ≠ gb244)) (by (with_reducible repeat (first | apply Kd.V_alloc | apply Kd.V_drewN | apply Kd.V_drew)); exact Kd.V_mono HL243_1.out (fun _ hk => ⟨⟨hk.1, ⟨hk.2.2.1, hk.2.2.2⟩⟩, hk.2.1⟩)) hg hat); have n5_ := Aside0.mk (blk_grown (g := gb244) (o := .cells #[.int .i64 ((rd_T46 ((rd_T44 l0 t236).f2) x13_2).f0), .slice A243_1 ((rd_T46 ((rd_T44 l0 t236).f2) x13_2).f1).length c243_1] 46 (0, 0)) (by (with_reducible repeat (first | refine blk_drewN ?_ _ | refine blk_drew ?_ | refine blk_alloc ?_ _)); exact BK244.out) hg (Kd.N_away HO253.out (fun _ hk => hk.2.2))); have n6_ := Aside0.mk (hb); have n7_ := Aside0.mk (ho); clear HO_0; clear BK240; clear HL241_2; clear HL242_2; clear HL243_1; clear BK244; clear HB; clear HO253; have HO_0 := n0_; have BK240 := n1_; have HL241_2 := n2_; have HL242_2 := n3_; have HL243_1 := n4_; have BK244 := n5_; have HB := n6_; have HO256 := n7_; clear n0_ n1_ n2_ n3_ n4_ n5_ n6_ n7_; clear ho hb hg hat; obtain ⟨Ao59, co59, eo59⟩ := Kd.N_slice HO256.out; subst eo59; have hcz60_0 : w58.cell? ⟨gb240, 0, none⟩ = some (.int .i64 a1) := (blk_cell BK240.out 0).trans rfl; have hcz60_1 : w58.cell? ⟨gb240, 1, none⟩ = some (.int .i64 ((rd_T44 l0 t236).f1)) := (blk_cell BK240.out 1).trans rfl; have hcz60_2 : w58.cell? ⟨gb240, 2, none⟩ = some (.slice Ao53 y251.length co53) := (blk_cell BK240.out 2).trans rfl; have hfz60_0 := blk_frozen BK240.out 0; have hfz60_1 := blk_frozen BK240.out 1; have hfz60_2 := blk_frozen BK240.out 2))
                 go_roundg k2
                 case measure => have := HJ5.out; have := HK2.out; omega
                 case rel => exact ⟨(true), (wrap64 (x13_2 + 1)), (y254), (.slice Ao59 y254.length co59), (by first | rfl | (simp; done) | (simp [*]; done)), (by first | rfl | (simp; done) | (simp [*]; done)), H', ⟨by have := HJ5.out; have := HK2.out; omega⟩, ⟨by (with_reducible repeat (first | apply Kd.V_alloc | apply Kd.V_drewN | apply Kd.V_drew)); exact Kd.V_mono (Kd.V_far (p := ⟨gb240, 2, none⟩) (Kd.V_mono HO_0.out (fun k_ hk => (⟨hk, hk.1.2.1⟩ : _ ∧ k_ ≠ gb240))) (fun _ hk => hk.2) (.slice Ao59 y254.length co59)) (fun _ hk => ⟨hk.1.1.1, ⟨hk.1.2, hk.1.1.2.1⟩⟩)⟩, ⟨by (with_reducible repeat (first | apply Kd.N_alloc | apply Kd.N_drewN | apply Kd.N_drew)); exact Kd.N_mono (Kd.N_far (p := ⟨gb240, 2, none⟩) (Kd.N_mono HO256.out (fun k_ hk => (⟨hk, hk.2.1⟩ : _ ∧ k_ ≠ gb240))) (fun _ hk => hk.2) (.slice Ao59 y254.length co59)) (fun _ hk => ⟨hk.1.1, hk.1.2.1⟩)⟩, ⟨by (with_reducible repeat (first | refine blk_drewN ?_ _ | refine blk_drew ?_ | refine blk_alloc ?_ _)); refine blk_put (cs := #[.int .i64 a1, .int .i64 ((rd_T44 l0 t236).f1), .slice Ao53 y251.length co53]) ?_ 2 _ rfl; (with_reducible repeat (first | refine blk_drewN ?_ _ | refine blk_drew ?_ | refine blk_alloc ?_ _)); exact BK240.out⟩, ⟨by repeat (first | (with_reducible first | exact HB.out | apply below_alloc | apply pw_below_drewN | apply below_drew1 | refine below_set ?_ GE240.out | refine below_set ?_ GE244.out) | exact HB.out)⟩⟩
                ·rw [if_neg c44] at H
                 exact absurd H (by simp)
               ·rw [if_neg c43] at H
                exact absurd H (by simp)
             ·rw [if_neg c30] at H
              have c30b0 : decide (a2 < ((rd_T46 ((rd_T44 l0 t236).f2) x13_2).f0)) = false := decide_eq_false c30
              clear c30
              by_cases c61 : x241002_2.length < 4398046511104
              ·rw [if_pos c61] at H
               have LMc61 := Aside0.mk c61
               clear c61
               obtain ⟨y257, hy257⟩ : ∃ y_ : List (S46), y_ = (x241002_2 ++ [(⟨(rd_T46 ((rd_T44 l0 t236).f2) x13_2).f0, (rd_T46 ((rd_T44 l0 t236).f2) x13_2).f1⟩ : S46)]) := ⟨_, rfl⟩
               replace H : (musterref09_Done.l0 k2 l0 a2 l3 t236 x12_2 (wrap64 (x13_2 + 1)) a1 ((rd_T44 l0 t236).f1) y257) = some (r1, r2) := by first | (rw [hy257]; with_reducible exact H) | (have H2_ := (Option.bind_some _ _).symm.trans H; rw [hy257]; with_reducible exact H2_) | (have H2_ := (Option.bind_some _ _).symm.trans H; with_reducible exact H2_) | with_reducible exact H | (rw [hy257]; exact H) | exact H
               have Ny257 := Aside0.mk hy257
               clear hy257
               have H' := Aside0.mk H
               clear H
               have p241 : 0 ≤ (t236 : Int) := of_decide_eq_true (by first | (with_reducible assumption) | assumption)
               have q241 : t236 < (l0.length : Int) := of_decide_eq_true (by first | (with_reducible assumption) | assumption)
               obtain ⟨ad241, A241_2, c241_2, e241, hx241_0, hx241_1, hx241_2, hl241_2, hi241_2⟩ := at_T44 (Kd.V_reads' HO_0.out).2.2 t236 p241 q241
               obtain rfl : ad239 = ad241 := (by injection e241)
               obtain ⟨ce241, hce241, hMe241, hcc241⟩ := Kd.V_get HO_0.out z44 t236 p241 (by first | exact q241 | exact of_decide_eq_true (by first | (with_reducible assumption) | assumption) | (have e_ := (Kd.V_reads' HO_0.out).1; omega))
               obtain ⟨ua241_2, uc241_2, rfl, ul241_2, ge241_2⟩ := k44_openF hMe241
               have hv241_2 := hcc241 2 _ rfl
               rw [add_field _ _ 2 (by omega)] at hv241_2
               replace hv241_2 := Option.some.inj (hv241_2.symm.trans hx241_2)
               injection hv241_2 with hva_ hvn_ hvc_
               rw [hva_] at ge241_2
               rw [hvc_] at ul241_2
               have HL241_2 := Aside0.mk (show Kd.V k46 46 _ w.heap.size _ _ ((rd_T44 l0 t236).f2) from Kd.V_mk ul241_2 ge241_2)
               clear hva_ hvn_ hvc_ ge241_2 ul241_2
               clear hcc241 hce241
               have HR241_2 := Aside0.mk hi241_2
               have HC241_2 := Aside0.mk hl241_2
               clear hi241_2 hl241_2
               replace p241 := eq_true p241
               replace q241 := eq_true q241
               have p242 : 0 ≤ (t236 : Int) := of_decide_eq_true (by first | (with_reducible assumption) | assumption)
               have q242 : t236 < (l0.length : Int) := of_decide_eq_true (by first | (with_reducible assumption) | assumption)
               obtain ⟨ad242, A242_2, c242_2, e242, hx242_0, hx242_1, hx242_2, hl242_2, hi242_2⟩ := at_T44 (Kd.V_reads' HO_0.out).2.2 t236 p242 q242
               obtain rfl : ad239 = ad242 := (by injection e242)
               obtain ⟨ce242, hce242, hMe242, hcc242⟩ := Kd.V_get HO_0.out z44 t236 p242 (by first | exact q242 | exact of_decide_eq_true (by first | (with_reducible assumption) | assumption) | (have e_ := (Kd.V_reads' HO_0.out).1; omega))
               obtain ⟨ua242_2, uc242_2, rfl, ul242_2, ge242_2⟩ := k44_openF hMe242
               have hv242_2 := hcc242 2 _ rfl
               rw [add_field _ _ 2 (by omega)] at hv242_2
               replace hv242_2 := Option.some.inj (hv242_2.symm.trans hx242_2)
               injection hv242_2 with hva_ hvn_ hvc_
               rw [hva_] at ge242_2
               rw [hvc_] at ul242_2
               have HL242_2 := Aside0.mk (show Kd.V k46 46 _ w.heap.size _ _ ((rd_T44 l0 t236).f2) from Kd.V_mk ul242_2 ge242_2)
               clear hva_ hvn_ hvc_ ge242_2 ul242_2
               clear hcc242 hce242
               have HR242_2 := Aside0.mk hi242_2
               have HC242_2 := Aside0.mk hl242_2
               clear hi242_2 hl242_2
               replace p242 := eq_true p242
               replace q242 := eq_true q242
               have ea_ := Option.some.inj (hx241_2.symm.trans hx242_2)
               injection ea_ with ea_ en_ ec_
               subst ea_
               subst ec_
               clear en_
               have p243 : 0 ≤ (x13_2 : Int) := of_decide_eq_true (by first | (with_reducible assumption) | assumption)
               have q243 : x13_2 < (((rd_T44 l0 t236).f2).length : Int) := of_decide_eq_true (by first | (with_reducible assumption) | assumption)
               obtain ⟨ad243, A243_1, c243_1, e243, hx243_0, hx243_1, hl243_1, hi243_1⟩ := at_T46 (by repeat (first | (with_reducible exact HR242_2.out) | (with_reducible refine Kd.C_alloc ?_ _) | (with_reducible refine Kd.C_drewN ?_ _) | (with_reducible refine Kd.C_drew ?_) | exact HR242_2.out)) x13_2 p243 q243
               cases e243
               obtain ⟨ce243, hce243, hMe243, hcc243⟩ := Kd.V_get HL242_2.out z46 x13_2 p243 (by first | exact q243 | exact of_decide_eq_true (by first | (with_reducible assumption) | assumption) | (have e_ := (Kd.V_reads' HL242_2.out).1; omega))
               obtain ⟨ua243_1, uc243_1, rfl, ul243_1, ge243_1⟩ := k46_openF hMe243
               have hv243_1 := hcc243 1 _ rfl
               rw [add_field _ _ 1 (by omega)] at hv243_1
               replace hv243_1 := Option.some.inj (hv243_1.symm.trans hx243_1)
               injection hv243_1 with hva_ hvn_ hvc_
               rw [hva_] at ge243_1
               rw [hvc_] at ul243_1
               have HL243_1 := Aside0.mk (show Kd.V (Kd.int .u8) 5 _ w.heap.size _ _ ((rd_T46 ((rd_T44 l0 t236).f2) x13_2).f1) from Kd.V_mk ul243_1 ge243_1)
               clear hva_ hvn_ hvc_ ge243_1 ul243_1
               clear hcc243 hce243
               have HR243_1 := Aside0.mk hi243_1
               have HC243_1 := Aside0.mk hl243_1
               clear hi243_1 hl243_1
               replace p243 := eq_true p243
               replace q243 := eq_true q243
               go_wp2_with (first | ((with_reducible refine gate_dst (N := 14) rfl ?_); refine box_event ?hg (N := 14) ?hd (cs := #[.int .i64 0, .slice none 0 0]) (t := 46) ?hr ?_; (case hd => rfl); (case hg => rfl); (case hr => first | (go_simp; done) | (go_simp; rfl)); intro gb244 hg w62 hbox hb; have n0_ := Aside0.mk (Kd.V_below (Kd.V_elderB (by (with_reducible repeat (first | apply Kd.V_alloc | apply Kd.V_drewN | apply Kd.V_drew)); exact HO_0.out) gb244 (Nat.le_of_eq hg.symm)) hb); have n1_ := Aside0.mk (Kd.N_below (Kd.N_elderB (by (with_reducible repeat (first | apply Kd.N_alloc | apply Kd.N_drewN | apply Kd.N_drew)); exact HO_241002.out) gb244 (Nat.le_of_eq hg.symm)) hb); have n2_ := Aside0.mk (Kd.V_below (Kd.V_elderB (by (with_reducible repeat (first | apply Kd.V_alloc | apply Kd.V_drewN | apply Kd.V_drew)); exact HL241_2.out) gb244 (Nat.le_of_eq hg.symm)) hb); have n3_ := Aside0.mk (Kd.V_below (Kd.V_elderB (by (with_reducible repeat (first | apply Kd.V_alloc | apply Kd.V_drewN | apply Kd.V_drew)); exact HL242_2.out) gb244 (Nat.le_of_eq hg.symm)) hb); have n4_ := Aside0.mk (Kd.V_below (Kd.V_elderB (by (with_reducible repeat (first | apply Kd.V_alloc | apply Kd.V_drewN | apply Kd.V_drew)); exact HL243_1.out) gb244 (Nat.le_of_eq hg.symm)) hb); have n5_ := Aside0.mk (blk_below (g := gb240) (o := .cells #[.int .i64 a1, .int .i64 ((rd_T44 l0 t236).f1), u241002] 44 (0, 0)) (by (with_reducible repeat (first | refine blk_drewN ?_ _ | refine blk_drew ?_ | refine blk_alloc ?_ _)); exact BK240.out) hb); have n6_ := Aside0.mk (Kd.C_below (by repeat (first | (with_reducible exact HR241_2.out) | (with_reducible refine Kd.C_alloc ?_ _) | (with_reducible refine Kd.C_drewN ?_ _) | (with_reducible refine Kd.C_drew ?_) | exact HR241_2.out)) hb); have n7_ := Aside0.mk (Kd.C_below (by repeat (first | (with_reducible exact HR242_2.out) | (with_reducible refine Kd.C_alloc ?_ _) | (with_reducible refine Kd.C_drewN ?_ _) | (with_reducible refine Kd.C_drew ?_) | exact HR242_2.out)) hb); have n8_ := Aside0.mk (Kd.C_below (by repeat (first | (with_reducible exact HR243_1.out) | (with_reducible refine Kd.C_alloc ?_ _) | (with_reducible refine Kd.C_drewN ?_ _) | (with_reducible refine Kd.C_drew ?_) | exact HR243_1.out)) hb); have n9_ := Aside0.mk (below_step (by repeat (first | (with_reducible first | exact HB.out | apply below_alloc | apply pw_below_drewN | apply below_drew1 | refine below_set ?_ GE240.out) | exact HB.out)) hb); have n10_ := Aside0.mk (hbox); have n11_ := Aside0.mk ((by rw [hg]; exact (below_size (by repeat (first | (with_reducible first | exact HB.out | apply below_alloc | apply pw_below_drewN | apply below_drew1 | refine below_set ?_ GE240.out) | exact HB.out))) : w.heap.size ≤ gb244)); have n12_ := Aside0.mk ((by rw [hg]; exact (below_size (by repeat (first | (with_reducible first | exact HB.out | apply below_alloc | apply pw_below_drewN | apply below_drew1 | refine below_set ?_ GE240.out) | exact HB.out))) : w.heap.size ≤ gb244)); have n13_ := Aside0.mk ((by rw [hg]; exact Nat.ne_of_lt (blk_lt (g := gb240) (o := .cells #[.int .i64 a1, .int .i64 ((rd_T44 l0 t236).f1), u241002] 44 (0, 0)) (by (with_reducible repeat (first | refine blk_drewN ?_ _ | refine blk_drew ?_ | refine blk_alloc ?_ _)); exact BK240.out)) : gb240 ≠ gb244)); have n14_ := Aside0.mk ((by rw [hg]; exact Nat.ne_of_gt (blk_lt (g := gb240) (o := .cells #[.int .i64 a1, .int .i64 ((rd_T44 l0 t236).f1), u241002] 44 (0, 0)) (by (with_reducible repeat (first | refine blk_drewN ?_ _ | refine blk_drew ?_ | refine blk_alloc ?_ _)); exact BK240.out)) : gb244 ≠ gb240)); clear HO_0; clear HO_241002; clear HL241_2; clear HL242_2; clear HL243_1; clear BK240; clear HR241_2; clear HR242_2; clear HR243_1; clear HB; have HO_0 := n0_; have HO_241002 := n1_; have HL241_2 := n2_; have HL242_2 := n3_; have HL243_1 := n4_; have BK240 := n5_; have HR241_2 := n6_; have HR242_2 := n7_; have HR243_1 := n8_; have HB := n9_; have BK244 := n10_; have GW244 := n11_; have GE244 := n12_; have NB240_244 := n13_; have NB244_240 := n14_; clear n0_ n1_ n2_ n3_ n4_ n5_ n6_ n7_ n8_ n9_ n10_ n11_ n12_ n13_ n14_; clear hb hbox hg; have hnb63 := NB244_240.out; have hnc63 := NB240_244.out; have hcz64_0 : w62.cell? ⟨gb244, 0, none⟩ = some (.int .i64 0) := (blk_cell BK244.out 0).trans rfl; have hcz64_1 : w62.cell? ⟨gb244, 1, none⟩ = some (.slice none 0 0) := (blk_cell BK244.out 1).trans rfl; have hfz64_0 := blk_frozen BK244.out 0; have hfz64_1 := blk_frozen BK244.out 1) | ((with_reducible refine gate_store (t := 46) (p := 14) rfl ?_); refine store_event (t := 46) (p := 14) (v := ?vo_w65) (w1 := ((w62.setCell ⟨gb244, 0, none⟩ (.int .i64 ((rd_T46 ((rd_T44 l0 t236).f2) x13_2).f0))).setCell ⟨gb244, 1, none⟩ (.slice A243_1 ((rd_T46 ((rd_T44 l0 t236).f2) x13_2).f1).length c243_1))) ?hg ?ho ?hn ?hr ?_; (case ho => rfl); (case hg => rfl); (case hn => rfl); (case hr => first | (go_simp; done) | (go_simp; rfl)); intro w65 hw; have n0_ : Aside0 (Kd.V k44 44 w65 w.heap.size (fun k_ => (P0_ k_ ∨ w.heap.size ≤ k_) ∧ some k_ ≠ (u241002 : Value).ownBlock ∧ k_ ≠ gb240 ∧ k_ ≠ gb244) (.slice (some ad239) l0.length c0) l0) := ⟨(by rw [hw]; exact (by (with_reducible repeat (first | apply Kd.V_alloc | apply Kd.V_drewN | apply Kd.V_drew)); exact Kd.V_mono (Kd.V_far (p := ⟨gb244, 1, none⟩) (Kd.V_far (p := ⟨gb244, 0, none⟩) (Kd.V_mono HO_0.out (fun k_ hk => (⟨hk, hk.2⟩ : _ ∧ k_ ≠ gb244))) (fun _ hk => hk.2) (.int .i64 ((rd_T46 ((rd_T44 l0 t236).f2) x13_2).f0))) (fun _ hk => hk.2) (.slice A243_1 ((rd_T46 ((rd_T44 l0 t236).f2) x13_2).f1).length c243_1)) (fun _ hk => ⟨hk.1.1.1, ⟨hk.1.1.2.1, ⟨hk.1.1.2.2, hk.1.2⟩⟩⟩)))⟩; have n1_ : Aside0 (Kd.N k46 46 w65 w.heap.size (fun k_ => (P0_ k_ ∨ w.heap.size ≤ k_) ∧ k_ ≠ gb240 ∧ k_ ≠ gb244) u241002 x241002_2) := ⟨(by rw [hw]; exact (by (with_reducible repeat (first | apply Kd.N_alloc | apply Kd.N_drewN | apply Kd.N_drew)); exact Kd.N_mono (Kd.N_far (p := ⟨gb244, 1, none⟩) (Kd.N_far (p := ⟨gb244, 0, none⟩) (Kd.N_mono HO_241002.out (fun k_ hk => (⟨hk, hk.2⟩ : _ ∧ k_ ≠ gb244))) (fun _ hk => hk.2) (.int .i64 ((rd_T46 ((rd_T44 l0 t236).f2) x13_2).f0))) (fun _ hk => hk.2) (.slice A243_1 ((rd_T46 ((rd_T44 l0 t236).f2) x13_2).f1).length c243_1)) (fun _ hk => ⟨hk.1.1.1, ⟨hk.1.1.2, hk.1.2⟩⟩)))⟩; have n2_ : Aside0 (Kd.V k46 46 w65 w.heap.size (fun k_ => (P0_ k_ ∨ w.heap.size ≤ k_) ∧ some k_ ≠ (u241002 : Value).ownBlock ∧ k_ ≠ gb240 ∧ k_ ≠ gb244) (.slice (some ad243) ((rd_T44 l0 t236).f2).length c241_2) ((rd_T44 l0 t236).f2)) := ⟨(by rw [hw]; exact (by (with_reducible repeat (first | apply Kd.V_alloc | apply Kd.V_drewN | apply Kd.V_drew)); exact Kd.V_mono (Kd.V_far (p := ⟨gb244, 1, none⟩) (Kd.V_far (p := ⟨gb244, 0, none⟩) (Kd.V_mono HL241_2.out (fun k_ hk => (⟨hk, hk.2⟩ : _ ∧ k_ ≠ gb244))) (fun _ hk => hk.2) (.int .i64 ((rd_T46 ((rd_T44 l0 t236).f2) x13_2).f0))) (fun _ hk => hk.2) (.slice A243_1 ((rd_T46 ((rd_T44 l0 t236).f2) x13_2).f1).length c243_1)) (fun _ hk => ⟨hk.1.1.1, ⟨hk.1.1.2.1, ⟨hk.1.1.2.2, hk.1.2⟩⟩⟩)))⟩; have n3_ : Aside0 (Kd.V k46 46 w65 w.heap.size (fun k_ => (P0_ k_ ∨ w.heap.size ≤ k_) ∧ some k_ ≠ (u241002 : Value).ownBlock ∧ k_ ≠ gb240 ∧ k_ ≠ gb244) (.slice (some ad243) ((rd_T44 l0 t236).f2).length c241_2) ((rd_T44 l0 t236).f2)) := ⟨(by rw [hw]; exact (by (with_reducible repeat (first | apply Kd.V_alloc | apply Kd.V_drewN | apply Kd.V_drew)); exact Kd.V_mono (Kd.V_far (p := ⟨gb244, 1, none⟩) (Kd.V_far (p := ⟨gb244, 0, none⟩) (Kd.V_mono HL242_2.out (fun k_ hk => (⟨hk, hk.2⟩ : _ ∧ k_ ≠ gb244))) (fun _ hk => hk.2) (.int .i64 ((rd_T46 ((rd_T44 l0 t236).f2) x13_2).f0))) (fun _ hk => hk.2) (.slice A243_1 ((rd_T46 ((rd_T44 l0 t236).f2) x13_2).f1).length c243_1)) (fun _ hk => ⟨hk.1.1.1, ⟨hk.1.1.2.1, ⟨hk.1.1.2.2, hk.1.2⟩⟩⟩)))⟩; have n4_ : Aside0 (Kd.V (Kd.int .u8) 5 w65 w.heap.size (fun k_ => (P0_ k_ ∨ w.heap.size ≤ k_) ∧ some k_ ≠ (u241002 : Value).ownBlock ∧ k_ ≠ gb240 ∧ k_ ≠ gb244) (.slice A243_1 ((rd_T46 ((rd_T44 l0 t236).f2) x13_2).f1).length c243_1) ((rd_T46 ((rd_T44 l0 t236).f2) x13_2).f1)) := ⟨(by rw [hw]; exact (by (with_reducible repeat (first | apply Kd.V_alloc | apply Kd.V_drewN | apply Kd.V_drew)); exact Kd.V_mono (Kd.V_far (p := ⟨gb244, 1, none⟩) (Kd.V_far (p := ⟨gb244, 0, none⟩) (Kd.V_mono HL243_1.out (fun k_ hk => (⟨hk, hk.2⟩ : _ ∧ k_ ≠ gb244))) (fun _ hk => hk.2) (.int .i64 ((rd_T46 ((rd_T44 l0 t236).f2) x13_2).f0))) (fun _ hk => hk.2) (.slice A243_1 ((rd_T46 ((rd_T44 l0 t236).f2) x13_2).f1).length c243_1)) (fun _ hk => ⟨hk.1.1.1, ⟨hk.1.1.2.1, ⟨hk.1.1.2.2, hk.1.2⟩⟩⟩)))⟩; have n5_ : Aside0 (w65.heap[gb240]? = some (.cells #[.int .i64 a1, .int .i64 ((rd_T44 l0 t236).f1), u241002] 44 (0, 0))) := ⟨(by rw [hw]; exact (by (with_reducible repeat (first | refine blk_drewN ?_ _ | refine blk_drew ?_ | refine blk_alloc ?_ _)); refine blk_far ?_ NB240_244.out _; (with_reducible repeat (first | refine blk_drewN ?_ _ | refine blk_drew ?_ | refine blk_alloc ?_ _)); refine blk_far ?_ NB240_244.out _; (with_reducible repeat (first | refine blk_drewN ?_ _ | refine blk_drew ?_ | refine blk_alloc ?_ _)); exact BK240.out))⟩; have n6_ : Aside0 (w65.heap[gb244]? = some (.cells #[.int .i64 ((rd_T46 ((rd_T44 l0 t236).f2) x13_2).f0), .slice A243_1 ((rd_T46 ((rd_T44 l0 t236).f2) x13_2).f1).length c243_1] 46 (0, 0))) := ⟨(by rw [hw]; exact (by (with_reducible repeat (first | refine blk_drewN ?_ _ | refine blk_drew ?_ | refine blk_alloc ?_ _)); refine blk_put (cs := #[.int .i64 ((rd_T46 ((rd_T44 l0 t236).f2) x13_2).f0), .slice none 0 0]) ?_ 1 _ rfl; (with_reducible repeat (first | refine blk_drewN ?_ _ | refine blk_drew ?_ | refine blk_alloc ?_ _)); refine blk_put (cs := #[.int .i64 0, .slice none 0 0]) ?_ 0 _ rfl; (with_reducible repeat (first | refine blk_drewN ?_ _ | refine blk_drew ?_ | refine blk_alloc ?_ _)); exact BK244.out))⟩; have n7_ : Aside0 (Below w.heap.size w w65) := ⟨(by rw [hw]; exact (by repeat (first | (with_reducible first | exact HB.out | apply below_alloc | apply pw_below_drewN | apply below_drew1 | refine below_set ?_ GE240.out | refine below_set ?_ GE244.out) | exact HB.out)))⟩; clear hw; clear HO_0; clear HO_241002; clear HL241_2; clear HL242_2; clear HL243_1; clear BK240; clear BK244; clear HB; have HO_0 := n0_; have HO_241002 := n1_; have HL241_2 := n2_; have HL242_2 := n3_; have HL243_1 := n4_; have BK240 := n5_; have BK244 := n6_; have HB := n7_; clear n0_ n1_ n2_ n3_ n4_ n5_ n6_ n7_; have hcz66_0 : w65.cell? ⟨gb244, 0, none⟩ = some (.int .i64 ((rd_T46 ((rd_T44 l0 t236).f2) x13_2).f0)) := (blk_cell BK244.out 0).trans rfl; have hcz66_1 : w65.cell? ⟨gb244, 1, none⟩ = some (.slice A243_1 ((rd_T46 ((rd_T44 l0 t236).f2) x13_2).f1).length c243_1) := (blk_cell BK244.out 1).trans rfl; have hfz66_0 := blk_frozen BK244.out 0; have hfz66_1 := blk_frozen BK244.out 1; have hcz67_0 : w65.cell? ⟨gb240, 0, none⟩ = some (.int .i64 a1) := (blk_cell BK240.out 0).trans rfl; have hcz67_1 : w65.cell? ⟨gb240, 1, none⟩ = some (.int .i64 ((rd_T44 l0 t236).f1)) := (blk_cell BK240.out 1).trans rfl; have hcz67_2 : w65.cell? ⟨gb240, 2, none⟩ = some (u241002) := (blk_cell BK240.out 2).trans rfl; have hfz67_0 := blk_frozen BK240.out 0; have hfz67_1 := blk_frozen BK240.out 1; have hfz67_2 := blk_frozen BK240.out 2) | ((with_reducible refine gate_builtin (b := .append) (xs := #[.tmp 85, .tmp 87]) rfl ?_); at_builtin; refine Kd.N_append k46 (w0 := w) w.heap.size rfl (.tmp 85) (.tmp 87) 42 46 (.agg #[(.int .i64 0), (.slice none 0 0)]) 32 rfl Try.underlying42 info46 rfl (by decide) (by omega) u241002 x241002_2 (⟨(rd_T46 ((rd_T44 l0 t236).f2) x13_2).f0, (rd_T46 ((rd_T44 l0 t236).f2) x13_2).f1⟩ : S46) [.int .i64 ((rd_T46 ((rd_T44 l0 t236).f2) x13_2).f0), .slice A243_1 ((rd_T46 ((rd_T44 l0 t236).f2) x13_2).f1).length c243_1] (fun k_ => (P0_ k_ ∨ w.heap.size ≤ k_) ∧ k_ ≠ gb240 ∧ k_ ≠ gb244) (fun k_ => ((fun k_ => (P0_ k_ ∨ w.heap.size ≤ k_) ∧ k_ ≠ gb240 ∧ k_ ≠ gb244)) k_ ∧ some k_ ≠ (u241002 : Value).ownBlock) rfl rfl ?aP (fun _ hk => hk) ?aF ?aO ?aB ?aS ?aL ?_; (case aP => first | exact (k46_mkF _ _ (⟨(rd_T46 ((rd_T44 l0 t236).f2) x13_2).f0, (rd_T46 ((rd_T44 l0 t236).f2) x13_2).f1⟩ : S46) (Kd.V_reads' (Kd.V_mono (ok' := (fun k_ => ((fun k_ => (P0_ k_ ∨ w.heap.size ≤ k_) ∧ k_ ≠ gb240 ∧ k_ ≠ gb244)) k_ ∧ some k_ ≠ (u241002 : Value).ownBlock)) (HL243_1.out) (fun k_ hk => ⟨⟨hk.1, ⟨hk.2.2.1, hk.2.2.2⟩⟩, hk.2.1⟩))).2.1 (Kd.V_F (Kd.V_mono (ok' := (fun k_ => ((fun k_ => (P0_ k_ ∨ w.heap.size ≤ k_) ∧ k_ ≠ gb240 ∧ k_ ≠ gb244)) k_ ∧ some k_ ≠ (u241002 : Value).ownBlock)) (HL243_1.out) (fun k_ hk => ⟨⟨hk.1, ⟨hk.2.2.1, hk.2.2.2⟩⟩, hk.2.1⟩)))) | exact (k46_mkF _ _ (⟨(rd_T46 ((rd_T44 l0 t236).f2) x13_2).f0, (rd_T46 ((rd_T44 l0 t236).f2) x13_2).f1⟩ : S46) (Kd.V_reads' (Kd.V_mono (ok' := (fun k_ => ((fun k_ => (P0_ k_ ∨ w.heap.size ≤ k_) ∧ k_ ≠ gb240 ∧ k_ ≠ gb244)) k_ ∧ some k_ ≠ (u241002 : Value).ownBlock)) (HL243_1.out) (fun k_ hk => ⟨⟨hk.1, ⟨hk.2.2.1, hk.2.2.2⟩⟩, hk.2.1⟩))).2.1 (Kd.V_F (Kd.V_mono (ok' := (fun k_ => ((fun k_ => (P0_ k_ ∨ w.heap.size ≤ k_) ∧ k_ ≠ gb240 ∧ k_ ≠ gb244)) k_ ∧ some k_ ≠ (u241002 : Value).ownBlock)) (Kd.V_drewN (HL243_1.out) _) (fun k_ hk => ⟨⟨hk.1, ⟨hk.2.2.1, hk.2.2.2⟩⟩, hk.2.1⟩))))); (case aB => exact (by repeat (first | (with_reducible first | exact HB.out | apply below_alloc | apply pw_below_drewN | apply below_drew1 | refine below_set ?_ GE240.out | refine below_set ?_ GE244.out) | exact HB.out))); (case aF => exact (fun k_ hk => ⟨(.inr (Nat.le_trans (below_size (by repeat (first | (with_reducible first | exact HB.out | apply below_alloc | apply pw_below_drewN | apply below_drew1 | refine below_set ?_ GE240.out | refine below_set ?_ GE244.out) | exact HB.out))) hk)), Kd.freshB (g := gb240) (o := .cells #[.int .i64 a1, .int .i64 ((rd_T44 l0 t236).f1), u241002] 44 (0, 0)) (by (with_reducible repeat (first | refine blk_drewN ?_ _ | refine blk_drew ?_ | refine blk_alloc ?_ _)); exact BK240.out) k_ hk, Kd.freshB (g := gb244) (o := .cells #[.int .i64 ((rd_T46 ((rd_T44 l0 t236).f2) x13_2).f0), .slice A243_1 ((rd_T46 ((rd_T44 l0 t236).f2) x13_2).f1).length c243_1] 46 (0, 0)) (by (with_reducible repeat (first | refine blk_drewN ?_ _ | refine blk_drew ?_ | refine blk_alloc ?_ _)); exact BK244.out) k_ hk⟩)); (case aO => exact (by (with_reducible repeat (first | apply Kd.N_alloc | apply Kd.N_drewN | apply Kd.N_drew)); exact HO_241002.out)); (case aS => exact (below_size (by repeat (first | (with_reducible first | exact HB.out | apply below_alloc | apply pw_below_drewN | apply below_drew1 | refine below_set ?_ GE240.out | refine below_set ?_ GE244.out) | exact HB.out)))); (case aL => have := LMc61.out; omega); intro v258 w68 ho hb hg hat; rw [← Ny257.out] at ho; have n0_ := Aside0.mk (Kd.V_afterv (ok := (fun k_ => (P0_ k_ ∨ w.heap.size ≤ k_) ∧ k_ ≠ gb240 ∧ k_ ≠ gb244)) (by (with_reducible repeat (first | apply Kd.V_alloc | apply Kd.V_drewN | apply Kd.V_drew)); exact Kd.V_mono HO_0.out (fun _ hk => ⟨⟨hk.1, ⟨hk.2.2.1, hk.2.2.2⟩⟩, hk.2.1⟩)) hg hat); have n1_ := Aside0.mk (blk_grown (g := gb240) (o := .cells #[.int .i64 a1, .int .i64 ((rd_T44 l0 t236).f1), u241002] 44 (0, 0)) (by (with_reducible repeat (first | refine blk_drewN ?_ _ | refine blk_drew ?_ | refine blk_alloc ?_ _)); exact BK240.out) hg (Kd.N_ne HO_241002.out BK240.out (by decide))); have n2_ := Aside0.mk (Kd.V_afterv (ok := (fun k_ => (P0_ k_ ∨ w.heap.size ≤ k_) ∧ k_ ≠ gb240 ∧ k_ ≠ gb244)) (by (with_reducible repeat (first | apply Kd.V_alloc | apply Kd.V_drewN | apply Kd.V_drew)); exact Kd.V_mono HL241_2.out (fun _ hk => ⟨⟨hk.1, ⟨hk.2.2.1, hk.2.2.2⟩⟩, hk.2.1⟩)) hg hat); have n3_ := Aside0.mk (Kd.V_afterv (ok := (fun k_ => (P0_ k_ ∨ w.heap.size ≤ k_) ∧ k_ ≠ gb240 ∧ k_ ≠ gb244)) (by (with_reducible repeat (first | apply Kd.V_alloc | apply Kd.V_drewN | apply Kd.V_drew)); exact Kd.V_mono HL242_2.out (fun _ hk => ⟨⟨hk.1, ⟨hk.2.2.1, hk.2.2.2⟩⟩, hk.2.1⟩)) hg hat); have n4_ := Aside0.mk (Kd.V_afterv (ok := (fun k_ => (P0_ k_ ∨ w.heap.size ≤ k_) ∧ k_ ≠ gb240 ∧ k_ ≠ gb244)) (by (with_reducible repeat (first | apply Kd.V_alloc | apply Kd.V_drewN | apply Kd.V_drew)); exact Kd.V_mono HL243_1.out (fun _ hk => ⟨⟨hk.1, ⟨hk.2.2.1, hk.2.2.2⟩⟩, hk.2.1⟩)) hg hat); have n5_ := Aside0.mk (blk_grown (g := gb244) (o := .cells #[.int .i64 ((rd_T46 ((rd_T44 l0 t236).f2) x13_2).f0), .slice A243_1 ((rd_T46 ((rd_T44 l0 t236).f2) x13_2).f1).length c243_1] 46 (0, 0)) (by (with_reducible repeat (first | refine blk_drewN ?_ _ | refine blk_drew ?_ | refine blk_alloc ?_ _)); exact BK244.out) hg (Kd.N_away HO_241002.out (fun _ hk => hk.2.2))); have n6_ := Aside0.mk (hb); have n7_ := Aside0.mk (ho); clear HO_0; clear BK240; clear HL241_2; clear HL242_2; clear HL243_1; clear BK244; clear HB; clear HO_241002; have HO_0 := n0_; have BK240 := n1_; have HL241_2 := n2_; have HL242_2 := n3_; have HL243_1 := n4_; have BK244 := n5_; have HB := n6_; have HO259 := n7_; clear n0_ n1_ n2_ n3_ n4_ n5_ n6_ n7_; clear ho hb hg hat; obtain ⟨Ao69, co69, eo69⟩ := Kd.N_slice HO259.out; subst eo69; have hcz70_0 : w68.cell? ⟨gb240, 0, none⟩ = some (.int .i64 a1) := (blk_cell BK240.out 0).trans rfl; have hcz70_1 : w68.cell? ⟨gb240, 1, none⟩ = some (.int .i64 ((rd_T44 l0 t236).f1)) := (blk_cell BK240.out 1).trans rfl; have hcz70_2 : w68.cell? ⟨gb240, 2, none⟩ = some (u241002) := (blk_cell BK240.out 2).trans rfl; have hfz70_0 := blk_frozen BK240.out 0; have hfz70_1 := blk_frozen BK240.out 1; have hfz70_2 := blk_frozen BK240.out 2))
               go_roundg k2
               case measure => have := HJ5.out; have := HK2.out; omega
               case rel => exact ⟨(x12_2), (wrap64 (x13_2 + 1)), (y257), (.slice Ao69 y257.length co69), (by first | rfl | (simp; done) | (simp [*]; done)), (by first | rfl | (simp; done) | (simp [*]; done)), H', ⟨by have := HJ5.out; have := HK2.out; omega⟩, ⟨by (with_reducible repeat (first | apply Kd.V_alloc | apply Kd.V_drewN | apply Kd.V_drew)); exact Kd.V_mono (Kd.V_far (p := ⟨gb240, 2, none⟩) (Kd.V_mono HO_0.out (fun k_ hk => (⟨hk, hk.1.2.1⟩ : _ ∧ k_ ≠ gb240))) (fun _ hk => hk.2) (.slice Ao69 y257.length co69)) (fun _ hk => ⟨hk.1.1.1, ⟨hk.1.2, hk.1.1.2.1⟩⟩)⟩, ⟨by (with_reducible repeat (first | apply Kd.N_alloc | apply Kd.N_drewN | apply Kd.N_drew)); exact Kd.N_mono (Kd.N_far (p := ⟨gb240, 2, none⟩) (Kd.N_mono HO259.out (fun k_ hk => (⟨hk, hk.2.1⟩ : _ ∧ k_ ≠ gb240))) (fun _ hk => hk.2) (.slice Ao69 y257.length co69)) (fun _ hk => ⟨hk.1.1, hk.1.2.1⟩)⟩, ⟨by (with_reducible repeat (first | refine blk_drewN ?_ _ | refine blk_drew ?_ | refine blk_alloc ?_ _)); refine blk_put (cs := #[.int .i64 a1, .int .i64 ((rd_T44 l0 t236).f1), u241002]) ?_ 2 _ rfl; (with_reducible repeat (first | refine blk_drewN ?_ _ | refine blk_drew ?_ | refine blk_alloc ?_ _)); exact BK240.out⟩, ⟨by repeat (first | (with_reducible first | exact HB.out | apply below_alloc | apply pw_below_drewN | apply below_drew1 | refine below_set ?_ GE240.out | refine below_set ?_ GE244.out) | exact HB.out)⟩⟩
              ·rw [if_neg c61] at H
               exact absurd H (by simp)
           ·rw [if_neg c25] at H
            exact absurd H (by simp)
          ·rw [if_neg c24] at H
           have c24b0 : decide (x13_2 < (((rd_T44 l0 t236).f2).length : Int)) = false := decide_eq_false c24
           clear c24
           have HC71 := Aside0.mk H
           clear H
           have p241 : 0 ≤ (t236 : Int) := of_decide_eq_true (by first | (with_reducible assumption) | assumption)
           have q241 : t236 < (l0.length : Int) := of_decide_eq_true (by first | (with_reducible assumption) | assumption)
           obtain ⟨ad241, A241_2, c241_2, e241, hx241_0, hx241_1, hx241_2, hl241_2, hi241_2⟩ := at_T44 (Kd.V_reads' HO_0.out).2.2 t236 p241 q241
           obtain rfl : ad239 = ad241 := (by injection e241)
           obtain ⟨ce241, hce241, hMe241, hcc241⟩ := Kd.V_get HO_0.out z44 t236 p241 (by first | exact q241 | exact of_decide_eq_true (by first | (with_reducible assumption) | assumption) | (have e_ := (Kd.V_reads' HO_0.out).1; omega))
           obtain ⟨ua241_2, uc241_2, rfl, ul241_2, ge241_2⟩ := k44_openF hMe241
           have hv241_2 := hcc241 2 _ rfl
           rw [add_field _ _ 2 (by omega)] at hv241_2
           replace hv241_2 := Option.some.inj (hv241_2.symm.trans hx241_2)
           injection hv241_2 with hva_ hvn_ hvc_
           rw [hva_] at ge241_2
           rw [hvc_] at ul241_2
           have HL241_2 := Aside0.mk (show Kd.V k46 46 _ w.heap.size _ _ ((rd_T44 l0 t236).f2) from Kd.V_mk ul241_2 ge241_2)
           clear hva_ hvn_ hvc_ ge241_2 ul241_2
           clear hcc241 hce241
           have HR241_2 := Aside0.mk hi241_2
           have HC241_2 := Aside0.mk hl241_2
           clear hi241_2 hl241_2
           replace p241 := eq_true p241
           replace q241 := eq_true q241
           go_upto_if 91 with (fail)
           go_cut [] (fun wc => ∃ (kq : Nat) (x241002_70 : List (S46)) (u241002 : Value), Aside0 (musterref09_Done.j2 kq l0 l3 a1 ((rd_T44 l0 t236).f1) x241002_70 = some (r1, r2)) ∧ Aside0 (kq ≤ k2) ∧ Aside0 (Kd.V k44 44 wc w.heap.size (fun k_ => (P0_ k_ ∨ w.heap.size ≤ k_) ∧ some k_ ≠ (u241002 : Value).ownBlock ∧ k_ ≠ gb240) (.slice (some ad239) l0.length c0) l0) ∧ Aside0 (Kd.N k46 46 wc w.heap.size (fun k_ => (P0_ k_ ∨ w.heap.size ≤ k_) ∧ k_ ≠ gb240) u241002 x241002_70) ∧ Aside0 (wc.heap[gb240]? = some (.cells #[.int .i64 a1, .int .i64 ((rd_T44 l0 t236).f1), u241002] 44 (0, 0))) ∧ Aside0 (Below w.heap.size w wc))
           case first =>
            have H := HC71.out
            clear HC71
            by_cases c72 : x12_2 = true
            ·subst c72
             have H1 : (musterref09_Done.j2 k2 l0 l3 a1 ((rd_T44 l0 t236).f1) x241002_2) = some (r1, r2) := by rw [if_pos rfl] at H; exact H
             clear H
             have H := H1
             clear H1
             have H' := Aside0.mk H
             clear H
             go_wp2
             go_meet
             case rel => exact ⟨_, (x241002_2), (u241002), H', ⟨by have := HJ5.out; have := HK2.out; first | omega | exact Nat.le_refl _⟩, ⟨by (with_reducible repeat (first | apply Kd.V_alloc | apply Kd.V_drewN | apply Kd.V_drew)); exact HO_0.out⟩, ⟨by (with_reducible repeat (first | apply Kd.N_alloc | apply Kd.N_drewN | apply Kd.N_drew)); exact HO_241002.out⟩, ⟨by (with_reducible repeat (first | refine blk_drewN ?_ _ | refine blk_drew ?_ | refine blk_alloc ?_ _)); exact BK240.out⟩, ⟨by repeat (first | (with_reducible first | exact HB.out | apply below_alloc | apply pw_below_drewN | apply below_drew1 | refine below_set ?_ GE240.out) | exact HB.out)⟩⟩
            ·replace c72 := Bool.eq_false_iff.mpr c72
             subst c72
             have H1 : ((musterlow_CopyBytes.f l3).bind fun t260 => (if x241002_2.length < 4398046511104 then (musterref09_Done.j2 k2 l0 l3 a1 ((rd_T44 l0 t236).f1) (x241002_2 ++ [(⟨a2, t260⟩ : S46)])) else (none))) = some (r1, r2) := by rw [if_neg (show ¬ (false = true) by decide)] at H; exact H
             clear H
             have H := H1
             clear H1
             replace H := Option.bind_eq_some_iff.mp H
             obtain ⟨t260, A730, H⟩ := H
             replace H : (if x241002_2.length < 4398046511104 then (musterref09_Done.j2 k2 l0 l3 a1 ((rd_T44 l0 t236).f1) (x241002_2 ++ [(⟨a2, t260⟩ : S46)])) else (none)) = some (r1, r2) := H
             have A73 := Aside0.mk A730
             clear A730
             by_cases c74 : x241002_2.length < 4398046511104
             ·rw [if_pos c74] at H
              have LMc74 := Aside0.mk c74
              clear c74
              obtain ⟨y263, hy263⟩ : ∃ y_ : List (S46), y_ = (x241002_2 ++ [(⟨a2, t260⟩ : S46)]) := ⟨_, rfl⟩
              replace H : (musterref09_Done.j2 k2 l0 l3 a1 ((rd_T44 l0 t236).f1) y263) = some (r1, r2) := by first | (rw [hy263]; with_reducible exact H) | (have H2_ := (Option.bind_some _ _).symm.trans H; rw [hy263]; with_reducible exact H2_) | (have H2_ := (Option.bind_some _ _).symm.trans H; with_reducible exact H2_) | with_reducible exact H | (rw [hy263]; exact H) | exact H
              have Ny263 := Aside0.mk hy263
              clear hy263
              have H' := Aside0.mk H
              clear H
              try go_wp2
              have n0_ := Aside0.mk (Kd.V_drew HO_0.out)
              have n1_ := Aside0.mk (Kd.N_drew HO_241002.out)
              have n2_ := Aside0.mk (Kd.V_drew HL241_2.out)
              have n3_ := Aside0.mk (blk_drew BK240.out)
              have n4_ := Aside0.mk (Kd.C_drew HR241_2.out)
              have n5_ := Aside0.mk (below_drew1 HB.out)
              clear HO_0
              clear HO_241002
              clear HL241_2
              clear BK240
              clear HR241_2
              clear HB
              have HO_0 := n0_
              have HO_241002 := n1_
              have HL241_2 := n2_
              have BK240 := n3_
              have HR241_2 := n4_
              have HB := n5_
              clear n0_ n1_ n2_ n3_ n4_ n5_
              refine start_ (n := 10) (S := fun w' => w'.cell? ⟨gb240, 0, none⟩ = some (.int .i64 a1) ∧ w'.cell? ⟨gb240, 1, none⟩ = some (.int .i64 ((rd_T44 l0 t236).f1)) ∧ w'.cell? ⟨gb240, 2, none⟩ = some (u241002)) (ds := [9]) kPr1510 (by kernel_rfl) rfl rfl ⟨(blk_cell BK240.out 0).trans rfl, (blk_cell BK240.out 1).trans rfl, (blk_cell BK240.out 2).trans rfl⟩ (fun hHeld => ?_); refine with_tabW musterref09_Done.tab17 musterref09_Done.bits17 (fun HT_ HW_ => ?_)
              generalize wr.drew = w75 at HO_0 HO_241002 HL241_2 BK240 HR241_2 HB hHeld ⊢
              refine pure_ (i := 0) (N := some 92) (v := ?_) (a' := ?_) kPr159 rfl rfl (any_of HT_.out (by kernel_rfl)) (fun _ _ _ h => h) (Or.inl ⟨by rfl, ?_⟩) ?_ ?_
              rotate_left
              ·intro w'
               go_simp
               with_reducible rfl
              rotate_left
              ·simp only [Act.put, List.setIfInBounds_toArray, List.set_cons_zero, List.set_cons_succ, i64_w, i32_w]
               rfl
              refine pure_ (i := 2) (N := some 94) (v := ?_) (a' := ?_) kPr158 rfl rfl (any_of HT_.out (by kernel_rfl)) (fun _ _ _ h => h) (Or.inl ⟨by rfl, ?_⟩) ?_ ?_
              rotate_left
              ·intro w'
               go_simp
               with_reducible rfl
              rotate_left
              ·simp only [Act.put, List.setIfInBounds_toArray, List.set_cons_zero, List.set_cons_succ, i64_w, i32_w]
               rfl
              refine pure_ (i := 3) (N := some 95) (v := ?_) (a' := ?_) kPr157 rfl rfl (any_of HT_.out (by kernel_rfl)) (fun _ _ _ h => h) (Or.inl ⟨by rfl, ?_⟩) ?_ ?_
              rotate_left
              ·intro w'
               go_simp
               with_reducible rfl
              rotate_left
              ·simp only [Act.put, List.setIfInBounds_toArray, List.set_cons_zero, List.set_cons_succ, i64_w, i32_w]
               rfl
              refine take_ (i := 1) (N := some 93) (v := ?_) (a' := ?_) kPr156 rfl rfl (take_ofW HT_.out HW_.out (by kernel_rfl)) (fun _ _ _ h => h) (Or.inl ⟨by rfl, ?_⟩) hHeld ?_ ?_
              rotate_left
              ·rintro w' ⟨s0, s1, s2⟩
               go_simp
               with_reducible rfl
              rotate_left
              ·simp only [Act.put, List.setIfInBounds_toArray, List.set_cons_zero, List.set_cons_succ, i64_w, i32_w]
               rfl
              refine one_ (i := 4) (N := some 96) kPr155 rfl rfl (one_of HT_.out (by kernel_rfl)) (by decide) (fun K hK => ?_)
              refine goes_ Try.func34 (by kernel_rfl) rfl #[.slice A3 l3.length c3] (by rfl) rfl rfl (by (try simp only [List.map_toArray, List.map_cons, List.map_nil]); first | done | rfl | (simp only [List.length_drop, List.length_take]; rfl)) ?_
              with_reducible refine (musterlow_CopyBytes.calls _ _ l3 t260 _ ?side1 ?side2 A73.out).mono ?_
              (case side1 => repeat (first | exact (Kd.C_below HR3.out HB.out) | (with_reducible refine Kd.C_alloc ?_ _) | (with_reducible refine Kd.C_drewN ?_ _) | (with_reducible refine Kd.C_drew ?_)))
              (case side2 => exact HC3.out)
              rintro e w76 ⟨v261, rfl, ho0, hb⟩
              refine ⟨_, rfl, ?_⟩
              have n0_ := Aside0.mk (Kd.V_elder' (by (with_reducible repeat (first | apply Kd.V_alloc | apply Kd.V_drewN | apply Kd.V_drew)); exact HO_0.out) (Kd.R_base ho0) hb)
              have n1_ := Aside0.mk (Kd.N_elder' (by (with_reducible repeat (first | apply Kd.N_alloc | apply Kd.N_drewN | apply Kd.N_drew)); exact HO_241002.out) (Kd.R_base ho0) hb)
              have n2_ := Aside0.mk (Kd.V_elder' (by (with_reducible repeat (first | apply Kd.V_alloc | apply Kd.V_drewN | apply Kd.V_drew)); exact HL241_2.out) (Kd.R_base ho0) hb)
              have n3_ := Aside0.mk (Kd.R_lower (Kd.R_newM (M := fun k_ => (w.heap.size ≤ k_)) ho0 (below_size (by repeat (first | (with_reducible first | exact HB.out | apply below_alloc | apply pw_below_drewN | apply below_drew1 | refine below_set ?_ GE240.out) | exact HB.out))) (fun k_ h_ => h_)) (below_size (by repeat (first | (with_reducible first | exact HB.out | apply below_alloc | apply pw_below_drewN | apply below_drew1 | refine below_set ?_ GE240.out) | exact HB.out))))
              have n4_ := Aside0.mk (blk_below (g := gb240) (o := .cells #[.int .i64 a1, .int .i64 ((rd_T44 l0 t236).f1), u241002] 44 (0, 0)) (by (with_reducible repeat (first | refine blk_drewN ?_ _ | refine blk_drew ?_ | refine blk_alloc ?_ _)); exact BK240.out) hb)
              have n5_ := Aside0.mk (Kd.C_below (by repeat (first | (with_reducible exact HR241_2.out) | (with_reducible refine Kd.C_alloc ?_ _) | (with_reducible refine Kd.C_drewN ?_ _) | (with_reducible refine Kd.C_drew ?_) | exact HR241_2.out)) hb)
              have n6_ := Aside0.mk (below_step (by repeat (first | (with_reducible first | exact HB.out | apply below_alloc | apply pw_below_drewN | apply below_drew1 | refine below_set ?_ GE240.out) | exact HB.out)) hb)
              clear HO_0
              clear HO_241002
              clear HL241_2
              clear BK240
              clear HR241_2
              clear HB
              have HO_0 := n0_
              have HO_241002 := n1_
              have HL241_2 := n2_
              have HO262 := n3_
              have BK240 := n4_
              have HR241_2 := n5_
              have HB := n6_
              clear n0_ n1_ n2_ n3_ n4_ n5_ n6_
              (try clear hb)
              (try clear hb2)
              (try clear hk)
              (try clear hi)
              (try clear ho0)
              obtain ⟨Ao77, co77, eo77⟩ := Kd.R_slice HO262.out
              (first | subst eo77 | (injection eo77 with f1_ f2_ f3_; have f4_ := f1_.symm; have f5_ := f3_.symm; clear f1_ f2_ f3_; subst f4_; subst f5_))
              refine hK.out _ _ ⟨(blk_cell BK240.out 0).trans rfl, (blk_cell BK240.out 1).trans rfl, (blk_cell BK240.out 2).trans rfl⟩ (fun hHeld => ?_)
              clear hK K
              refine norm_ (a' := ?_) ?_ ?_
              rotate_left
              ·show Act.put _ (some 96) _ = _
               simp only [Act.put, List.setIfInBounds_toArray, List.set_cons_zero, List.set_cons_succ, i64_w, i32_w]
               rfl
              refine pure_ (i := 5) (N := some 97) (v := ?_) (a' := ?_) kPr154 rfl rfl (any_of HT_.out (by kernel_rfl)) (fun _ _ _ h => h) (Or.inl ⟨by rfl, ?_⟩) ?_ ?_
              rotate_left
              ·intro w'
               go_simp
               with_reducible rfl
              rotate_left
              ·simp only [Act.put, List.setIfInBounds_toArray, List.set_cons_zero, List.set_cons_succ, i64_w, i32_w]
               rfl
              refine one_ (i := 6) (N := some 98) kPr153 rfl rfl (one_of HT_.out (by kernel_rfl)) (by decide) (fun K hK => ?_)
              refine value_ (w1 := ?_) (v := ?_) (by rfl) rfl ?_ ?_
              rotate_left 2
              ·go_simp
               constructor
               ·rfl
               ·rfl
              refine hK.out _ _ ⟨(blk_cell (blk_alloc BK240.out _) 0).trans rfl, (blk_cell (blk_alloc BK240.out _) 1).trans rfl, (blk_cell (blk_alloc BK240.out _) 2).trans rfl⟩ (fun hHeld => ?_)
              clear hK K
              refine norm_ (a' := ?_) ?_ ?_
              rotate_left
              ·show Act.put _ (some 98) _ = _
               simp only [Act.put, List.setIfInBounds_toArray, List.set_cons_zero, List.set_cons_succ, i64_w, i32_w]
               rfl
              refine one_ (i := 7) (N := some 99) kPr152 rfl rfl (one_of HT_.out (by kernel_rfl)) (by decide) (fun K hK => ?_)
              refine Kd.N_append_step k46 (w0 := w) w.heap.size (by rfl) (.tmp 93) (.tmp 98) 42 46 (.agg #[(.int .i64 0), (.slice none 0 0)]) 32 rfl Try.underlying42 info46 rfl (by decide) (by omega) u241002 x241002_2 (⟨a2, t260⟩ : S46) [.int .i64 a2, .slice Ao77 t260.length co77] (fun k_ => (P0_ k_ ∨ w.heap.size ≤ k_) ∧ k_ ≠ gb240) (fun k_ => ((fun k_ => (P0_ k_ ∨ w.heap.size ≤ k_) ∧ k_ ≠ gb240)) k_ ∧ some k_ ≠ (u241002 : Value).ownBlock) rfl rfl ?aP (fun _ hk => hk) ?aF ?aO ?aB ?aS ?aL ?_
              (case aP => first | exact (k46_mkF _ _ (⟨a2, t260⟩ : S46) (Kd.R_reads' (Kd.R_mono (ok' := (fun k_ => ((fun k_ => (P0_ k_ ∨ w.heap.size ≤ k_) ∧ k_ ≠ gb240)) k_ ∧ some k_ ≠ (u241002 : Value).ownBlock)) (Kd.R_types (Kd.R_apart' (HO262.out) (Kd.N_typed HO_241002.out) (by decide)) BK240.out (by decide)) (fun k_ hk => ⟨⟨(.inr (hk.1.1.1)), hk.2⟩, hk.1.2⟩))).2.1 (Kd.R_F (Kd.R_mono (ok' := (fun k_ => ((fun k_ => (P0_ k_ ∨ w.heap.size ≤ k_) ∧ k_ ≠ gb240)) k_ ∧ some k_ ≠ (u241002 : Value).ownBlock)) (Kd.R_types (Kd.R_apart' (HO262.out) (Kd.N_typed HO_241002.out) (by decide)) BK240.out (by decide)) (fun k_ hk => ⟨⟨(.inr (hk.1.1.1)), hk.2⟩, hk.1.2⟩)))) | exact (k46_mkF _ _ (⟨a2, t260⟩ : S46) (Kd.R_reads' (Kd.R_mono (ok' := (fun k_ => ((fun k_ => (P0_ k_ ∨ w.heap.size ≤ k_) ∧ k_ ≠ gb240)) k_ ∧ some k_ ≠ (u241002 : Value).ownBlock)) (Kd.R_types (Kd.R_apart' (HO262.out) (Kd.N_typed HO_241002.out) (by decide)) BK240.out (by decide)) (fun k_ hk => ⟨⟨(.inr (hk.1.1.1)), hk.2⟩, hk.1.2⟩))).2.1 (Kd.R_F (Kd.R_mono (ok' := (fun k_ => ((fun k_ => (P0_ k_ ∨ w.heap.size ≤ k_) ∧ k_ ≠ gb240)) k_ ∧ some k_ ≠ (u241002 : Value).ownBlock)) (Kd.R_types (Kd.R_apart' (HO262.out) (Kd.N_typed HO_241002.out) (by decide)) BK240.out (by decide)) (fun k_ hk => ⟨⟨(.inr (hk.1.1.1)), hk.2⟩, hk.1.2⟩)))))
              (case aB => exact (by repeat (first | (with_reducible first | exact HB.out | apply below_alloc | apply pw_below_drewN | apply below_drew1 | refine below_set ?_ GE240.out) | exact HB.out)))
              (case aF => exact (fun k_ hk => ⟨(.inr (Nat.le_trans (below_size (by repeat (first | (with_reducible first | exact HB.out | apply below_alloc | apply pw_below_drewN | apply below_drew1 | refine below_set ?_ GE240.out) | exact HB.out))) hk)), Kd.freshB (g := gb240) (o := .cells #[.int .i64 a1, .int .i64 ((rd_T44 l0 t236).f1), u241002] 44 (0, 0)) (by (with_reducible repeat (first | refine blk_drewN ?_ _ | refine blk_drew ?_ | refine blk_alloc ?_ _)); exact BK240.out) k_ hk⟩))
              (case aO => exact (by (with_reducible repeat (first | apply Kd.N_alloc | apply Kd.N_drewN | apply Kd.N_drew)); exact Kd.N_mono HO_241002.out (fun _ hk => ⟨hk.1.1, hk.1.2⟩)))
              (case aS => exact (below_size (by repeat (first | (with_reducible first | exact HB.out | apply below_alloc | apply pw_below_drewN | apply below_drew1 | refine below_set ?_ GE240.out) | exact HB.out))))
              (case aL => have := LMc74.out; omega)
              intro v264 w78 ho hb hg hat
              rw [← Ny263.out] at ho
              have n0_ := Aside0.mk (Kd.V_afterv (ok := (fun k_ => (P0_ k_ ∨ w.heap.size ≤ k_) ∧ some k_ ≠ (.slice Ao77 t260.length co77 : Value).ownBlock ∧ k_ ≠ gb240)) (by (with_reducible repeat (first | apply Kd.V_alloc | apply Kd.V_drewN | apply Kd.V_drew)); exact Kd.V_mono HO_0.out (fun _ hk => ⟨⟨hk.1.1, ⟨hk.2, hk.1.2.2⟩⟩, hk.1.2.1⟩)) hg hat)
              have n1_ := Aside0.mk (blk_grown (g := gb240) (o := .cells #[.int .i64 a1, .int .i64 ((rd_T44 l0 t236).f1), u241002] 44 (0, 0)) (by (with_reducible repeat (first | refine blk_drewN ?_ _ | refine blk_drew ?_ | refine blk_alloc ?_ _)); exact BK240.out) hg (Kd.N_ne HO_241002.out BK240.out (by decide)))
              have n2_ := Aside0.mk (Kd.V_afterv (ok := (fun k_ => (P0_ k_ ∨ w.heap.size ≤ k_) ∧ some k_ ≠ (.slice Ao77 t260.length co77 : Value).ownBlock ∧ k_ ≠ gb240)) (by (with_reducible repeat (first | apply Kd.V_alloc | apply Kd.V_drewN | apply Kd.V_drew)); exact Kd.V_mono HL241_2.out (fun _ hk => ⟨⟨hk.1.1, ⟨hk.2, hk.1.2.2⟩⟩, hk.1.2.1⟩)) hg hat)
              have n3_ := Aside0.mk (hb)
              have n4_ := Aside0.mk (ho)
              clear HO_0
              clear BK240
              clear HL241_2
              clear HB
              clear HO_241002
              clear HO262
              have HO_0 := n0_
              have BK240 := n1_
              have HL241_2 := n2_
              have HB := n3_
              have HO265 := n4_
              clear n0_ n1_ n2_ n3_ n4_
              clear ho hb hg hat
              obtain ⟨Ao79, co79, eo79⟩ := Kd.N_slice HO265.out
              (first | subst eo79 | (injection eo79 with f1_ f2_ f3_; have f4_ := f1_.symm; have f5_ := f3_.symm; clear f1_ f2_ f3_; subst f4_; subst f5_))
              refine hK.out _ _ ⟨(blk_cell BK240.out 0).trans rfl, (blk_cell BK240.out 1).trans rfl, (blk_cell BK240.out 2).trans rfl⟩ (fun hHeld => ?_)
              clear hK K
              refine norm_ (a' := ?_) ?_ ?_
              rotate_left
              ·show Act.put _ (some 99) _ = _
               simp only [Act.put, List.setIfInBounds_toArray, List.set_cons_zero, List.set_cons_succ, i64_w, i32_w]
               rfl
              refine pure_ (i := 8) (N := some 100) (v := ?_) (a' := ?_) kPr151 rfl rfl (any_of HT_.out (by kernel_rfl)) (fun _ _ _ h => h) (Or.inl ⟨by rfl, ?_⟩) ?_ ?_
              rotate_left
              ·intro w'
               go_simp
               with_reducible rfl
              rotate_left
              ·simp only [Act.put, List.setIfInBounds_toArray, List.set_cons_zero, List.set_cons_succ, i64_w, i32_w]
               rfl
              refine last_ (i := 9) (N := none) kPr150 rfl rfl (one_of HT_.out (by kernel_rfl)) (by decide) (fun K hK => ?_)
              have hs80 : w78.cell? ⟨gb240, 2, none⟩ = some (u241002) := (blk_cell BK240.out 2).trans rfl
              have hfs80 := blk_frozen BK240.out 2
              refine skip_ (w1 := ?_) (by rfl) rfl ?_ ?_
              rotate_left
              ·go_simp
               rfl
              refine hK.out _ _ ?_
              clear hK K
              refine done_ (done_of HT_.out (by kernel_rfl)) ?_
              try go_wp2
              go_meet
              case rel => exact ⟨_, (y263), (.slice Ao79 y263.length co79), H', ⟨by have := HJ5.out; have := HK2.out; first | omega | exact Nat.le_refl _⟩, ⟨by (with_reducible repeat (first | apply Kd.V_alloc | apply Kd.V_drewN | apply Kd.V_drew)); exact Kd.V_mono (Kd.V_far (p := ⟨gb240, 2, none⟩) (Kd.V_mono HO_0.out (fun k_ hk => (⟨hk, hk.1.2.2⟩ : _ ∧ k_ ≠ gb240))) (fun _ hk => hk.2) (.slice Ao79 y263.length co79)) (fun _ hk => ⟨hk.1.1.1, ⟨hk.1.2, hk.1.1.2.2⟩⟩)⟩, ⟨by (with_reducible repeat (first | apply Kd.N_alloc | apply Kd.N_drewN | apply Kd.N_drew)); exact Kd.N_mono (Kd.N_far (p := ⟨gb240, 2, none⟩) (Kd.N_mono HO265.out (fun k_ hk => (⟨hk, hk.2⟩ : _ ∧ k_ ≠ gb240))) (fun _ hk => hk.2) (.slice Ao79 y263.length co79)) (fun _ hk => ⟨hk.1.1, hk.1.2⟩)⟩, ⟨by (with_reducible repeat (first | refine blk_drewN ?_ _ | refine blk_drew ?_ | refine blk_alloc ?_ _)); refine blk_put (cs := #[.int .i64 a1, .int .i64 ((rd_T44 l0 t236).f1), u241002]) ?_ 2 _ rfl; (with_reducible repeat (first | refine blk_drewN ?_ _ | refine blk_drew ?_ | refine blk_alloc ?_ _)); exact BK240.out⟩, ⟨by repeat (first | (with_reducible first | exact HB.out | apply below_alloc | apply pw_below_drewN | apply below_drew1 | refine below_set ?_ GE240.out) | exact HB.out)⟩⟩
             ·rw [if_neg c74] at H
              exact absurd H (by simp)
           case rest =>
            clear HC71
            try clear c2
            try clear p2
            try clear q2
            try clear hx2
            try clear c3
            try clear c4
            try clear c6
            try clear p6
            try clear c7
            try clear c24
            try clear c24b0
            try clear p24
            try clear q24
            try clear hx24
            try clear c25
            try clear c30
            try clear c30b0
            try clear c34
            try clear c43
            try clear c44
            try clear c46
            try clear c61
            try clear c63
            try clear p64
            try clear c72
            try clear c74
            try clear hcz47_0
            try clear hcz47_1
            try clear hcz56_0
            try clear hcz56_1
            try clear hcz56_2
            try clear hcz57_0
            try clear hcz57_1
            try clear hcz60_0
            try clear hcz60_1
            try clear hcz60_2
            try clear hcz64_0
            try clear hcz64_1
            try clear hcz66_0
            try clear hcz66_1
            try clear hcz67_0
            try clear hcz67_1
            try clear hcz67_2
            try clear hcz70_0
            try clear hcz70_1
            try clear hcz70_2
            try clear hfz47_0
            try clear hfz47_1
            try clear hfz56_0
            try clear hfz56_1
            try clear hfz56_2
            try clear hfz57_0
            try clear hfz57_1
            try clear hfz60_0
            try clear hfz60_1
            try clear hfz60_2
            try clear hfz64_0
            try clear hfz64_1
            try clear hfz66_0
            try clear hfz66_1
            try clear hfz67_0
            try clear hfz67_1
            try clear hfz67_2
            try clear hfz70_0
            try clear hfz70_1
            try clear hfz70_2
            try clear hx241_0
            try clear hx241_1
            try clear hx241_2
            try clear hx242_0
            try clear hx242_1
            try clear hx242_2
            try clear hx243_0
            try clear hx243_1
            try clear p241
            try clear p242
            try clear p243
            try clear q241
            try clear q242
            try clear q243
            obtain ⟨kq, x241002_70, u241002, HA, HJ70, HO_0, HO_241002, BK240, HB⟩ := hcut
            cases kq with
            | zero => exact absurd HA.out (by simp [musterref09_Done.j2])
            | succ kj70 =>
             have H := HA.out
             clear HA
             simp only [musterref09_Done.j2] at H
             by_cases c81 : (l3.length : Int) > 65536
             ·rw [if_pos c81] at H
              have c81b0 : decide (65536 < (l3.length : Int)) = true := decide_eq_true c81
              have c81b1 : decide (65536 < l3.length) = true := decide_eq_true (by omega)
              clear c81
              simp only [Option.some.injEq, Prod.mk.injEq] at H
              obtain ⟨rfl, rfl⟩ := H
              go_wp2
              go_ret2
              exact ⟨_, by first | rfl | (simp [errW_none, errW_some] <;> rfl) | (simp [*, errW_none, errW_some] <;> rfl), by first | exact Kd.R_nil _ _ _ _ _ | exact Kd.N_nil _ _ _ _ _ | exact Kd.V_nil _ _ _ _ _ | exact Kd.Q_nil _ _ _ _ _ | exact Kd.S_nil _ _ _ _ _, by repeat (first | (with_reducible first | exact HB.out | apply below_alloc | apply pw_below_drewN | apply below_drew1 | refine below_set ?_ GE240.out) | exact HB.out)⟩
             ·rw [if_neg c81] at H
              have c81b0 : decide (65536 < (l3.length : Int)) = false := decide_eq_false c81
              have c81b1 : decide (65536 < l3.length) = false := decide_eq_false (by omega)
              clear c81
              by_cases c82 : (x241002_70.length : Int) > 8
              ·rw [if_pos c82] at H
               have c82b0 : decide (8 < (x241002_70.length : Int)) = true := decide_eq_true c82
               have c82b1 : decide (8 < x241002_70.length) = true := decide_eq_true (by omega)
               clear c82
               simp only [Option.some.injEq, Prod.mk.injEq] at H
               obtain ⟨rfl, rfl⟩ := H
               have hcz83_0 : wc.cell? ⟨gb240, 0, none⟩ = some (.int .i64 a1) := (blk_cell BK240.out 0).trans rfl
               have hcz83_1 : wc.cell? ⟨gb240, 1, none⟩ = some (.int .i64 ((rd_T44 l0 t236).f1)) := (blk_cell BK240.out 1).trans rfl
               have hcz83_2 : wc.cell? ⟨gb240, 2, none⟩ = some (u241002) := (blk_cell BK240.out 2).trans rfl
               have hfz83_0 := blk_frozen BK240.out 0
               have hfz83_1 := blk_frozen BK240.out 1
               have hfz83_2 := blk_frozen BK240.out 2
               obtain ⟨Ao84, co84, eo84⟩ := Kd.N_slice HO_241002.out
               subst eo84
               go_wp2
               go_ret2
               exact ⟨_, by first | rfl | (simp [errW_none, errW_some] <;> rfl) | (simp [*, errW_none, errW_some] <;> rfl), by first | exact Kd.R_nil _ _ _ _ _ | exact Kd.N_nil _ _ _ _ _ | exact Kd.V_nil _ _ _ _ _ | exact Kd.Q_nil _ _ _ _ _ | exact Kd.S_nil _ _ _ _ _, by repeat (first | (with_reducible first | exact HB.out | apply below_alloc | apply pw_below_drewN | apply below_drew1 | refine below_set ?_ GE240.out) | exact HB.out)⟩
              ·rw [if_neg c82] at H
               have c82b0 : decide (8 < (x241002_70.length : Int)) = false := decide_eq_false c82
               have c82b1 : decide (8 < x241002_70.length) = false := decide_eq_false (by omega)
               clear c82
               replace H := Option.bind_eq_some_iff.mp H
               obtain ⟨t266, A850, H⟩ := H
               replace H : (some (t266, 0)) = some (r1, r2) := H
               have A85 := Aside0.mk A850
               clear A850
               simp only [Option.some.injEq, Prod.mk.injEq] at H
               obtain ⟨rfl, rfl⟩ := H
               have hcz86_0 : wc.cell? ⟨gb240, 0, none⟩ = some (.int .i64 a1) := (blk_cell BK240.out 0).trans rfl
               have hcz86_1 : wc.cell? ⟨gb240, 1, none⟩ = some (.int .i64 ((rd_T44 l0 t236).f1)) := (blk_cell BK240.out 1).trans rfl
               have hcz86_2 : wc.cell? ⟨gb240, 2, none⟩ = some (u241002) := (blk_cell BK240.out 2).trans rfl
               have hfz86_0 := blk_frozen BK240.out 0
               have hfz86_1 := blk_frozen BK240.out 1
               have hfz86_2 := blk_frozen BK240.out 2
               obtain ⟨Ao87, co87, eo87⟩ := Kd.N_slice HO_241002.out
               subst eo87
               go_wp2_with (first | ((with_reducible refine gate_callee (f := 45) rfl ?_); refine goesL_ (some 110) rfl rfl Try.func45 (by kernel_rfl) rfl #[.slice (some ad239) l0.length c0, .agg #[.int .i64 a1, .int .i64 ((rd_T44 l0 t236).f1), .slice Ao87 x241002_70.length co87]] rfl (by (try simp only [List.map_toArray, List.map_cons, List.map_nil]); first | done | rfl | (simp only [List.length_drop, List.length_take]; rfl)) ?_; (with_reducible refine (musterref09_with.calls kj70 (fun k_ => ((P0_ k_ ∨ w.heap.size ≤ k_) ∧ (some k_ ≠ (.slice Ao87 x241002_70.length co87 : Value).ownBlock ∧ k_ ≠ gb240))) _ _ l0 a1 ((rd_T44 l0 t236).f1) (fun k_ => ((P0_ k_ ∨ w.heap.size ≤ k_) ∧ k_ ≠ gb240)) _ _ x241002_70 t266 _ ?side1 ?side2 A85.out).mono ?_); (case side1 => exact HO_0.out); (case side2 => exact Kd.N_V (HO_241002.out)); rintro e w88 ⟨v267, rfl, ho0, hb⟩; refine ⟨_, rfl, ?_⟩; have n0_ := Aside0.mk (Kd.V_elder' (by (with_reducible repeat (first | apply Kd.V_alloc | apply Kd.V_drewN | apply Kd.V_drew)); exact HO_0.out) (Kd.N_base ho0) hb); have n1_ := Aside0.mk (Kd.N_elder' (by (with_reducible repeat (first | apply Kd.N_alloc | apply Kd.N_drewN | apply Kd.N_drew)); exact HO_241002.out) (Kd.N_base ho0) hb); have n2_ := Aside0.mk (Kd.N_lower (Kd.N_mono (ok' := fun k_ => (P0_ k_ ∨ w.heap.size ≤ k_) ∧ k_ ≠ gb240) ho0 (fun k_ hk_ => ⟨Or.elim hk_ (fun hs_ => Or.elim hs_ (fun hs_ => hs_.1) (fun hs_ => hs_.1)) (fun hn_ => (.inr (Nat.le_trans (below_size (by repeat (first | (with_reducible first | exact HB.out | apply below_alloc | apply pw_below_drewN | apply below_drew1 | refine below_set ?_ GE240.out) | exact HB.out))) hn_))), Or.elim hk_ (fun hs_ => Or.elim hs_ (fun hs_ => hs_.2.2) (fun hs_ => hs_.2)) (fun hn_ => (Kd.freshB (g := gb240) (o := .cells #[.int .i64 a1, .int .i64 ((rd_T44 l0 t236).f1), .slice Ao87 x241002_70.length co87] 44 (0, 0)) (by (with_reducible repeat (first | refine blk_drewN ?_ _ | refine blk_drew ?_ | refine blk_alloc ?_ _)); exact BK240.out) k_ hn_))⟩)) (below_size (by repeat (first | (with_reducible first | exact HB.out | apply below_alloc | apply pw_below_drewN | apply below_drew1 | refine below_set ?_ GE240.out) | exact HB.out)))); have n3_ := Aside0.mk (blk_below (g := gb240) (o := .cells #[.int .i64 a1, .int .i64 ((rd_T44 l0 t236).f1), .slice Ao87 x241002_70.length co87] 44 (0, 0)) (by (with_reducible repeat (first | refine blk_drewN ?_ _ | refine blk_drew ?_ | refine blk_alloc ?_ _)); exact BK240.out) hb); have n4_ := Aside0.mk (below_step (by repeat (first | (with_reducible first | exact HB.out | apply below_alloc | apply pw_below_drewN | apply below_drew1 | refine below_set ?_ GE240.out) | exact HB.out)) hb); clear HO_0; clear HO_241002; clear BK240; clear HB; have HO_0 := n0_; have HO_241002 := n1_; have HO268 := n2_; have BK240 := n3_; have HB := n4_; clear n0_ n1_ n2_ n3_ n4_; (try clear hb); (try clear hb2); (try clear hk); (try clear hi); (try clear ho0)))
               go_ret2
               exact ⟨_, by first | rfl | (simp [errW_none, errW_some] <;> rfl) | (simp [*, errW_none, errW_some] <;> rfl), by (with_reducible repeat (first | apply Kd.N_alloc | apply Kd.N_drewN | apply Kd.N_drew)); exact Kd.N_mono HO268.out (fun _ hk => hk.1), by repeat (first | (with_reducible first | exact HB.out | apply below_alloc | apply pw_below_drewN | apply below_drew1 | refine below_set ?_ GE240.out) | exact HB.out)⟩
         ·rw [if_neg c23] at H
          exact absurd H (by simp)
        ·rw [if_neg c22] at H
         exact absurd H (by simp)
     ·rw [if_neg c19] at H
      exact absurd H (by simp)
    ·rw [if_neg c18] at H
     exact absurd H (by simp)

end Go.Proofs.Ytafnjlgdjhegaaa.Pr
